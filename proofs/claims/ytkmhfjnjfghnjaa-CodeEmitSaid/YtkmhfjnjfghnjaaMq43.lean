import Derived.Test.YtkmhfjnjfghnjaaMq42
/- Layers 1 and 3: the walks of the reference's Get and Print, and of its Word. -/
namespace Go.Proofs.Ytkmhfjnjfghnjaa
open Go.RowKit V
namespace L25
def gv (bs : List Nat) (a : Nat) : Nat → Nat
  | 0 => 0
  | m + 1 => gv bs a m * 256 + bs.getD (a + (3 - m)) 0
theorem getD_bd {bs : List Nat} (h : ∀ x ∈ bs, x < 256) (j : Nat) : bs.getD j 0 < 256 := by
  rw [List.getD_eq_getElem?_getD]
  by_cases hj : j < bs.length
  · rw [List.getElem?_eq_getElem hj]; exact h _ (List.getElem_mem hj)
  · rw [List.getElem?_eq_none (by omega)]; decide
theorem gv_bd {bs : List Nat} (h : ∀ x ∈ bs, x < 256) (a : Nat) : gv bs a 1 < 256 ∧ gv bs a 2 < 65536 ∧ gv bs a 3 < 16777216 ∧ gv bs a 4 < 4294967296 := by
  have h0 := getD_bd h (a + (3 - 0)); have h1 := getD_bd h (a + (3 - 1)); have h2 := getD_bd h (a + (3 - 2)); have h3 := getD_bd h (a + (3 - 3))
  simp only [gv]
  omega
set_option maxRecDepth 100000 in
set_option maxHeartbeats 400000 in
theorem Get_calls (v : Value) (bs : List Nat) (a : Nat) (hl : bs.length ≤ 1000) (hb : ∀ x ∈ bs, x < 256) (ha : a + 4 ≤ bs.length) (w : World) (hv : Rd w 1 encO v bs) :
    Calls Try.prog 90 #[v, .int .i64 (a : Int), .int .i64 4] w fun e w' => e = .returned (.tuple #[.int .u64 (gv bs a 4 : Nat), .bool true]) ∧ Ext w w' := by
  obtain ⟨ad, c, rfl, hac, hca⟩ := rdO_cell hv
  have hg := gv_bd hb a
  have hgb := fun j => getD_bd hb j
  have hcell : ∀ j, j < 4 → ∃ b o, ad = some ⟨b, o, none⟩ ∧ w.cell? ⟨b, o + (a + j), none⟩ = some (.int .u8 (bs.getD (a + j) 0 : Nat)) := by
    intro j hj
    obtain ⟨b, o, e, h⟩ := hca (a + j) (by omega)
    refine ⟨b, o, e, ?_⟩
    rw [h, List.getD_eq_getElem?_getD, List.getElem?_eq_getElem (by omega)]; rfl
  have d1 : decide ((a : Int) < 0) = false := decide_eq_false (by omega)
  have d2 : decide ((bs.length : Int) < 4) = false := decide_eq_false (by omega)
  have d3 : decide ((bs.length : Int) - 4 < (a : Int)) = false := decide_eq_false (by omega)
  clear hv hca
  have Hhg := Lib.hid hg
  clear hg
  have Hhgb := Lib.hid hgb
  clear hgb
  have Hhcell := Lib.hid hcell
  clear hcell
  go_enter Try.func90, Try.ntmps90
  go_wp2
  go_loopw [8, 9] (fun x i wr => ∃ m : Nat, m ≤ 4 ∧ i = .int .i64 (3 - (m : Int)) ∧ x = .int .u64 (gv bs a m : Nat) ∧ Ext w wr) (fun _ i _ => (intOf i + 1).toNat)
  case atStart => exact ⟨0, by omega, rfl, rfl, Ext.refl _⟩
  case round =>
    obtain ⟨m, hm, rfl, rfl, hx⟩ := hrel
    have HX := Lib.hid hx
    by_cases hlt : m < 4
    · obtain ⟨b, o, rfl, h⟩ := Hhcell.out (3 - m) (by omega)
      replace h := hx.cell h
      have h1 := Hhgb.out (a + (3 - m))
      have h2 : gv bs a m < 16777216 := by
        have := Hhg.out
        rcases (show m = 0 ∨ m = 1 ∨ m = 2 ∨ m = 3 by omega) with rfl | rfl | rfl | rfl
        · exact (by decide : 0 < 16777216)
        all_goals omega
      have h3 : gv bs a (m + 1) = gv bs a m * 256 + bs.getD (a + (3 - m)) 0 := rfl
      generalize bs.getD (a + (3 - m)) 0 = y at *
      generalize gv bs a m = x at *
      have hw1 : IntKind.u64.wrap ((x : Int) * 256) = (x : Int) * 256 := IntWalk.u64_in _ (by omega)
      have hw2 : IntKind.u64.wrap ((x : Int) * 256 + (y : Int)) = (x : Int) * 256 + (y : Int) := IntWalk.u64_in _ (by omega)
      have hix : (a : Int) + (3 - (m : Int)) = ((a + (3 - m) : Nat) : Int) := by omega
      have dj : decide (0 ≤ (3 : Int) - (m : Int)) = true := decide_eq_true (by omega)
      have Hh3 := Lib.hid h3
      clear h3
      clear hx
      generalize hji : a + (3 - m) = ji at *
      have Hhji := Lib.hid hji
      clear hji
      go_wp2_with fail
      refine ⟨⟨m + 1, by omega, by rw [show (3 : Int) - (m : Int) - 1 = 3 - ((m + 1 : Nat) : Int) by omega], by rw [Hh3.out]; simp, HX.out⟩, by simp [intOf]; omega⟩
    · obtain rfl : m = 4 := by omega
      clear hx
      go_wp2_with fail
      go_ret2
      exact ⟨rfl, HX.out⟩
end L25
end Go.Proofs.Ytkmhfjnjfghnjaa

