/- Layer 7: the walks of the reference's Of, Known, WithX, shape, plain. -/
import Derived.Test.YtbpmokffhmiacaaGreatDoorAsmL
namespace Go.Proofs.YtbpmokffhmiacaaGreatDoor
open Go.RowKit Go.Shelf Go.Sort V
attribute [local go_sem] Oper.semAt_some
namespace L07
theorem rdEn_cell {w : World} {v : Value} {xs : List En} (h : Rd w 3 encEn v xs) : ∃ a c, v = .slice a xs.length c ∧ xs.length ≤ c ∧ ∀ i, (hi : i < xs.length) → ∃ b o, a = some ⟨b, o, none⟩ ∧
    w.cell? ⟨b, o + i * 3, none⟩ = some (.int .u16 (xs[i].c : Int)) ∧ w.cell? ⟨b, o + i * 3 + 1, none⟩ = some (.string (str xs[i].nm)) ∧ w.cell? ⟨b, o + i * 3 + 2, none⟩ = some (.int .u8 (xs[i].cl : Int)) := by
  obtain ⟨a, c, h1, h2, h3, h4⟩ := h
  refine ⟨a, c, h1, h2, fun i hi => ?_⟩
  obtain ⟨b, o, e, k⟩ := h4 i hi
  exact ⟨b, o, e, k 0 (by simp [encEn]), k 1 (by simp [encEn]), k 2 (by simp [encEn])⟩
theorem cell_end1 {fn : Func} {T : TypeId} {w W : World} {A : Act} {B : Nat} {x y z a b c : Value} {Q : Ending → World → Prop} (hr : fn.results = #[.cell 2 T]) (hz : (Tryz.prog.info? T).map (·.size) = some 3) (hu : ∃ fs, Tryz.prog.underlying T = some (.struct fs))
    (h2 : A.tmps.getD 2 undef = .pointer (some ⟨B, 0, none⟩)) (hd : A.defers = []) (c0 : W.cell? ⟨B, 0, none⟩ = some a) (c1 : W.cell? ⟨B, 1, none⟩ = some b) (c2 : W.cell? ⟨B, 2, none⟩ = some c) (hE : Ext w W) (hB : w.heap.size ≤ B)
    (hQ : ∀ W', Ext w W' → Q (.returned (.agg #[x, y, z])) W') :
    bodyPost Tryz.prog fn Q .ret A (((W.setCell ⟨B, 0, none⟩ x).setCell ⟨B, 1, none⟩ y).setCell ⟨B, 2, none⟩ z) := by
  obtain ⟨s0, s1, s2⟩ := set3 x y z c0 c1 c2
  refine bodyPost_ret (v := .agg #[x, y, z]) ?_ hd (hQ _ (((hE.setCell hB _).setCell hB _).setCell hB _))
  have hl := load3 hz hu s0 s1 s2
  have h2' : A.tmps[2]?.getD undef = .pointer (some ⟨B, 0, none⟩) := by simpa using h2
  simp [results, hr, h2', asAddr, hl]
set_option maxRecDepth 100000 in
set_option maxHeartbeats 4000000 in
theorem rOf_calls (code : Nat) (w : World) : Calls Tryz.prog 17 #[.int .u16 (code : Int)] w fun r w' => r = .returned (enE (entry code)) ∧ Ext w w' := by
  obtain ⟨R, hR⟩ : ∃ R, R = tabR.find? (fun e => e.c == code) := ⟨_, rfl⟩
  have hE := ref_entry code
  rw [← hR] at hE
  have HR := Lib.hid hR
  rw [← hE]
  clear hR hE
  go_enter Tryz.func17, Tryz.ntmps17
  go_wp2_with fail
  refine (All_calls _).mono ?_
  rintro r w1 ⟨v, rfl, hx1, hrd⟩
  obtain ⟨a, c, rfl, -, hca⟩ := rdEn_cell hrd
  have hlen := tabR_len
  obtain ⟨q0, q1, q2, f0, f1, f2, -⟩ := blk3 hx1
  have HX1 := Lib.hid (((Ext.refl w).alloc _).trans hx1)
  obtain ⟨len, hln⟩ : ∃ len, tabR.length = len := ⟨_, rfl⟩
  have HL := Lib.hid (hln.symm.trans hlen)
  have hb : len ≤ 41 := by omega
  clear hrd hx1 hlen
  generalize tabR = tab at *
  subst hln
  go_wp2_with fail
  go_loopw [4] (fun i wr => ∃ k : Nat, k ≤ tab.length ∧ i = .int .i64 (k : Int) ∧ wr = w1 ∧ ∀ (j : Nat) (hj : j < tab.length), j < k → (fun e : En => e.c == code) tab[j] = false) (fun i _ => tab.length - (intOf i).toNat)
  case atStart => exact ⟨0, by omega, rfl, rfl, fun j _ h => by omega⟩
  case round =>
    obtain ⟨k, hk, rfl, rfl, hno⟩ := hrel
    have HNO := Lib.hid hno
    clear hno
    by_cases hlt : k < tab.length
    · obtain ⟨b, o, rfl, h1, h2, h3⟩ := hca k hlt
      have hat : (fun e : En => e.c == code) tab[k] = true → R = some tab[k] := fun h => by rw [HR.out]; exact find_at hlt HNO.out h
      have hnx : (fun e : En => e.c == code) tab[k] = false → ∀ (j : Nat) (hj : j < tab.length), j < k + 1 → (fun e : En => e.c == code) tab[j] = false := fun hf j hj h => by
        by_cases e : j = k
        · subst e; exact hf
        · exact HNO.out j hj (by omega)
      have HK := Lib.hid (And.intro hlt HL.out)
      generalize tab[k] = e at *
      dsimp only at *
      have HAT := Lib.hid hat
      have HNX := Lib.hid hnx
      clear hat hnx hca
      obtain ⟨p1, -⟩ := ne_nat e.c code
      cases hp : e.c == code
      · rw [hp] at p1
        have HNX2 := Lib.hid (HNX.out hp)
        clear hp
        go_wp2_with fail
        go_roundw
        case rel => exact ⟨k + 1, by omega, by go_num, trivial, HNX2.out⟩
        case measure => simp [intOf]; omega
      · rw [hp] at p1
        have hRe := HAT.out hp
        subst hRe
        clear hp
        obtain ⟨ec, nm, cl⟩ := e
        dsimp only at *
        go_wp2_with fail
        exact cell_end1 Tryz.results17 (by kernel_rfl) ⟨_, Tryz.underlying49⟩ rfl rfl q0 q1 q2 HX1.out (Nat.le_refl _) (fun W' h => ⟨rfl, h⟩)
    · obtain rfl : k = tab.length := by omega
      have hR0 : R = none := by rw [HR.out]; exact find_no (fun j hj => HNO.out j hj hj)
      subst hR0
      clear hca
      go_wp2_with fail
      exact cell_end1 Tryz.results17 (by kernel_rfl) ⟨_, Tryz.underlying49⟩ rfl rfl q0 q1 q2 HX1.out (Nat.le_refl _) (fun W' h => ⟨rfl, h⟩)
end L07
end Go.Proofs.YtbpmokffhmiacaaGreatDoor
