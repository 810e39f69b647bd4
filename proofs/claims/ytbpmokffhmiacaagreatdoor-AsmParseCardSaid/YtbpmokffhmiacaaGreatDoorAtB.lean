/- Layer 7: the walks of number, place. -/
import Derived.Test.YtbpmokffhmiacaaGreatDoorAtA
namespace Go.Proofs.YtbpmokffhmiacaaGreatDoor
open Go.RowKit Go.Shelf Go.Sort V
attribute [local go_sem] Oper.semAt_some
namespace L07
set_option maxRecDepth 100000 in
set_option maxHeartbeats 4000000 in
theorem number_calls (ws : List (List UInt8)) (v : Value) (hb : ∀ x ∈ ws, x.length ≤ 1000000) (hl : ws.length ≤ 1000000) (w : World) (ht : Tb w) (w0 : World) (hx0 : Ext w0 w) (hv0 : Rd w0 1 encS v ws) :
    Calls Tryz.prog 27 #[v] w fun e w' => Ext w w' ∧ ∃ (k : Int) (v' : Value), e = .returned (.tuple #[.int .u32 k, v', .bool (numberA ws).isSome]) ∧ ∀ u r, numberA ws = some (u, r) → k = (u : Int) ∧ u < 4294967296 ∧ Rd w0 1 encS v' r := by
  have hv := hv0.ext hx0
  have hvR := hv
  obtain ⟨a, c, rfl, -, hca⟩ := rdS_cell hv
  cases ws with
  | nil =>
    clear hca hvR hv hb ht hx0 hv0
    go_enter Tryz.func27, Tryz.ntmps27
    go_wp2_with fail
    go_ret3
    exact ⟨Ext.refl _, 0, _, rfl, fun u r h => by cases h⟩
  | cons x r =>
    obtain ⟨b, o, rfl, h0⟩ := hca 0 (by simp)
    have h0' : w.cell? ⟨b, o, none⟩ = some (.string (str x)) := h0
    obtain ⟨A, hsl, hrd⟩ := rd_tail hv0
    have hP := fun W (h : Tb W) => ParseUint_calls (str x) (by rw [str_size]; exact hb x (by simp)) W h
    rw [bytes_str] at hP
    have hn : numberA (x :: r) = (numW x).map fun u => (u, r) := rfl
    rw [hn]
    have hlen : (x :: r).length = r.length + 1 := rfl
    have hl0 : r.length + 1 ≤ 1000000 := hl
    rw [hlen] at hsl ⊢
    have HR := Lib.hid hrd
    clear hca h0 hvR hv hx0 hv0 hb hn hlen hrd hl
    generalize numW x = nw at *
    generalize str x = sx at *
    have HhP := Lib.hid hP
    clear hP
    go_enter Tryz.func27, Tryz.ntmps27
    go_wp2_with fail
    refine (HhP.out _ ht).mono ?_
    rintro e w1 ⟨y, ev, rfl, (⟨u, rfl, rfl, hu, rfl⟩ | ⟨rfl, t, p, rfl⟩), hx1⟩
    · have HX1 := Lib.hid hx1
      have hwr : IntKind.u32.wrap (u : Int) = (u : Int) := by simp [IntKind.wrap, IntKind.signed, IntKind.bits]; omega
      clear hx1
      go_wp2_with (go_quiet (fail))
      go_ret3
      refine ⟨by repeat (first | exact HX1.out | apply Ext.drewN), _, _, rfl, fun u' r' h => ?_⟩
      simp only [Option.map_some, Option.some.injEq, Prod.mk.injEq] at h
      obtain ⟨rfl, rfl⟩ := h
      exact ⟨rfl, hu, HR.out⟩
    · have HX1 := Lib.hid hx1
      clear hx1
      go_wp2_with (go_quiet (fail))
      go_ret3
      refine ⟨by repeat (first | exact HX1.out | apply Ext.drewN), _, _, rfl, fun u' r' h => ?_⟩
      cases h
def isL : List UInt8 → Bool
  | [] => false
  | c :: _ => c == 76
theorem pre_L (l : List UInt8) : Lib.hasPrefix l [76] = isL l := by
  cases l with
  | nil => rfl
  | cons c r =>
    show ([76].isPrefixOf (c :: r)) = (c == 76)
    rw [Bool.eq_iff_iff]
    simp [List.isPrefixOf]
    exact eq_comm
theorem place_out (at' : Nat) (c : UInt8) (w : List UInt8) (r : List (List UInt8)) : placeA at' ((c :: w) :: r) = if c = 76 then (match intW w with
    | some x => if (at' : Int) < x ∧ x < 4096 then some ((x - at' - 1).toNat, r) else none
    | none => none) else none := rfl
set_option maxRecDepth 100000 in
set_option maxHeartbeats 8000000 in
theorem place_calls (ws : List (List UInt8)) (v : Value) (hb : ∀ x ∈ ws, x.length ≤ 1000000) (hl : ws.length ≤ 1000000) (p : Nat) (hp : p ≤ 1000000) (w : World) (ht : Tb w) (w0 : World) (hx0 : Ext w0 w) (hv0 : Rd w0 1 encS v ws) :
    Calls Tryz.prog 28 #[v, .int .i64 (p : Int)] w fun e w' => Ext w w' ∧ ∃ (k : Int) (v' : Value), e = .returned (.tuple #[.int .i64 k, v', .bool (placeA p ws).isSome]) ∧ ∀ u r, placeA p ws = some (u, r) → k = (u : Int) ∧ u < 4096 ∧ Rd w0 1 encS v' r := by
  have hv := hv0.ext hx0
  have hvR := hv
  obtain ⟨a, c, rfl, -, hca⟩ := rdS_cell hv
  cases ws with
  | nil =>
    clear hca hvR hv hb ht hx0 hv0
    go_enter Tryz.func28, Tryz.ntmps28
    go_wp2_with fail
    go_ret3
    exact ⟨Ext.refl _, 0, _, rfl, fun u r h => by cases h⟩
  | cons x r =>
    obtain ⟨b, o, rfl, h0⟩ := hca 0 (by simp)
    have h0' : w.cell? ⟨b, o, none⟩ = some (.string (str x)) := h0
    obtain ⟨A, hsl, hrd⟩ := rd_tail hv0
    have hH := fun W => Tryz.strings_HasPrefix (str x) ⟨#[76]⟩ W
    have hpe : Lib.hasPrefix (str x).data.toList (⟨#[76]⟩ : ByteArray).data.toList = isL x := pre_L x
    rw [hpe] at hH
    have hlen : (x :: r).length = r.length + 1 := rfl
    have hl0 : r.length + 1 ≤ 1000000 := hl
    rw [hlen] at hsl ⊢
    have HR := Lib.hid hrd
    have hxl := hb x (by simp)
    clear hca h0 hvR hv hx0 hv0 hb hlen hrd hl hpe
    have hno : isL x = false → placeA p (x :: r) = none := fun h => by
      cases x with
      | nil => rfl
      | cons c x' =>
        have hc : ¬ c = 76 := by simpa [isL] using h
        rw [place_out, if_neg hc]
    cases hm : isL x
    · rw [hno hm]
      rw [hm] at hH
      generalize str x = sx at *
      have HhH := Lib.hid hH
      clear hH
      clear hno hm
      go_enter Tryz.func28, Tryz.ntmps28
      go_wp2_with fail
      refine (HhH.out _).mono ?_
      rintro e w1 ⟨rfl, rfl⟩
      go_wp2_with fail
      go_ret3
      exact ⟨Ext.refl _, 0, _, rfl, fun u r h => by cases h⟩
    · rw [hm] at hH
      cases x with
      | nil => cases hm
      | cons c x' =>
        have hc : c = 76 := by simpa [isL] using hm
        obtain ⟨R, hR⟩ : ∃ R, placeA p ((c :: x') :: r) = R := ⟨_, rfl⟩
        rw [hR]
        rw [place_out, if_pos hc] at hR
        have hA := fun W (h : Tb W) => Atoi_calls (str x') (by rw [str_size]; simp at hxl; omega) W h
        rw [bytes_str] at hA
        have hex : (str (c :: x')).extract 1 (str (c :: x')).size = str x' := bytes_inj (by
          rw [bytes_str]
          show ((str (c :: x')).extract 1 (str (c :: x')).size).data.toList = _
          rw [Lib.extract_to_end]; rfl)
        have hsz : 1 ≤ (str (c :: x')).size := by rw [str_size]; simp
        clear hno hm hc hxl
        generalize intW x' = iw at *
        generalize str (c :: x') = sx at *
        generalize str x' = sx' at *
        have HhH := Lib.hid hH
        clear hH
        have HhA := Lib.hid hA
        clear hA
        have HhR := Lib.hid hR
        clear hR
        go_enter Tryz.func28, Tryz.ntmps28
        go_wp2_with (go_at_call 43; refine (HhH.out _).mono ?_; rintro e w1 ⟨rfl, rfl⟩)
        refine (HhA.out _ ht).mono ?_
        rintro e w2 ⟨y, ev, rfl, (⟨rfl, hy, rfl⟩ | ⟨rfl, t, q, rfl⟩), hx2⟩
        · have HX2 := Lib.hid hx2
          clear hx2
          by_cases h1 : (p : Int) < y
          · have d1 : decide ((p : Int) < y) = true := decide_eq_true h1
            by_cases h2 : y < 4096
            · have d2 : decide (y < 4096) = true := decide_eq_true h2
              obtain ⟨z, hz⟩ : ∃ z : Nat, y = (z : Int) := ⟨y.toNat, by omega⟩
              subst hz
              have w1' : IntKind.i64.wrap ((z : Int) - (p : Int)) = ((z - p : Nat) : Int) := by rw [IntWalk.i64_in _ (by omega)]; omega
              have w2' : IntKind.i64.wrap (((z - p : Nat) : Int) - 1) = ((z - p - 1 : Nat) : Int) := by rw [IntWalk.i64_in _ (by omega)]; omega
              have hfin : R = some (z - p - 1, r) := by
                rw [← HhR.out]
                show (if (p : Int) < (z : Int) ∧ (z : Int) < 4096 then some (((z : Int) - p - 1).toNat, r) else none) = _
                rw [if_pos ⟨h1, h2⟩]
                have e : ((z : Int) - p - 1).toNat = z - p - 1 := by omega
                rw [e]
              generalize hzz : z - p - 1 = m at *
              have hmm : m < 4096 := by omega
              generalize z - p = m1 at *
              have Hhfin := Lib.hid hfin
              clear hfin
              go_wp2_with (go_quiet (fail))
              go_ret3
              have hf := Hhfin.out
              subst hf
              refine ⟨by repeat (first | exact HX2.out | apply Ext.drewN), _, _, rfl, fun u' r' h => ?_⟩
              simp only [Option.some.injEq, Prod.mk.injEq] at h
              obtain ⟨rfl, rfl⟩ := h
              exact ⟨rfl, hmm, HR.out⟩
            · have d2 : decide (y < 4096) = false := decide_eq_false h2
              have hfin : R = none := by rw [← HhR.out]; exact if_neg (fun h => h2 h.2)
              have Hhfin := Lib.hid hfin
              clear hfin
              go_wp2_with (go_quiet (fail))
              go_ret3
              have hf := Hhfin.out
              subst hf
              exact ⟨by repeat (first | exact HX2.out | apply Ext.drewN), _, _, rfl, fun u' r' h => by cases h⟩
          · have d1 : decide ((p : Int) < y) = false := decide_eq_false h1
            have hfin : R = none := by rw [← HhR.out]; exact if_neg (fun h => h1 h.1)
            have Hhfin := Lib.hid hfin
            clear hfin
            go_wp2_with (go_quiet (fail))
            go_ret3
            have hf := Hhfin.out
            subst hf
            exact ⟨by repeat (first | exact HX2.out | apply Ext.drewN), _, _, rfl, fun u' r' h => by cases h⟩
        · have HX2 := Lib.hid hx2
          have hfin : R = none := HhR.out.symm
          have Hhfin := Lib.hid hfin
          clear hfin
          clear hx2
          go_wp2_with (go_quiet (fail))
          go_ret3
          have hf := Hhfin.out
          subst hf
          exact ⟨by repeat (first | exact HX2.out | apply Ext.drewN), _, _, rfl, fun u' r' h => by cases h⟩
end L07
end Go.Proofs.YtbpmokffhmiacaaGreatDoor
