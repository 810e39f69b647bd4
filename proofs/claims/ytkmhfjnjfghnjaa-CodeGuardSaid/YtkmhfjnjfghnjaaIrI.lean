/- Layer 21: the walks of the closures over tests that capture nothing, and of the search by them. -/
import Derived.Test.YtkmhfjnjfghnjaaIrH
namespace Go.Proofs.Ytkmhfjnjfghnjaa
open Go.RowKit V
namespace L21
/-- the place of the first test of which something holds, or -1 -/
def idxA (p : Test → Bool) : List Test → Nat → Int
  | [], _ => -1
  | t :: r, k => if p t = true then (k : Int) else idxA p r (k + 1)
theorem idxA_step {p : Test → Bool} {ts : List Test} {k : Nat} (h : k < ts.length) : idxA p (ts.drop k) k = if p ts[k] = true then (k : Int) else idxA p (ts.drop (k + 1)) (k + 1) := by
  rw [List.drop_eq_getElem_cons h]; rfl
theorem idxA_end (p : Test → Bool) (ts : List Test) (k : Nat) : idxA p (ts.drop ts.length) k = -1 := by rw [List.drop_length]; rfl
def badT (t : Test) : Bool := !mayT t
def zeroT (t : Test) : Bool := t.mask == 0
set_option maxHeartbeats 400000 in
theorem badT_calls (t : Test) (ht : OkT t) (w : World) :
    Calls Try.prog 84 #[.agg #[.int .i64 t.arg, .int .u64 (t.mask : Int), .int .u64 (t.value : Int), .int .u32 (t.action : Int)]] w fun e w' => e = .returned (.bool (badT t)) ∧ Ext w w' := by
  have hM := fun W => mayTest_calls t ht W
  unfold badT
  generalize mayT t = mb at *
  have HhM := Lib.hid hM
  clear hM
  go_enter Try.func84, Try.ntmps84
  go_wp2_with fail
  refine (HhM.out _).mono ?_
  rintro e w1 ⟨rfl, hx1⟩
  go_wp2_with fail
  go_ret
  exact ⟨rfl, ((Ext.refl _).alloc _).trans hx1⟩
set_option maxHeartbeats 400000 in
theorem zeroT_calls (t : Test) (_ : OkT t) (w : World) :
    Calls Try.prog 79 #[.agg #[.int .i64 t.arg, .int .u64 (t.mask : Int), .int .u64 (t.value : Int), .int .u32 (t.action : Int)]] w fun e w' => e = .returned (.bool (zeroT t)) ∧ Ext w w' := by
  have hq : ((t.mask : Int) == 0) = (t.mask == 0) := by rw [Bool.eq_iff_iff]; simp
  unfold zeroT
  go_enter Try.func79, Try.ntmps79
  go_wp2
  go_ret
  exact ⟨by first | rfl | rw [hq] | simp [hq], (Ext.refl _).alloc _⟩
set_option maxRecDepth 100000 in
set_option maxHeartbeats 400000 in
theorem idxBad_calls (v : Value) (ts : List Test) (hl : ts.length ≤ 140737488351232) (hok : ∀ t ∈ ts, OkT t) (w : World) (hv : Rd w 4 encT v ts) :
    Calls Try.prog 78 #[v, .func (.func 84) #[] #[]] w fun e w' => e = .returned (.int .i64 (idxA badT ts 0)) ∧ Ext w w' := by
  obtain ⟨a, c, rfl, hac, hca⟩ := rdT_cell hv
  clear hv
  have Hhok := Lib.hid hok
  clear hok
  have Hhca := Lib.hid hca
  clear hca
  go_enter Try.func78, Try.ntmps78
  go_wp2
  go_loopw [8] (fun i wr => ∃ k : Nat, k ≤ ts.length ∧ i = .int .i64 k ∧ Ext w wr ∧ idxA badT ts 0 = idxA badT (ts.drop k) k) (fun i _ => ts.length - (intOf i).toNat)
  case atStart => exact ⟨0, by omega, rfl, Ext.refl _, rfl⟩
  case round =>
    obtain ⟨k, hk, rfl, hx, heq⟩ := hrel
    have HX := Lib.hid hx
    by_cases hlt : k < ts.length
    · obtain ⟨b, o, rfl, h1, h2, h3, h4⟩ := Hhca.out k hlt
      replace h1 := hx.cell h1; replace h2 := hx.cell h2; replace h3 := hx.cell h3; replace h4 := hx.cell h4
      rw [idxA_step hlt] at heq
      have hC := fun W => badT_calls (ts[k]'hlt) (Hhok.out _ (List.getElem_mem hlt)) W
      clear hx
      generalize ts[k]'hlt = t at *
      cases hp : badT t
      all_goals
        rw [hp] at hC heq
        simp only [if_true, if_false, Bool.false_eq_true] at heq
        have HhC := Lib.hid hC
        clear hC
        have Hheq := Lib.hid heq
        clear heq
        have Hhp := Lib.hid hp
        clear hp
        go_wp2_with fail
        refine (HhC.out _).mono ?_
        rintro e w2 ⟨rfl, hx2⟩
        go_wp2_with fail
      · first
          | (go_roundw
             case rel => exact ⟨k + 1, by omega, by go_num, HX.out.trans hx2, Hheq.out⟩
             case measure => simp [intOf]; omega)
          | exact ⟨⟨k + 1, by omega, by go_num, HX.out.trans hx2, Hheq.out⟩, by simp [intOf]; omega⟩
      · go_ret
        exact ⟨by rw [Hheq.out]; rfl, HX.out.trans hx2⟩
    · obtain rfl : k = ts.length := by omega
      rw [idxA_end] at heq
      have Hheq := Lib.hid heq
      clear heq
      clear hx
      go_wp2
      go_ret
      exact ⟨by rw [Hheq.out]; rfl, HX.out⟩
set_option maxRecDepth 100000 in
set_option maxHeartbeats 400000 in
theorem idxZero_calls (v : Value) (ts : List Test) (hl : ts.length ≤ 140737488351232) (hok : ∀ t ∈ ts, OkT t) (w : World) (hv : Rd w 4 encT v ts) :
    Calls Try.prog 78 #[v, .func (.func 79) #[] #[]] w fun e w' => e = .returned (.int .i64 (idxA zeroT ts 0)) ∧ Ext w w' := by
  obtain ⟨a, c, rfl, hac, hca⟩ := rdT_cell hv
  clear hv
  have Hhok := Lib.hid hok
  clear hok
  have Hhca := Lib.hid hca
  clear hca
  go_enter Try.func78, Try.ntmps78
  go_wp2
  go_loopw [8] (fun i wr => ∃ k : Nat, k ≤ ts.length ∧ i = .int .i64 k ∧ Ext w wr ∧ idxA zeroT ts 0 = idxA zeroT (ts.drop k) k) (fun i _ => ts.length - (intOf i).toNat)
  case atStart => exact ⟨0, by omega, rfl, Ext.refl _, rfl⟩
  case round =>
    obtain ⟨k, hk, rfl, hx, heq⟩ := hrel
    have HX := Lib.hid hx
    by_cases hlt : k < ts.length
    · obtain ⟨b, o, rfl, h1, h2, h3, h4⟩ := Hhca.out k hlt
      replace h1 := hx.cell h1; replace h2 := hx.cell h2; replace h3 := hx.cell h3; replace h4 := hx.cell h4
      rw [idxA_step hlt] at heq
      have hC := fun W => zeroT_calls (ts[k]'hlt) (Hhok.out _ (List.getElem_mem hlt)) W
      clear hx
      generalize ts[k]'hlt = t at *
      cases hp : zeroT t
      all_goals
        rw [hp] at hC heq
        simp only [if_true, if_false, Bool.false_eq_true] at heq
        have HhC := Lib.hid hC
        clear hC
        have Hheq := Lib.hid heq
        clear heq
        have Hhp := Lib.hid hp
        clear hp
        go_wp2_with fail
        refine (HhC.out _).mono ?_
        rintro e w2 ⟨rfl, hx2⟩
        go_wp2_with fail
      · first
          | (go_roundw
             case rel => exact ⟨k + 1, by omega, by go_num, HX.out.trans hx2, Hheq.out⟩
             case measure => simp [intOf]; omega)
          | exact ⟨⟨k + 1, by omega, by go_num, HX.out.trans hx2, Hheq.out⟩, by simp [intOf]; omega⟩
      · go_ret
        exact ⟨by rw [Hheq.out]; rfl, HX.out.trans hx2⟩
    · obtain rfl : k = ts.length := by omega
      rw [idxA_end] at heq
      have Hheq := Lib.hid heq
      clear heq
      clear hx
      go_wp2
      go_ret
      exact ⟨by rw [Hheq.out]; rfl, HX.out⟩
end L21
end Go.Proofs.Ytkmhfjnjfghnjaa
