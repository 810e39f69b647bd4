import Derived.Test.YtkmhfjnjfghnjaaMq16
/- Layer 3: the walk of Word. -/
namespace Go.Proofs.Ytkmhfjnjfghnjaa
open Go.RowKit V
namespace L25
set_option maxRecDepth 100000 in
theorem idx_tab (d : Dat) (k : Nat) (h : k < 64) (w : World) : (Instr.index 127 (.agg (tabC d)) (.int .u32 ((k : Int) / 4))).run Try.prog w = .ok (.int .u32 (wd d k : Nat)) w := by
  have hj : k / 4 < 16 := by omega
  have e : ((k : Int) / 4) = ((k / 4 : Nat) : Int) := by omega
  have hw : wd d k = (wds d).getD (k / 4) 0 := rfl
  rw [e, hw]
  generalize k / 4 = j at *
  rcases lt16 j hj with rfl | rfl | rfl | rfl | rfl | rfl | rfl | rfl | rfl | rfl | rfl | rfl | rfl | rfl | rfl | rfl <;> rfl
set_option maxRecDepth 100000 in
set_option maxHeartbeats 1000000 in
theorem Word_calls (d : Dat) (hd : OkD d) (k : Nat) (w : World) :
    Calls Try.prog 58 #[datV d, .int .u32 (k : Int)] w fun e w' => e = .returned (.tuple #[.int .u32 ((wordA d k).1 : Nat), .int .i64 (wordA d k).2]) ∧ Ext w w' := by
  have hT := fun W => table_calls d hd W
  unfold datV tabV at hT
  unfold datV
  by_cases h1 : k % 4 = 0
  · have d1 : ((k : Int) % 4 != 0) = false := by simp; omega
    by_cases h2 : k < 64
    · have hA : wordA d k = (wd d k, 0) := by unfold wordA; rw [if_pos (by simp [okW, h1, h2])]
      have d2 : decide (64 ≤ (k : Int)) = false := decide_eq_false (by omega)
      have d2' : decide (64 ≤ k) = false := decide_eq_false (by omega)
      have hI := idx_tab d k h2
      rw [hA]
      have HhA := Lib.hid hA
      clear hA
      have HhT := Lib.hid hT
      clear hT
      have Hh1 := Lib.hid h1
      clear h1
      generalize tabC d = T at *
      go_enter Try.func58, Try.ntmps58
      go_wp2_with ((go_at_call 89; refine (HhT.out _).mono ?_; rintro e w1 ⟨rfl, hx1⟩))
      go_ret2
      exact ⟨rfl, ((Ext.refl _).alloc _).trans hx1⟩
    · have hA : wordA d k = (0, 41) := by unfold wordA; rw [if_neg (by simp [okW]; omega)]
      have d2 : decide (64 ≤ (k : Int)) = true := decide_eq_true (by omega)
      have d2' : decide (64 ≤ k) = true := decide_eq_true (by omega)
      rw [hA]
      have HhA := Lib.hid hA
      clear hA
      have HhT := Lib.hid hT
      clear hT
      have Hh1 := Lib.hid h1
      clear h1
      have Hh2 := Lib.hid h2
      clear h2
      go_enter Try.func58, Try.ntmps58
      go_wp2
      go_ret2
      exact ⟨rfl, ((Ext.refl _).alloc _)⟩
  · have d1 : ((k : Int) % 4 != 0) = true := by simp; omega
    have hA : wordA d k = (0, 41) := by unfold wordA; rw [if_neg (by simp [okW]; omega)]
    rw [hA]
    have HhA := Lib.hid hA
    clear hA
    have HhT := Lib.hid hT
    clear hT
    have Hh1 := Lib.hid h1
    clear h1
    go_enter Try.func58, Try.ntmps58
    go_wp2
    go_ret2
    exact ⟨rfl, ((Ext.refl _).alloc _)⟩
end L25
end Go.Proofs.Ytkmhfjnjfghnjaa

