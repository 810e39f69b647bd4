import Derived.Test.YtkmhfjnjfghnjaaMq5
import Derived.Test.YtkmhfjnjfghnjaaMq17
/- Layer 25: the walk of mayOne. -/
namespace Go.Proofs.Ytkmhfjnjfghnjaa
open Go.RowKit V
namespace L25
def zeroD : Dat := ⟨0, 0, 0, 0, 0, 0, 0, 0, 0⟩
theorem okZ : OkD zeroD := by constructor <;> decide
theorem Word0_calls (k : Nat) (w : World) :
    Calls Try.prog 58 #[.agg #[.int .u32 0, .int .u32 0, .int .u64 0, .int .u64 0, .int .u64 0, .int .u64 0, .int .u64 0, .int .u64 0, .int .u64 0], .int .u32 (k : Int)] w
      fun e w' => ∃ x : Int, e = .returned (.tuple #[.int .u32 x, .int .i64 (if okW k = true then 0 else 41)]) ∧ Ext w w' :=
  (Word_calls zeroD okZ k w).mono fun e w' ⟨h1, h2⟩ => ⟨((wordA zeroD k).1 : Nat), h1.trans (by unfold wordA; split <;> rfl), h2⟩
set_option maxRecDepth 100000 in
set_option maxHeartbeats 8000000 in
theorem mayOne_calls (s : Sy) (i len : Nat) (w : World) :
    Calls Try.prog 61 #[.agg #[.int .u16 (s.c : Int), .int .u32 (s.k : Int), .int .i64 s.th, .int .i64 s.el], .int .i64 (i : Int), .int .i64 (len : Int)] w fun e w' => e = .returned (.bool (may1 len i s)) ∧ Ext w w' := by
  obtain ⟨c, k, th, el⟩ := s
  have hm : may1 len i ⟨c, k, th, el⟩ = if c = 32 then ((th == 0) && (el == 0)) && okW k else if c = 84 ∨ c = 6 then ((th == 0) && (el == 0)) else if c = 5 then (k == 0) && ((el == 0) && there len i th) else asksB c && (there len i th && there len i el) := rfl
  have hth : ∀ (B C : Nat) (W : World) (hB : W.cell? ⟨B, 0, none⟩ = some (.int .i64 (i : Int))) (hC : W.cell? ⟨C, 0, none⟩ = some (.int .i64 (len : Int))), Calls Try.prog 92 #[.int .i64 th, .pointer (some ⟨B, 0, none⟩), .pointer (some ⟨C, 0, none⟩)] W fun e w' => e = .returned (.bool (there len i th)) ∧ Ext W w' := fun B C W hB hC => there_calls th len i B C W hB hC
  have hte : ∀ (B C : Nat) (W : World) (hB : W.cell? ⟨B, 0, none⟩ = some (.int .i64 (i : Int))) (hC : W.cell? ⟨C, 0, none⟩ = some (.int .i64 (len : Int))), Calls Try.prog 92 #[.int .i64 el, .pointer (some ⟨B, 0, none⟩), .pointer (some ⟨C, 0, none⟩)] W fun e w' => e = .returned (.bool (there len i el)) ∧ Ext W w' := fun B C W hB hC => there_calls el len i B C W hB hC
  have hW := fun (W : World) => Word0_calls k W
  have hAs := fun (W : World) => asks_calls c W
  have hk0 : ((k : Int) == 0) = (k == 0) := by rw [Bool.eq_iff_iff]; simp
  dsimp only
  cases hb1 : (th == 0)
  all_goals cases hb2 : (el == 0)
  all_goals
    rw [hb1, hb2] at hm
    by_cases c1 : c = 32
    · subst c1
      rw [if_pos rfl] at hm
      cases hw : okW k
      all_goals
        rw [hw] at hm hW
        simp only [if_true, if_false, Bool.false_eq_true] at hW
        have Hhm := Lib.hid hm
        clear hm
        have HhW := Lib.hid hW
        clear hW
        have Hhw := Lib.hid hw
        clear hw
        have HhAs := Lib.hid hAs
        clear hAs
        have Hhth := Lib.hid hth
        clear hth
        go_enter Try.func61, Try.ntmps61
        go_wp2_with (first
            | (go_at_call 58; refine (HhW.out _).mono ?_; rintro e w1 ⟨x, rfl, hx1⟩))
        go_ret
        (first | (refine ⟨by rw [Hhm.out]; simp, ?_⟩; (repeat (first | exact Ext.refl _ | apply Ext.alloc)); done) | (refine ⟨by rw [Hhm.out]; simp, Ext.trans ?_ hx1⟩; (repeat (first | exact Ext.refl _ | apply Ext.alloc)); done) | (refine ⟨by rw [Hhm.out]; simp, Ext.trans (Ext.trans ?_ hx1) hx2⟩; (repeat (first | exact Ext.refl _ | apply Ext.alloc)); done) | (refine ⟨by rw [Hhm.out]; simp, Ext.trans (Ext.trans (Ext.trans ?_ hx1) hx2) hx3⟩; (repeat (first | exact Ext.refl _ | apply Ext.alloc)); done))
    by_cases c84 : c = 84
    · subst c84
      rw [if_neg (by decide), if_pos (by decide)] at hm
      have Hhm := Lib.hid hm
      clear hm
      have HhW := Lib.hid hW
      clear hW
      have HhAs := Lib.hid hAs
      clear hAs
      have Hhth := Lib.hid hth
      clear hth
      go_enter Try.func61, Try.ntmps61
      go_wp2
      go_ret
      (first | (refine ⟨by rw [Hhm.out]; simp, ?_⟩; (repeat (first | exact Ext.refl _ | apply Ext.alloc)); done) | (refine ⟨by rw [Hhm.out]; simp, Ext.trans ?_ hx1⟩; (repeat (first | exact Ext.refl _ | apply Ext.alloc)); done) | (refine ⟨by rw [Hhm.out]; simp, Ext.trans (Ext.trans ?_ hx1) hx2⟩; (repeat (first | exact Ext.refl _ | apply Ext.alloc)); done) | (refine ⟨by rw [Hhm.out]; simp, Ext.trans (Ext.trans (Ext.trans ?_ hx1) hx2) hx3⟩; (repeat (first | exact Ext.refl _ | apply Ext.alloc)); done))
    by_cases c6 : c = 6
    · subst c6
      rw [if_neg (by decide), if_pos (by decide)] at hm
      have Hhm := Lib.hid hm
      clear hm
      have HhW := Lib.hid hW
      clear hW
      have HhAs := Lib.hid hAs
      clear hAs
      have Hhth := Lib.hid hth
      clear hth
      go_enter Try.func61, Try.ntmps61
      go_wp2
      go_ret
      (first | (refine ⟨by rw [Hhm.out]; simp, ?_⟩; (repeat (first | exact Ext.refl _ | apply Ext.alloc)); done) | (refine ⟨by rw [Hhm.out]; simp, Ext.trans ?_ hx1⟩; (repeat (first | exact Ext.refl _ | apply Ext.alloc)); done) | (refine ⟨by rw [Hhm.out]; simp, Ext.trans (Ext.trans ?_ hx1) hx2⟩; (repeat (first | exact Ext.refl _ | apply Ext.alloc)); done) | (refine ⟨by rw [Hhm.out]; simp, Ext.trans (Ext.trans (Ext.trans ?_ hx1) hx2) hx3⟩; (repeat (first | exact Ext.refl _ | apply Ext.alloc)); done))
    rw [if_neg c1, if_neg (by omega)] at hm
    by_cases c5 : c = 5
    · subst c5
      rw [if_pos rfl] at hm
      clear c1 c84 c6
      cases hk : (k == 0)
      all_goals
        rw [hk] at hm hk0
        have Hhm := Lib.hid hm
        clear hm
        have HhW := Lib.hid hW
        clear hW
        have Hhk := Lib.hid hk
        clear hk
        have HhAs := Lib.hid hAs
        clear hAs
        have Hhth := Lib.hid hth
        clear hth
        go_enter Try.func61, Try.ntmps61
        go_wp2_with (first
            | (go_at_call 92; (with_reducible refine (Hhth.out _ _ _ (by (first | (simp [go_sem]; done) | exact hx1.cell (by simp [go_sem]) | exact (hx1.trans hx2).cell (by simp [go_sem]))) (by (first | (simp [go_sem]; done) | exact hx1.cell (by simp [go_sem]) | exact (hx1.trans hx2).cell (by simp [go_sem])))).mono ?_); rintro e w1 ⟨rfl, hx1⟩))
        go_ret
        (first | (refine ⟨by rw [Hhm.out]; simp, ?_⟩; (repeat (first | exact Ext.refl _ | apply Ext.alloc)); done) | (refine ⟨by rw [Hhm.out]; simp, Ext.trans ?_ hx1⟩; (repeat (first | exact Ext.refl _ | apply Ext.alloc)); done) | (refine ⟨by rw [Hhm.out]; simp, Ext.trans (Ext.trans ?_ hx1) hx2⟩; (repeat (first | exact Ext.refl _ | apply Ext.alloc)); done) | (refine ⟨by rw [Hhm.out]; simp, Ext.trans (Ext.trans (Ext.trans ?_ hx1) hx2) hx3⟩; (repeat (first | exact Ext.refl _ | apply Ext.alloc)); done))
    rw [if_neg c5] at hm
    have e32 : ((c : Int) == 32) = false := by simp; omega
    have e84 : ((c : Int) == 84) = false := by simp; omega
    have e6 : ((c : Int) == 6) = false := by simp; omega
    have e5 : ((c : Int) == 5) = false := by simp; omega
    clear c1 c84 c6 c5 hk0
    cases ha : asksB c
    · rw [ha] at hm hAs
      have Hhm := Lib.hid hm
      clear hm
      have HhW := Lib.hid hW
      clear hW
      have Hha := Lib.hid ha
      clear ha
      have HhAs := Lib.hid hAs
      clear hAs
      have Hhth := Lib.hid hth
      clear hth
      have Hhte := Lib.hid hte
      clear hte
      go_enter Try.func61, Try.ntmps61
      go_wp2_with (first
          | (go_at_call 93; refine (HhAs.out _).mono ?_; rintro e w1 ⟨rfl, hx1⟩; have q2 := hx1.cell (p := ⟨w.heap.size, 2, none⟩) (v := .int .i64 th) (by simp [go_sem]); have q3 := hx1.cell (p := ⟨w.heap.size, 3, none⟩) (v := .int .i64 el) (by simp [go_sem])))
      go_ret
      (first | (refine ⟨by rw [Hhm.out]; simp, ?_⟩; (repeat (first | exact Ext.refl _ | apply Ext.alloc)); done) | (refine ⟨by rw [Hhm.out]; simp, Ext.trans ?_ hx1⟩; (repeat (first | exact Ext.refl _ | apply Ext.alloc)); done) | (refine ⟨by rw [Hhm.out]; simp, Ext.trans (Ext.trans ?_ hx1) hx2⟩; (repeat (first | exact Ext.refl _ | apply Ext.alloc)); done) | (refine ⟨by rw [Hhm.out]; simp, Ext.trans (Ext.trans (Ext.trans ?_ hx1) hx2) hx3⟩; (repeat (first | exact Ext.refl _ | apply Ext.alloc)); done))
    · rw [ha] at hm hAs
      cases ht : there len i th
      all_goals
        rw [ht] at hm hth
        have Hhm := Lib.hid hm
        clear hm
        have HhW := Lib.hid hW
        clear hW
        have Hha := Lib.hid ha
        clear ha
        have HhAs := Lib.hid hAs
        clear hAs
        have Hht := Lib.hid ht
        clear ht
        have Hhth := Lib.hid hth
        clear hth
        have Hhte := Lib.hid hte
        clear hte
        go_enter Try.func61, Try.ntmps61
        go_wp2_with (first
            | (go_at_call 93; refine (HhAs.out _).mono ?_; rintro e w1 ⟨rfl, hx1⟩; have q2 := hx1.cell (p := ⟨w.heap.size, 2, none⟩) (v := .int .i64 th) (by simp [go_sem]); have q3 := hx1.cell (p := ⟨w.heap.size, 3, none⟩) (v := .int .i64 el) (by simp [go_sem]))
            | (go_at_call 92; (with_reducible refine (Hhth.out _ _ _ (by (first | (simp [go_sem]; done) | exact hx1.cell (by simp [go_sem]) | exact (hx1.trans hx2).cell (by simp [go_sem]))) (by (first | (simp [go_sem]; done) | exact hx1.cell (by simp [go_sem]) | exact (hx1.trans hx2).cell (by simp [go_sem])))).mono ?_); rintro e w2 ⟨rfl, hx2⟩; have q4 := hx2.cell q3)
            | (go_at_call 92; (with_reducible refine (Hhte.out _ _ _ (by (first | (simp [go_sem]; done) | exact hx1.cell (by simp [go_sem]) | exact (hx1.trans hx2).cell (by simp [go_sem]))) (by (first | (simp [go_sem]; done) | exact hx1.cell (by simp [go_sem]) | exact (hx1.trans hx2).cell (by simp [go_sem])))).mono ?_); rintro e w3 ⟨rfl, hx3⟩))
        go_ret
        (first | (refine ⟨by rw [Hhm.out]; simp, ?_⟩; (repeat (first | exact Ext.refl _ | apply Ext.alloc)); done) | (refine ⟨by rw [Hhm.out]; simp, Ext.trans ?_ hx1⟩; (repeat (first | exact Ext.refl _ | apply Ext.alloc)); done) | (refine ⟨by rw [Hhm.out]; simp, Ext.trans (Ext.trans ?_ hx1) hx2⟩; (repeat (first | exact Ext.refl _ | apply Ext.alloc)); done) | (refine ⟨by rw [Hhm.out]; simp, Ext.trans (Ext.trans (Ext.trans ?_ hx1) hx2) hx3⟩; (repeat (first | exact Ext.refl _ | apply Ext.alloc)); done))
end L25
end Go.Proofs.Ytkmhfjnjfghnjaa

