import Derived.Test.YtkmhfjnjfghnjaaMq2
import Derived.Test.YtkmhfjnjfghnjaaMq6
/- Layer 21: the walks of Holds and of the reference's Holds. -/
namespace Go.Proofs.Ytkmhfjnjfghnjaa
open Go.RowKit V
namespace L21
open L25 (Dat datV OkD)
/-- the argument of data -/
def argOf (d : Dat) (i : Nat) : Nat := [d.a0, d.a1, d.a2, d.a3, d.a4, d.a5].getD i 0
def holdsA (t : Test) (d : Dat) : Bool := decide (0 ≤ t.arg) && (decide (t.arg < 6) && ((argOf d t.arg.toNat &&& t.mask) == t.value))
set_option maxRecDepth 100000 in
set_option maxHeartbeats 1000000 in
theorem Holds_calls (t : Test) (ht : OkT t) (d : Dat) (hd : OkD d) (w : World) :
    Calls Try.prog 25 #[.agg #[.int .i64 t.arg, .int .u64 (t.mask : Int), .int .u64 (t.value : Int), .int .u32 (t.action : Int)], datV d] w fun e w' => e = .returned (.bool (holdsA t d)) ∧ Ext w w' := by
  obtain ⟨ar, m, v, x⟩ := t
  have hm := ht.m
  have hA : holdsA ⟨ar, m, v, x⟩ d = (decide (0 ≤ ar) && (decide (ar < 6) && ((argOf d ar.toNat &&& m) == v))) := rfl
  dsimp only at hm ⊢
  unfold datV
  by_cases h0 : ar < 0
  · have e1 : decide (0 ≤ ar) = false := decide_eq_false (by omega)
    rw [e1, Bool.false_and] at hA
    rw [hA]
    have HhA := Lib.hid hA
    clear hA
    have Hh0 := Lib.hid h0
    clear h0
    go_enter Try.func25, Try.ntmps25
    go_wp2_with (go_quiet (fail))
    go_wp2
    go_ret
    exact ⟨rfl, (((Ext.refl _).alloc _).alloc _).drewN _⟩
  have e1 : decide (0 ≤ ar) = true := decide_eq_true (by omega)
  by_cases h6 : 6 ≤ ar
  · have e2 : decide (ar < 6) = false := decide_eq_false (by omega)
    have e3 : decide (ar ≤ 5) = false := decide_eq_false (by omega)
    rw [e1, e2, Bool.false_and, Bool.true_and] at hA
    rw [hA]
    have HhA := Lib.hid hA
    clear hA
    have Hh0 := Lib.hid h0
    clear h0
    have Hh6 := Lib.hid h6
    clear h6
    go_enter Try.func25, Try.ntmps25
    go_wp2_with (go_quiet (fail))
    go_wp2
    go_ret
    exact ⟨rfl, (((Ext.refl _).alloc _).alloc _).drewN _⟩
  rw [hA]
  have HhA := Lib.hid hA
  clear hA
  rcases (show ar = 0 ∨ ar = 1 ∨ ar = 2 ∨ ar = 3 ∨ ar = 4 ∨ ar = 5 by omega) with rfl | rfl | rfl | rfl | rfl | rfl
  · have hab := u64_and_nat d.a0 m hd.a0 hm
    have hq : (((d.a0 &&& m : Nat) : Int) == (v : Int)) = ((d.a0 &&& m) == v) := by rw [Bool.eq_iff_iff]; simp; omega
    show Calls _ _ _ _ fun e w' => e = .returned (.bool (true && (true && ((d.a0 &&& m) == v)))) ∧ _
    rw [Bool.true_and, Bool.true_and]
    generalize (d.a0 &&& m) = z at *
    clear e1 h0 h6
    go_enter Try.func25, Try.ntmps25
    go_wp2_with (go_quiet (fail))
    go_wp2
    go_ret
    exact ⟨by first | rfl | (rw [hq]; rfl) | simp [hq], (((Ext.refl _).alloc _).alloc _).drewN _⟩
  · have hab := u64_and_nat d.a1 m hd.a1 hm
    have hq : (((d.a1 &&& m : Nat) : Int) == (v : Int)) = ((d.a1 &&& m) == v) := by rw [Bool.eq_iff_iff]; simp; omega
    show Calls _ _ _ _ fun e w' => e = .returned (.bool (true && (true && ((d.a1 &&& m) == v)))) ∧ _
    rw [Bool.true_and, Bool.true_and]
    generalize (d.a1 &&& m) = z at *
    clear e1 h0 h6
    go_enter Try.func25, Try.ntmps25
    go_wp2_with (go_quiet (fail))
    go_wp2
    go_ret
    exact ⟨by first | rfl | (rw [hq]; rfl) | simp [hq], (((Ext.refl _).alloc _).alloc _).drewN _⟩
  · have hab := u64_and_nat d.a2 m hd.a2 hm
    have hq : (((d.a2 &&& m : Nat) : Int) == (v : Int)) = ((d.a2 &&& m) == v) := by rw [Bool.eq_iff_iff]; simp; omega
    show Calls _ _ _ _ fun e w' => e = .returned (.bool (true && (true && ((d.a2 &&& m) == v)))) ∧ _
    rw [Bool.true_and, Bool.true_and]
    generalize (d.a2 &&& m) = z at *
    clear e1 h0 h6
    go_enter Try.func25, Try.ntmps25
    go_wp2_with (go_quiet (fail))
    go_wp2
    go_ret
    exact ⟨by first | rfl | (rw [hq]; rfl) | simp [hq], (((Ext.refl _).alloc _).alloc _).drewN _⟩
  · have hab := u64_and_nat d.a3 m hd.a3 hm
    have hq : (((d.a3 &&& m : Nat) : Int) == (v : Int)) = ((d.a3 &&& m) == v) := by rw [Bool.eq_iff_iff]; simp; omega
    show Calls _ _ _ _ fun e w' => e = .returned (.bool (true && (true && ((d.a3 &&& m) == v)))) ∧ _
    rw [Bool.true_and, Bool.true_and]
    generalize (d.a3 &&& m) = z at *
    clear e1 h0 h6
    go_enter Try.func25, Try.ntmps25
    go_wp2_with (go_quiet (fail))
    go_wp2
    go_ret
    exact ⟨by first | rfl | (rw [hq]; rfl) | simp [hq], (((Ext.refl _).alloc _).alloc _).drewN _⟩
  · have hab := u64_and_nat d.a4 m hd.a4 hm
    have hq : (((d.a4 &&& m : Nat) : Int) == (v : Int)) = ((d.a4 &&& m) == v) := by rw [Bool.eq_iff_iff]; simp; omega
    show Calls _ _ _ _ fun e w' => e = .returned (.bool (true && (true && ((d.a4 &&& m) == v)))) ∧ _
    rw [Bool.true_and, Bool.true_and]
    generalize (d.a4 &&& m) = z at *
    clear e1 h0 h6
    go_enter Try.func25, Try.ntmps25
    go_wp2_with (go_quiet (fail))
    go_wp2
    go_ret
    exact ⟨by first | rfl | (rw [hq]; rfl) | simp [hq], (((Ext.refl _).alloc _).alloc _).drewN _⟩
  · have hab := u64_and_nat d.a5 m hd.a5 hm
    have hq : (((d.a5 &&& m : Nat) : Int) == (v : Int)) = ((d.a5 &&& m) == v) := by rw [Bool.eq_iff_iff]; simp; omega
    show Calls _ _ _ _ fun e w' => e = .returned (.bool (true && (true && ((d.a5 &&& m) == v)))) ∧ _
    rw [Bool.true_and, Bool.true_and]
    generalize (d.a5 &&& m) = z at *
    clear e1 h0 h6
    go_enter Try.func25, Try.ntmps25
    go_wp2_with (go_quiet (fail))
    go_wp2
    go_ret
    exact ⟨by first | rfl | (rw [hq]; rfl) | simp [hq], (((Ext.refl _).alloc _).alloc _).drewN _⟩
set_option maxRecDepth 100000 in
set_option maxHeartbeats 1000000 in
theorem refHolds_calls (t : Test) (ht : OkT t) (d : Dat) (hd : OkD d) (w : World) :
    Calls Try.prog 26 #[.agg #[.int .i64 t.arg, .int .u64 (t.mask : Int), .int .u64 (t.value : Int), .int .u32 (t.action : Int)], datV d] w fun e w' => e = .returned (.bool (holdsA t d)) ∧ Ext w w' := by
  obtain ⟨ar, m, v, x⟩ := t
  have hm := ht.m
  have hA : holdsA ⟨ar, m, v, x⟩ d = (decide (0 ≤ ar) && (decide (ar < 6) && ((argOf d ar.toNat &&& m) == v))) := rfl
  dsimp only at hm ⊢
  unfold datV
  by_cases h0 : ar < 0
  · have e1 : decide (0 ≤ ar) = false := decide_eq_false (by omega)
    rw [e1, Bool.false_and] at hA
    rw [hA]
    have HhA := Lib.hid hA
    clear hA
    have Hh0 := Lib.hid h0
    clear h0
    go_enter Try.func26, Try.ntmps26
    go_wp2_with (go_quiet (fail))
    go_wp2
    go_ret
    exact ⟨rfl, (((Ext.refl _).alloc _).alloc _).drewN _⟩
  have e1 : decide (0 ≤ ar) = true := decide_eq_true (by omega)
  by_cases h6 : 6 ≤ ar
  · have e2 : decide (ar < 6) = false := decide_eq_false (by omega)
    have e3 : decide (ar ≤ 5) = false := decide_eq_false (by omega)
    rw [e1, e2, Bool.false_and, Bool.true_and] at hA
    rw [hA]
    have HhA := Lib.hid hA
    clear hA
    have Hh0 := Lib.hid h0
    clear h0
    have Hh6 := Lib.hid h6
    clear h6
    go_enter Try.func26, Try.ntmps26
    go_wp2_with (go_quiet (fail))
    go_wp2
    go_ret
    exact ⟨rfl, (((Ext.refl _).alloc _).alloc _).drewN _⟩
  rw [hA]
  have HhA := Lib.hid hA
  clear hA
  rcases (show ar = 0 ∨ ar = 1 ∨ ar = 2 ∨ ar = 3 ∨ ar = 4 ∨ ar = 5 by omega) with rfl | rfl | rfl | rfl | rfl | rfl
  · have hab := u64_and_nat d.a0 m hd.a0 hm
    have hq : (((d.a0 &&& m : Nat) : Int) == (v : Int)) = ((d.a0 &&& m) == v) := by rw [Bool.eq_iff_iff]; simp; omega
    show Calls _ _ _ _ fun e w' => e = .returned (.bool (true && (true && ((d.a0 &&& m) == v)))) ∧ _
    rw [Bool.true_and, Bool.true_and]
    generalize (d.a0 &&& m) = z at *
    clear e1 h0 h6
    go_enter Try.func26, Try.ntmps26
    go_wp2_with (go_quiet (fail))
    go_wp2
    go_ret
    exact ⟨by first | rfl | (rw [hq]; rfl) | simp [hq], (((Ext.refl _).alloc _).alloc _).drewN _⟩
  · have hab := u64_and_nat d.a1 m hd.a1 hm
    have hq : (((d.a1 &&& m : Nat) : Int) == (v : Int)) = ((d.a1 &&& m) == v) := by rw [Bool.eq_iff_iff]; simp; omega
    show Calls _ _ _ _ fun e w' => e = .returned (.bool (true && (true && ((d.a1 &&& m) == v)))) ∧ _
    rw [Bool.true_and, Bool.true_and]
    generalize (d.a1 &&& m) = z at *
    clear e1 h0 h6
    go_enter Try.func26, Try.ntmps26
    go_wp2_with (go_quiet (fail))
    go_wp2
    go_ret
    exact ⟨by first | rfl | (rw [hq]; rfl) | simp [hq], (((Ext.refl _).alloc _).alloc _).drewN _⟩
  · have hab := u64_and_nat d.a2 m hd.a2 hm
    have hq : (((d.a2 &&& m : Nat) : Int) == (v : Int)) = ((d.a2 &&& m) == v) := by rw [Bool.eq_iff_iff]; simp; omega
    show Calls _ _ _ _ fun e w' => e = .returned (.bool (true && (true && ((d.a2 &&& m) == v)))) ∧ _
    rw [Bool.true_and, Bool.true_and]
    generalize (d.a2 &&& m) = z at *
    clear e1 h0 h6
    go_enter Try.func26, Try.ntmps26
    go_wp2_with (go_quiet (fail))
    go_wp2
    go_ret
    exact ⟨by first | rfl | (rw [hq]; rfl) | simp [hq], (((Ext.refl _).alloc _).alloc _).drewN _⟩
  · have hab := u64_and_nat d.a3 m hd.a3 hm
    have hq : (((d.a3 &&& m : Nat) : Int) == (v : Int)) = ((d.a3 &&& m) == v) := by rw [Bool.eq_iff_iff]; simp; omega
    show Calls _ _ _ _ fun e w' => e = .returned (.bool (true && (true && ((d.a3 &&& m) == v)))) ∧ _
    rw [Bool.true_and, Bool.true_and]
    generalize (d.a3 &&& m) = z at *
    clear e1 h0 h6
    go_enter Try.func26, Try.ntmps26
    go_wp2_with (go_quiet (fail))
    go_wp2
    go_ret
    exact ⟨by first | rfl | (rw [hq]; rfl) | simp [hq], (((Ext.refl _).alloc _).alloc _).drewN _⟩
  · have hab := u64_and_nat d.a4 m hd.a4 hm
    have hq : (((d.a4 &&& m : Nat) : Int) == (v : Int)) = ((d.a4 &&& m) == v) := by rw [Bool.eq_iff_iff]; simp; omega
    show Calls _ _ _ _ fun e w' => e = .returned (.bool (true && (true && ((d.a4 &&& m) == v)))) ∧ _
    rw [Bool.true_and, Bool.true_and]
    generalize (d.a4 &&& m) = z at *
    clear e1 h0 h6
    go_enter Try.func26, Try.ntmps26
    go_wp2_with (go_quiet (fail))
    go_wp2
    go_ret
    exact ⟨by first | rfl | (rw [hq]; rfl) | simp [hq], (((Ext.refl _).alloc _).alloc _).drewN _⟩
  · have hab := u64_and_nat d.a5 m hd.a5 hm
    have hq : (((d.a5 &&& m : Nat) : Int) == (v : Int)) = ((d.a5 &&& m) == v) := by rw [Bool.eq_iff_iff]; simp; omega
    show Calls _ _ _ _ fun e w' => e = .returned (.bool (true && (true && ((d.a5 &&& m) == v)))) ∧ _
    rw [Bool.true_and, Bool.true_and]
    generalize (d.a5 &&& m) = z at *
    clear e1 h0 h6
    go_enter Try.func26, Try.ntmps26
    go_wp2_with (go_quiet (fail))
    go_wp2
    go_ret
    exact ⟨by first | rfl | (rw [hq]; rfl) | simp [hq], (((Ext.refl _).alloc _).alloc _).drewN _⟩
end L21
end Go.Proofs.Ytkmhfjnjfghnjaa

