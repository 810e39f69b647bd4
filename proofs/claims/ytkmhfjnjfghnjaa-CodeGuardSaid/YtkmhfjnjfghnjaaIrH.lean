/- Layer 21: the walk of mayTest. -/
import Derived.Test.YtkmhfjnjfghnjaaActK
import Derived.Test.YtkmhfjnjfghnjaaIrA
namespace Go.Proofs.Ytkmhfjnjfghnjaa
open Go.RowKit V
namespace L21
theorem andNot_iff {v m : Nat} (hv : v < 18446744073709551616) (hm : m < 18446744073709551616) : ((v &&& (18446744073709551615 - m)) == 0) = ((v &&& m) == v) := by
  rw [Bool.eq_iff_iff]
  simp only [beq_iff_eq]
  have e : 18446744073709551615 - m = 2 ^ 64 - (m + 1) := by omega
  have hm2 : m < 2 ^ 64 := hm
  have hv2 : v < 2 ^ 64 := hv
  rw [e]
  constructor
  · intro h
    apply Nat.eq_of_testBit_eq
    intro i
    have h2 := congrArg (fun x => x.testBit i) h
    simp only [Nat.testBit_and, Nat.testBit_two_pow_sub_succ hm2, Nat.zero_testBit] at h2
    rw [Nat.testBit_and]
    by_cases hi : i < 64
    · rw [decide_eq_true hi, Bool.true_and] at h2
      cases hb : v.testBit i <;> cases hc : m.testBit i <;> rw [hb, hc] at h2 <;> simp at h2 ⊢
    · have : v.testBit i = false := Nat.testBit_lt_two_pow (Nat.lt_of_lt_of_le hv2 (Nat.pow_le_pow_right (by decide) (by omega)))
      rw [this]; rfl
  · intro h
    apply Nat.eq_of_testBit_eq
    intro i
    have h2 := congrArg (fun x => x.testBit i) h
    simp only [Nat.testBit_and] at h2
    rw [Nat.testBit_and, Nat.testBit_two_pow_sub_succ hm2, Nat.zero_testBit]
    cases hb : v.testBit i <;> cases hc : m.testBit i <;> rw [hb, hc] at h2 <;> simp at h2 ⊢
def mayT (t : Test) : Bool := decide (0 ≤ t.arg) && (decide (t.arg < 6) && (((t.value &&& t.mask) == t.value) && L20.kn t.action))
set_option maxRecDepth 100000 in
set_option maxHeartbeats 1000000 in
theorem mayTest_calls (t : Test) (ht : OkT t) (w : World) :
    Calls Try.prog 85 #[.agg #[.int .i64 t.arg, .int .u64 (t.mask : Int), .int .u64 (t.value : Int), .int .u32 (t.action : Int)]] w fun e w' => e = .returned (.bool (mayT t)) ∧ Ext w w' := by
  obtain ⟨ar, m, v, x⟩ := t
  have hm := ht.m
  have hv := ht.v
  have hx := ht.x
  have hA : mayT ⟨ar, m, v, x⟩ = (decide (0 ≤ ar) && (decide (ar < 6) && (((v &&& m) == v) && L20.kn x))) := rfl
  dsimp only at hm hv hx ⊢
  by_cases h0 : ar < 0
  · have e1 : decide (0 ≤ ar) = false := decide_eq_false (by omega)
    rw [e1, Bool.false_and] at hA
    rw [hA]
    have HhA := Lib.hid hA
    clear hA
    have Hh0 := Lib.hid h0
    clear h0
    go_enter Try.func85, Try.ntmps85
    go_wp2
    go_ret
    exact ⟨rfl, (Ext.refl _).alloc _⟩
  have e1 : decide (0 ≤ ar) = true := decide_eq_true (by omega)
  by_cases h6 : 6 ≤ ar
  · have e2 : decide (ar < 6) = false := decide_eq_false (by omega)
    rw [e1, e2, Bool.false_and, Bool.true_and] at hA
    rw [hA]
    have HhA := Lib.hid hA
    clear hA
    have Hh0 := Lib.hid h0
    clear h0
    have Hh6 := Lib.hid h6
    clear h6
    go_enter Try.func85, Try.ntmps85
    go_wp2
    go_ret
    exact ⟨rfl, (Ext.refl _).alloc _⟩
  have e2 : decide (ar < 6) = true := decide_eq_true (by omega)
  rw [e1, e2, Bool.true_and, Bool.true_and] at hA
  rw [hA]
  have hab := u64_andNot_nat v m hv hm
  have hq := andNot_iff hv hm
  have hz : (((v &&& (18446744073709551615 - m) : Nat) : Int) == 0) = ((v &&& (18446744073709551615 - m)) == 0) := by rw [Bool.eq_iff_iff]; simp
  rw [hq] at hz
  generalize (v &&& (18446744073709551615 - m)) = z at *
  generalize ((v &&& m) == v) = bb at *
  have hK := fun W => L20.Known_calls x hx W
  have HhA := Lib.hid hA
  clear hA
  have Hh0 := Lib.hid h0
  clear h0
  have Hh6 := Lib.hid h6
  clear h6
  have HhK := Lib.hid hK
  clear hK
  have Hhq := Lib.hid hq
  clear hq
  cases bb
  · go_enter Try.func85, Try.ntmps85
    go_wp2
    go_ret
    exact ⟨rfl, (Ext.refl _).alloc _⟩
  · go_enter Try.func85, Try.ntmps85
    go_wp2_with fail
    refine (HhK.out _).mono ?_
    rintro e w1 ⟨rfl, hx1⟩
    go_wp2_with fail
    go_ret
    exact ⟨rfl, ((Ext.refl _).alloc _).trans hx1⟩
end L21
end Go.Proofs.Ytkmhfjnjfghnjaa
