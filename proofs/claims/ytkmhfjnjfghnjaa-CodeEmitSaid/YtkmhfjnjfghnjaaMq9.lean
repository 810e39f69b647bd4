import Derived.Test.YtkmhfjnjfghnjaaMq8
import Derived.Test.YtkmhfjnjfghnjaaMq6
/- Layer 21: the walk of mayTest. -/
namespace Go.Proofs.Ytkmhfjnjfghnjaa
open Go.RowKit V
namespace L21
theorem andNot_iff {v m : Nat} (hv : v < 18446744073709551616) (hm : m < 18446744073709551616) : ((v &&& (18446744073709551615 - m)) == 0) = ((v &&& m) == v) := by
  rw [Bool.eq_iff_iff]
  simp only [beq_iff_eq]
  have e : 18446744073709551615 - m = 2 ^ 64 - (m + 1) := by omega
  have hm2 : m < 2 ^ 64 := hm
  have hv2 : v < 2 ^ 64 := hv
  rw [e]
  constructor
  · intro h
    apply Nat.eq_of_testBit_eq
    intro i
    have h2 := congrArg (fun x => x.testBit i) h
    simp only [Nat.testBit_and, Nat.testBit_two_pow_sub_succ hm2, Nat.zero_testBit] at h2
    rw [Nat.testBit_and]
    by_cases hi : i < 64
    · rw [decide_eq_true hi, Bool.true_and] at h2
      cases hb : v.testBit i <;> cases hc : m.testBit i <;> rw [hb, hc] at h2 <;> simp at h2 ⊢
    · have : v.testBit i = false := Nat.testBit_lt_two_pow (Nat.lt_of_lt_of_le hv2 (Nat.pow_le_pow_right (by decide) (by omega)))
      rw [this]; rfl
  · intro h
    apply Nat.eq_of_testBit_eq
    intro i
    have h2 := congrArg (fun x => x.testBit i) h
    simp only [Nat.testBit_and] at h2
    rw [Nat.testBit_and, Nat.testBit_two_pow_sub_succ hm2, Nat.zero_testBit]
    cases hb : v.testBit i <;> cases hc : m.testBit i <;> rw [hb, hc] at h2 <;> simp at h2 ⊢
def mayT (t : Test) : Bool := decide (0 ≤ t.arg) && (decide (t.arg < 6) && (((t.value &&& t.mask) == t.value) && L20.kn t.action))
set_option maxRecDepth 100000 in
set_option maxHeartbeats 1000000 in
theorem mayTest_calls (t : Test) (ht : OkT t) (w : World) :
    Calls Try.prog 85 #[.agg #[.int .i64 t.arg, .int .u64 (t.mask : Int), .int .u64 (t.value : Int), .int .u32 (t.action : Int)]] w fun e w' => e = .returned (.bool (mayT t)) ∧ Ext w w' := by
  obtain ⟨ar, m, v, x⟩ := t
  have hm := ht.m
  have hv := ht.v
  have hx := ht.x
  have hA : mayT ⟨ar, m, v, x⟩ = (decide (0 ≤ ar) && (decide (ar < 6) && (((v &&& m) == v) && L20.kn x))) := rfl
  dsimp only at hm hv hx ⊢
  by_cases h0 : ar < 0
  · have e1 : decide (0 ≤ ar) = false := decide_eq_false (by omega)
    rw [e1, Bool.false_and] at hA
    rw [hA]
    have HhA := Lib.hid hA
    clear hA
    have Hh0 := Lib.hid h0
    clear h0
    go_enter Try.func85, Try.ntmps85
    go_wp2
    go_ret
    exact ⟨rfl, (Ext.refl _).alloc _⟩
  have e1 : decide (0 ≤ ar) = true := decide_eq_true (by omega)
  by_cases h6 : 6 ≤ ar
  · have e2 : decide (ar < 6) = false := decide_eq_false (by omega)
    rw [e1, e2, Bool.false_and, Bool.true_and] at hA
    rw [hA]
    have HhA := Lib.hid hA
    clear hA
    have Hh0 := Lib.hid h0
    clear h0
    have Hh6 := Lib.hid h6
    clear h6
    go_enter Try.func85, Try.ntmps85
    go_wp2
    go_ret
    exact ⟨rfl, (Ext.refl _).alloc _⟩
  have e2 : decide (ar < 6) = true := decide_eq_true (by omega)
  rw [e1, e2, Bool.true_and, Bool.true_and] at hA
  rw [hA]
  have hab := u64_andNot_nat v m hv hm
  have hq := andNot_iff hv hm
  have hz : (((v &&& (18446744073709551615 - m) : Nat) : Int) == 0) = ((v &&& (18446744073709551615 - m)) == 0) := by rw [Bool.eq_iff_iff]; simp
  rw [hq] at hz
  generalize (v &&& (18446744073709551615 - m)) = z at *
  generalize ((v &&& m) == v) = bb at *
  have hK := fun W => L20.Known_calls x hx W
  have HhA := Lib.hid hA
  clear hA
  have Hh0 := Lib.hid h0
  clear h0
  have Hh6 := Lib.hid h6
  clear h6
  have HhK := Lib.hid hK
  clear hK
  have Hhq := Lib.hid hq
  clear hq
  cases bb
  · go_enter Try.func85, Try.ntmps85
    go_wp2
    go_ret
    exact ⟨rfl, (Ext.refl _).alloc _⟩
  · go_enter Try.func85, Try.ntmps85
    go_wp2_with fail
    refine (HhK.out _).mono ?_
    rintro e w1 ⟨rfl, hx1⟩
    go_wp2_with fail
    go_ret
    exact ⟨rfl, ((Ext.refl _).alloc _).trans hx1⟩
end L21
end Go.Proofs.Ytkmhfjnjfghnjaa

/- Layer 21: the walks of the closures over tests that capture nothing, and of the search by them. -/
namespace Go.Proofs.Ytkmhfjnjfghnjaa
open Go.RowKit V
namespace L21
/-- the place of the first test of which something holds, or -1 -/
def idxA (p : Test → Bool) : List Test → Nat → Int
  | [], _ => -1
  | t :: r, k => if p t = true then (k : Int) else idxA p r (k + 1)
theorem idxA_step {p : Test → Bool} {ts : List Test} {k : Nat} (h : k < ts.length) : idxA p (ts.drop k) k = if p ts[k] = true then (k : Int) else idxA p (ts.drop (k + 1)) (k + 1) := by
  rw [List.drop_eq_getElem_cons h]; rfl
theorem idxA_end (p : Test → Bool) (ts : List Test) (k : Nat) : idxA p (ts.drop ts.length) k = -1 := by rw [List.drop_length]; rfl
def badT (t : Test) : Bool := !mayT t
def zeroT (t : Test) : Bool := t.mask == 0
set_option maxHeartbeats 400000 in
theorem badT_calls (t : Test) (ht : OkT t) (w : World) :
    Calls Try.prog 84 #[.agg #[.int .i64 t.arg, .int .u64 (t.mask : Int), .int .u64 (t.value : Int), .int .u32 (t.action : Int)]] w fun e w' => e = .returned (.bool (badT t)) ∧ Ext w w' := by
  have hM := fun W => mayTest_calls t ht W
  unfold badT
  generalize mayT t = mb at *
  have HhM := Lib.hid hM
  clear hM
  go_enter Try.func84, Try.ntmps84
  go_wp2_with fail
  refine (HhM.out _).mono ?_
  rintro e w1 ⟨rfl, hx1⟩
  go_wp2_with fail
  go_ret
  exact ⟨rfl, ((Ext.refl _).alloc _).trans hx1⟩
set_option maxHeartbeats 400000 in
theorem zeroT_calls (t : Test) (_ : OkT t) (w : World) :
    Calls Try.prog 79 #[.agg #[.int .i64 t.arg, .int .u64 (t.mask : Int), .int .u64 (t.value : Int), .int .u32 (t.action : Int)]] w fun e w' => e = .returned (.bool (zeroT t)) ∧ Ext w w' := by
  have hq : ((t.mask : Int) == 0) = (t.mask == 0) := by rw [Bool.eq_iff_iff]; simp
  unfold zeroT
  go_enter Try.func79, Try.ntmps79
  go_wp2
  go_ret
  exact ⟨by first | rfl | rw [hq] | simp [hq], (Ext.refl _).alloc _⟩
set_option maxRecDepth 100000 in
set_option maxHeartbeats 400000 in
theorem idxBad_calls (v : Value) (ts : List Test) (hl : ts.length ≤ 140737488351232) (hok : ∀ t ∈ ts, OkT t) (w : World) (hv : Rd w 4 encT v ts) :
    Calls Try.prog 78 #[v, .func (.func 84) #[] #[]] w fun e w' => e = .returned (.int .i64 (idxA badT ts 0)) ∧ Ext w w' := by
  obtain ⟨a, c, rfl, hac, hca⟩ := rdT_cell hv
  clear hv
  have Hhok := Lib.hid hok
  clear hok
  have Hhca := Lib.hid hca
  clear hca
  go_enter Try.func78, Try.ntmps78
  go_wp2
  go_loopw [8] (fun i wr => ∃ k : Nat, k ≤ ts.length ∧ i = .int .i64 k ∧ Ext w wr ∧ idxA badT ts 0 = idxA badT (ts.drop k) k) (fun i _ => ts.length - (intOf i).toNat)
  case atStart => exact ⟨0, by omega, rfl, Ext.refl _, rfl⟩
  case round =>
    obtain ⟨k, hk, rfl, hx, heq⟩ := hrel
    have HX := Lib.hid hx
    by_cases hlt : k < ts.length
    · obtain ⟨b, o, rfl, h1, h2, h3, h4⟩ := Hhca.out k hlt
      replace h1 := hx.cell h1; replace h2 := hx.cell h2; replace h3 := hx.cell h3; replace h4 := hx.cell h4
      rw [idxA_step hlt] at heq
      have hC := fun W => badT_calls (ts[k]'hlt) (Hhok.out _ (List.getElem_mem hlt)) W
      clear hx
      generalize ts[k]'hlt = t at *
      cases hp : badT t
      all_goals
        rw [hp] at hC heq
        simp only [if_true, if_false, Bool.false_eq_true] at heq
        have HhC := Lib.hid hC
        clear hC
        have Hheq := Lib.hid heq
        clear heq
        have Hhp := Lib.hid hp
        clear hp
        go_wp2_with fail
        refine (HhC.out _).mono ?_
        rintro e w2 ⟨rfl, hx2⟩
        go_wp2_with fail
      · first
          | (go_roundw
             case rel => exact ⟨k + 1, by omega, by go_num, HX.out.trans hx2, Hheq.out⟩
             case measure => simp [intOf]; omega)
          | exact ⟨⟨k + 1, by omega, by go_num, HX.out.trans hx2, Hheq.out⟩, by simp [intOf]; omega⟩
      · go_ret
        exact ⟨by rw [Hheq.out]; rfl, HX.out.trans hx2⟩
    · obtain rfl : k = ts.length := by omega
      rw [idxA_end] at heq
      have Hheq := Lib.hid heq
      clear heq
      clear hx
      go_wp2
      go_ret
      exact ⟨by rw [Hheq.out]; rfl, HX.out⟩
set_option maxRecDepth 100000 in
set_option maxHeartbeats 400000 in
theorem idxZero_calls (v : Value) (ts : List Test) (hl : ts.length ≤ 140737488351232) (hok : ∀ t ∈ ts, OkT t) (w : World) (hv : Rd w 4 encT v ts) :
    Calls Try.prog 78 #[v, .func (.func 79) #[] #[]] w fun e w' => e = .returned (.int .i64 (idxA zeroT ts 0)) ∧ Ext w w' := by
  obtain ⟨a, c, rfl, hac, hca⟩ := rdT_cell hv
  clear hv
  have Hhok := Lib.hid hok
  clear hok
  have Hhca := Lib.hid hca
  clear hca
  go_enter Try.func78, Try.ntmps78
  go_wp2
  go_loopw [8] (fun i wr => ∃ k : Nat, k ≤ ts.length ∧ i = .int .i64 k ∧ Ext w wr ∧ idxA zeroT ts 0 = idxA zeroT (ts.drop k) k) (fun i _ => ts.length - (intOf i).toNat)
  case atStart => exact ⟨0, by omega, rfl, Ext.refl _, rfl⟩
  case round =>
    obtain ⟨k, hk, rfl, hx, heq⟩ := hrel
    have HX := Lib.hid hx
    by_cases hlt : k < ts.length
    · obtain ⟨b, o, rfl, h1, h2, h3, h4⟩ := Hhca.out k hlt
      replace h1 := hx.cell h1; replace h2 := hx.cell h2; replace h3 := hx.cell h3; replace h4 := hx.cell h4
      rw [idxA_step hlt] at heq
      have hC := fun W => zeroT_calls (ts[k]'hlt) (Hhok.out _ (List.getElem_mem hlt)) W
      clear hx
      generalize ts[k]'hlt = t at *
      cases hp : zeroT t
      all_goals
        rw [hp] at hC heq
        simp only [if_true, if_false, Bool.false_eq_true] at heq
        have HhC := Lib.hid hC
        clear hC
        have Hheq := Lib.hid heq
        clear heq
        have Hhp := Lib.hid hp
        clear hp
        go_wp2_with fail
        refine (HhC.out _).mono ?_
        rintro e w2 ⟨rfl, hx2⟩
        go_wp2_with fail
      · first
          | (go_roundw
             case rel => exact ⟨k + 1, by omega, by go_num, HX.out.trans hx2, Hheq.out⟩
             case measure => simp [intOf]; omega)
          | exact ⟨⟨k + 1, by omega, by go_num, HX.out.trans hx2, Hheq.out⟩, by simp [intOf]; omega⟩
      · go_ret
        exact ⟨by rw [Hheq.out]; rfl, HX.out.trans hx2⟩
    · obtain rfl : k = ts.length := by omega
      rw [idxA_end] at heq
      have Hheq := Lib.hid heq
      clear heq
      clear hx
      go_wp2
      go_ret
      exact ⟨by rw [Hheq.out]; rfl, HX.out⟩
end L21
end Go.Proofs.Ytkmhfjnjfghnjaa

