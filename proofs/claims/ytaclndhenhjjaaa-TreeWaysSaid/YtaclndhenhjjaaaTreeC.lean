/- Layer 24: the walks of Find and of the reference's Find. -/
import Derived.Test.YtaclndhenhjjaaaTreeB
namespace Go.Proofs.Ytaclndhenhjjaaa
open Go.RowKit V
namespace L24
open L23
theorem findA_no {xs : List Node} {n : Nat} (h : may xs = false) : findA xs n = (0, 0) := by unfold findA; rw [if_neg (by rw [h]; simp)]
theorem findA_yes {xs : List Node} {n : Nat} (h : may xs = true) : findA xs n = fnd xs n xs.length 0 0 := by unfold findA; rw [if_pos h]
set_option maxRecDepth 100000 in
set_option maxHeartbeats 1000000 in
theorem Find_calls (v : Value) (xs : List Node) (n : Nat) (hl : xs.length ≤ 1000000) (w : World) (hv : Rd w 5 encN v xs) :
    Calls Try.prog 28 #[v, .int .u32 (n : Int)] w fun e w' => e = .returned (.tuple #[.int .i64 (findA xs n).1, .int .i64 ((findA xs n).2 : Nat), .bool (may xs)]) ∧ Ext w w' := by
  have hM := May_calls v xs hl w hv
  obtain ⟨a, c, rfl, hac, hca⟩ := rdN_cell hv
  clear hv
  cases hm : may xs
  case false =>
    rw [hm] at hM
    have hA := findA_no (n := n) hm
    have HhA := Lib.hid hA
    clear hA
    have Hhm := Lib.hid hm
    clear hm
    have HhM := Lib.hid hM
    clear hM
    clear hca
    go_enter Try.func28, Try.ntmps28
    go_wp2_with (go_at_call 30; refine HhM.out.mono ?_; rintro e w1 ⟨rfl, hx1⟩)
    go_ret3
    exact ⟨by rw [HhA.out]; rfl, hx1⟩
  have hA := findA_yes (n := n) hm
  have hpos := may_pos hm
  have hgt := fun j (hj : j < xs.length) hl => goes_in hm hj hl n
  have hst := fun i s (hi : i < xs.length) hl => fnd_step (f := xs.length - i) (s := s) hm n hi (Nat.le_refl _) hl
  have hget := fun j (hj : j < xs.length) hl => may_get hm hj hl
  rw [hm] at hM
  have HhA := Lib.hid hA
  clear hA
  have Hhm := Lib.hid hm
  clear hm
  have HhM := Lib.hid hM
  clear hM
  have Hhgt := Lib.hid hgt
  clear hgt
  have Hhst := Lib.hid hst
  clear hst
  have Hhget := Lib.hid hget
  clear hget
  go_enter Try.func28, Try.ntmps28
  go_wp2_with (go_at_call 30; refine HhM.out.mono ?_; rintro e w1 ⟨rfl, hx1⟩)
  have HX1 := Lib.hid hx1
  clear hx1
  go_loopw [5, 7] (fun st p wr => ∃ s i : Nat, i < xs.length ∧ s ≤ i ∧ st = .int .i64 s ∧ p = .int .i64 i ∧ Ext w wr ∧ fnd xs n xs.length 0 0 = fnd xs n (xs.length - i) i s) (fun _ p _ => xs.length - (intOf p).toNat)
  case atStart => exact ⟨0, 0, hpos, by omega, rfl, rfl, HX1.out, rfl⟩
  case round =>
    obtain ⟨s, i, hi, hs, rfl, rfl, hx, heq⟩ := hrel
    have HX := Lib.hid hx
    obtain ⟨b, o, rfl, h1, h2, h3, h4, h5⟩ := hca i hi
    replace h1 := hx.cell h1; replace h2 := hx.cell h2; replace h3 := hx.cell h3; replace h4 := hx.cell h4; replace h5 := hx.cell h5
    clear hca hx
    cases hlf : xs[i].leaf
    case true =>
      have hres : findA xs n = (xs[i].way, s) := by rw [HhA.out, heq, fnd_leaf n hi (by omega) hlf]
      rw [hlf] at h1
      have Hhres := Lib.hid hres
      clear hres
      have Hheq := Lib.hid heq
      clear heq
      have Hhlf := Lib.hid hlf
      clear hlf
      clear h3 h4 h5
      generalize xs[i].way = wy at *
      go_wp2_with (go_quiet (fail))
      go_ret3
      exact ⟨by rw [Hhres.out]; rfl, (by repeat (first | exact HX.out | apply Ext.drewN | apply Ext.alloc | apply Ext.drew))⟩
    case false =>
      rw [hlf] at h1
      rw [Hhst.out i s hi hlf] at heq
      obtain ⟨g1, g2⟩ := Hhgt.out i hi hlf
      obtain ⟨q1, q2, q3, q4⟩ := Hhget.out i hi hlf
      have Hheq := Lib.hid heq
      clear heq
      have Hhlf := Lib.hid hlf
      clear hlf
      have hge : goes xs[i] n = if xs[i].at_ ≤ n then xs[i].more.toNat else xs[i].less.toNat := rfl
      generalize goes xs[i] n = gi at *
      generalize xs[i].at_ = at_ at *
      generalize xs[i].more = mr at *
      generalize xs[i].less = ls at *
      generalize xs[i].way = wy at *
      by_cases hat : at_ ≤ n
      · have hd : decide ((at_ : Int) ≤ (n : Int)) = true := decide_eq_true (by omega)
        have hd' : decide (at_ ≤ n) = true := decide_eq_true hat
        rw [if_pos hat] at hge
        have hmr : mr = (gi : Int) := by omega
        subst hmr
        have Hhge := Lib.hid hge
        clear hge
        have Hhat := Lib.hid hat
        clear hat
        go_wp2_with (go_quiet (fail))
        go_roundw
        case rel => exact ⟨s + 1, gi, g2, by omega, by go_num, rfl, (by repeat (first | exact HX.out | apply Ext.drewN | apply Ext.alloc | apply Ext.drew)), Hheq.out⟩
        case measure => simp [intOf]; omega
      · have hd : decide ((at_ : Int) ≤ (n : Int)) = false := decide_eq_false (by omega)
        have hd' : decide (at_ ≤ n) = false := decide_eq_false hat
        rw [if_neg hat] at hge
        have hls : ls = (gi : Int) := by omega
        subst hls
        have Hhge := Lib.hid hge
        clear hge
        have Hhat := Lib.hid hat
        clear hat
        go_wp2_with (go_quiet (fail))
        go_roundw
        case rel => exact ⟨s + 1, gi, g2, by omega, by go_num, rfl, (by repeat (first | exact HX.out | apply Ext.drewN | apply Ext.alloc | apply Ext.drew)), Hheq.out⟩
        case measure => simp [intOf]; omega
set_option maxRecDepth 100000 in
set_option maxHeartbeats 1000000 in
theorem refFind_calls (v : Value) (xs : List Node) (n : Nat) (hl : xs.length ≤ 1000000) (w : World) (hv : Rd w 5 encN v xs) :
    Calls Try.prog 29 #[v, .int .u32 (n : Int)] w fun e w' => e = .returned (.tuple #[.int .i64 (findA xs n).1, .int .i64 ((findA xs n).2 : Nat), .bool (may xs)]) ∧ Ext w w' := by
  have hM := refMay_calls v xs hl w hv
  obtain ⟨a, c, rfl, hac, hca⟩ := rdN_cell hv
  clear hv
  cases hm : may xs
  case false =>
    rw [hm] at hM
    have hA := findA_no (n := n) hm
    have HhA := Lib.hid hA
    clear hA
    have Hhm := Lib.hid hm
    clear hm
    have HhM := Lib.hid hM
    clear hM
    clear hca
    go_enter Try.func29, Try.ntmps29
    go_wp2_with (go_at_call 31; refine HhM.out.mono ?_; rintro e w1 ⟨rfl, hx1⟩)
    go_ret3
    exact ⟨by rw [HhA.out]; rfl, hx1⟩
  have hA := findA_yes (n := n) hm
  have hpos := may_pos hm
  have hgt := fun j (hj : j < xs.length) hl => goes_in hm hj hl n
  have hst := fun i s (hi : i < xs.length) hl => fnd_step (f := xs.length - i) (s := s) hm n hi (Nat.le_refl _) hl
  have hget := fun j (hj : j < xs.length) hl => may_get hm hj hl
  rw [hm] at hM
  have HhA := Lib.hid hA
  clear hA
  have Hhm := Lib.hid hm
  clear hm
  have HhM := Lib.hid hM
  clear hM
  have Hhgt := Lib.hid hgt
  clear hgt
  have Hhst := Lib.hid hst
  clear hst
  have Hhget := Lib.hid hget
  clear hget
  go_enter Try.func29, Try.ntmps29
  go_wp2_with (go_at_call 31; refine HhM.out.mono ?_; rintro e w1 ⟨rfl, hx1⟩)
  have HX1 := Lib.hid hx1
  clear hx1
  go_loopw [7, 8] (fun p st wr => ∃ s i : Nat, i < xs.length ∧ s ≤ i ∧ st = .int .i64 s ∧ p = .int .i64 i ∧ Ext w wr ∧ fnd xs n xs.length 0 0 = fnd xs n (xs.length - i) i s) (fun p _ _ => xs.length - (intOf p).toNat)
  case atStart => exact ⟨0, 0, hpos, by omega, rfl, rfl, HX1.out, rfl⟩
  case round =>
    obtain ⟨s, i, hi, hs, rfl, rfl, hx, heq⟩ := hrel
    have HX := Lib.hid hx
    obtain ⟨b, o, rfl, h1, h2, h3, h4, h5⟩ := hca i hi
    replace h1 := hx.cell h1; replace h2 := hx.cell h2; replace h3 := hx.cell h3; replace h4 := hx.cell h4; replace h5 := hx.cell h5
    clear hca hx
    cases hlf : xs[i].leaf
    case true =>
      have hres : findA xs n = (xs[i].way, s) := by rw [HhA.out, heq, fnd_leaf n hi (by omega) hlf]
      rw [hlf] at h1
      have Hhres := Lib.hid hres
      clear hres
      have Hheq := Lib.hid heq
      clear heq
      have Hhlf := Lib.hid hlf
      clear hlf
      clear h3 h4 h5
      generalize xs[i].way = wy at *
      go_wp2_with (go_quiet (fail))
      go_ret3
      exact ⟨by rw [Hhres.out]; rfl, (by repeat (first | exact HX.out | apply Ext.drewN | apply Ext.alloc | apply Ext.drew))⟩
    case false =>
      rw [hlf] at h1
      rw [Hhst.out i s hi hlf] at heq
      obtain ⟨g1, g2⟩ := Hhgt.out i hi hlf
      obtain ⟨q1, q2, q3, q4⟩ := Hhget.out i hi hlf
      have Hheq := Lib.hid heq
      clear heq
      have Hhlf := Lib.hid hlf
      clear hlf
      have hge : goes xs[i] n = if xs[i].at_ ≤ n then xs[i].more.toNat else xs[i].less.toNat := rfl
      generalize goes xs[i] n = gi at *
      generalize xs[i].at_ = at_ at *
      generalize xs[i].more = mr at *
      generalize xs[i].less = ls at *
      generalize xs[i].way = wy at *
      by_cases hat : at_ ≤ n
      · have hd : decide ((n : Int) < (at_ : Int)) = false := decide_eq_false (by omega)
        have hd' : decide (n < at_) = false := decide_eq_false (by omega)
        rw [if_pos hat] at hge
        have hmr : mr = (gi : Int) := by omega
        subst hmr
        have Hhge := Lib.hid hge
        clear hge
        have Hhat := Lib.hid hat
        clear hat
        go_wp2_with (go_quiet (fail))
        go_roundw
        case rel => exact ⟨s + 1, gi, g2, by omega, by go_num, rfl, (by repeat (first | exact HX.out | apply Ext.drewN | apply Ext.alloc | apply Ext.drew)), Hheq.out⟩
        case measure => simp [intOf]; omega
      · have hd : decide ((n : Int) < (at_ : Int)) = true := decide_eq_true (by omega)
        have hd' : decide (n < at_) = true := decide_eq_true (by omega)
        rw [if_neg hat] at hge
        have hls : ls = (gi : Int) := by omega
        subst hls
        have Hhge := Lib.hid hge
        clear hge
        have Hhat := Lib.hid hat
        clear hat
        go_wp2_with (go_quiet (fail))
        go_roundw
        case rel => exact ⟨s + 1, gi, g2, by omega, by go_num, rfl, (by repeat (first | exact HX.out | apply Ext.drewN | apply Ext.alloc | apply Ext.drew)), Hheq.out⟩
        case measure => simp [intOf]; omega
end L24
end Go.Proofs.Ytaclndhenhjjaaa
