/- Layer 8: the law ArchTokens. -/
import Derived.Test.YtimpokibippenaaArchE
namespace Go.Proofs.Ytimpokibippenaa
open Go.RowKit V
namespace L08
set_option maxRecDepth 100000 in
set_option maxHeartbeats 1000000 in
theorem ArchTokens_calls (a : Int) (token nr : Nat) (v : Value) (xs : List Int) (hnl : xs.length ≤ maxLen) (hn : nr < 4294967296) (w : World) (hv : Rd w 1 encI v xs) :
    Calls Try.prog 7 #[.int .i64 a, .int .u32 (token : Int), .int .u32 (nr : Int), v] w fun e w' => e = .returned (.bool true) ∧ Ext w w' := by
  have hrd0 := hv
  obtain ⟨ad, c, rfl, hac, -⟩ := rdI_cell hv
  clear hv
  have Hhrd0 := Lib.hid hrd0
  clear hrd0
  unfold maxLen at hnl
  by_cases hlen : 40 < xs.length
  · have hd : decide (40 < xs.length) = true := decide_eq_true hlen
    have hd' : decide (40 < (xs.length : Int)) = true := decide_eq_true (by omega)
    have Hhlen := Lib.hid hlen
    clear hlen
    go_enter Try.func7, Try.ntmps7
    go_wp2
    go_ret
    exact ⟨rfl, Ext.refl _⟩
  have hd : decide (40 < xs.length) = false := decide_eq_false hlen
  have hd' : decide (40 < (xs.length : Int)) = false := decide_eq_false (by omega)
  have hT := fun w => Token_calls a w
  have hO := fun w => Of_calls token nr hn w
  have hrO := fun w => refOf_calls token nr hn w
  have h64 := fun w => Of64_calls a w
  have hI := fun w1 (hx : Ext w w1) => In_calls _ xs a (by omega) w1 (Hhrd0.out.ext hx)
  have hrI := fun w1 (hx : Ext w w1) => refIn_calls _ xs a (by omega) w1 (Hhrd0.out.ext hx)
  generalize inA xs a = ia at *
  generalize ofA token nr = oa at *
  obtain ⟨ox, ok⟩ := oa
  dsimp only at hO hrO
  have hq : of64 a = ((a == 0) || ((a == 4) || (a == 5))) := rfl
  have hq2 : (((a == 0) || (a == 4)) || (a == 5)) = of64 a := by rw [hq, Bool.or_assoc]
  have HhO := Lib.hid hO
  clear hO
  have HhrO := Lib.hid hrO
  clear hrO
  have HhI := Lib.hid hI
  clear hI
  have HhrI := Lib.hid hrI
  clear hrI
  have Hhlen := Lib.hid hlen
  clear hlen
  have Hhq := Lib.hid hq
  clear hq
  by_cases h0 : 0 ≤ a
  case neg =>
    have hA : tokA a = (0, 80) := by unfold tokA; rw [if_neg (by omega)]
    rw [hA] at hT
    have hr : of64 a = false := by unfold of64; simp; omega
    have d0 : (a == 0) = false := beq_eq_false_iff_ne.2 (by omega)
    have d4 : (a == 4) = false := beq_eq_false_iff_ne.2 (by omega)
    have d5 : (a == 5) = false := beq_eq_false_iff_ne.2 (by omega)
    have hd1 : decide (0 ≤ a) = false := decide_eq_false h0
    rw [hr] at h64
    clear hq2
    have HhT := Lib.hid hT
    clear hT
    have HhA := Lib.hid hA
    clear hA
    have Hh0 := Lib.hid h0
    clear h0
    have Hhr := Lib.hid hr
    clear hr
    have Hh64 := Lib.hid h64
    clear h64
    go_enter Try.func7, Try.ntmps7
    go_wp2_with fail
    refine (HhT.out _).mono ?_; rintro e w1 ⟨rfl, hx1⟩
    go_wp2_with fail
    refine (Hh64.out _).mono ?_; rintro e w2 ⟨rfl, hx2⟩
    go_wp2_with fail
    refine (HhO.out _).mono ?_; rintro e w3 ⟨rfl, hx3⟩
    go_wp2_with fail
    refine (HhrO.out _).mono ?_; rintro e w4 ⟨rfl, hx4⟩
    have HX4 := Lib.hid (((hx1.trans hx2).trans hx3).trans hx4)
    go_wp2_with fail
    refine (HhI.out _ HX4.out).mono ?_; rintro e w5 ⟨rfl, hx5⟩
    go_wp2_with fail
    refine (HhrI.out _ (HX4.out.trans hx5)).mono ?_; rintro e w6 ⟨rfl, hx6⟩
    go_wp2_with (go_at_call 12; refine (awake_calls _).mono ?_; rintro e w7 ⟨rfl, hx7⟩)
    go_ret
    exact ⟨by simp, ((HX4.out.trans hx5).trans hx6).trans hx7⟩
  have hd1 : decide (0 ≤ a) = true := decide_eq_true h0
  have hTk := fun w => refTokens_calls w
  by_cases h1 : a < 6
  case neg =>
    have hA : tokA a = (0, 80) := by unfold tokA; rw [if_neg (by omega)]
    rw [hA] at hT
    have hr : of64 a = false := by unfold of64; simp; omega
    have d0 : (a == 0) = false := beq_eq_false_iff_ne.2 (by omega)
    have d4 : (a == 4) = false := beq_eq_false_iff_ne.2 (by omega)
    have d5 : (a == 5) = false := beq_eq_false_iff_ne.2 (by omega)
    have hd2 : decide (a < 6) = false := decide_eq_false h1
    rw [hr] at h64
    clear hq2
    have HhT := Lib.hid hT
    clear hT
    have HhA := Lib.hid hA
    clear hA
    have Hh1 := Lib.hid h1
    clear h1
    have Hhr := Lib.hid hr
    clear hr
    have Hh64 := Lib.hid h64
    clear h64
    have HhTk := Lib.hid hTk
    clear hTk
    go_enter Try.func7, Try.ntmps7
    go_wp2_with fail
    refine (HhT.out _).mono ?_; rintro e w1 ⟨rfl, hx1⟩
    go_wp2_with fail
    refine (HhTk.out _).mono ?_; rintro e w0 ⟨g, rfl, hx0, -⟩
    go_wp2_with fail
    refine (Hh64.out _).mono ?_; rintro e w2 ⟨rfl, hx2⟩
    go_wp2_with fail
    refine (HhO.out _).mono ?_; rintro e w3 ⟨rfl, hx3⟩
    go_wp2_with fail
    refine (HhrO.out _).mono ?_; rintro e w4 ⟨rfl, hx4⟩
    have HX4 := Lib.hid ((((hx1.trans hx0).trans hx2).trans hx3).trans hx4)
    go_wp2_with fail
    refine (HhI.out _ HX4.out).mono ?_; rintro e w5 ⟨rfl, hx5⟩
    go_wp2_with fail
    refine (HhrI.out _ (HX4.out.trans hx5)).mono ?_; rintro e w6 ⟨rfl, hx6⟩
    go_wp2_with (go_at_call 12; refine (awake_calls _).mono ?_; rintro e w7 ⟨rfl, hx7⟩)
    go_ret
    exact ⟨by simp, ((HX4.out.trans hx5).trans hx6).trans hx7⟩
  have hA : tokA a = (toks.getD a.toNat 0, 0) := by unfold tokA; rw [if_pos ⟨h0, h1⟩]
  obtain ⟨i, rfl⟩ := Int.eq_ofNat_of_zero_le h0
  rw [Int.toNat_natCast] at hA
  rw [hA] at hT
  dsimp only at hT
  have hi : i < 6 := by omega
  clear hd1 h0 h1 hq2 Hhq
  have HhTk := Lib.hid hTk
  clear hTk
  rcases lt6 i hi with rfl | rfl | rfl | rfl | rfl | rfl
  all_goals
    simp only [toks] at hT
    simp at hT
    simp only [of64] at h64
    simp at h64
    clear hA
    have HhT := Lib.hid hT
    clear hT
    have Hh64 := Lib.hid h64
    clear h64
    go_enter Try.func7, Try.ntmps7
    go_wp2_with fail
    refine (HhT.out _).mono ?_; rintro e w1 ⟨rfl, hx1⟩
    go_wp2_with fail
    refine (HhTk.out _).mono ?_; rintro e w0 ⟨g0, rfl, hx0, -⟩
    go_wp2_with fail
    refine (HhTk.out _).mono ?_; rintro e w00 ⟨g, rfl, hx00, hc⟩
    have ci := hc _ hi
    simp only [toks] at ci
    simp at ci
    clear hc
    go_wp2_with fail
    refine (Hh64.out _).mono ?_; rintro e w2 ⟨rfl, hx2⟩
    go_wp2_with fail
    refine (HhO.out _).mono ?_; rintro e w3 ⟨rfl, hx3⟩
    go_wp2_with fail
    refine (HhrO.out _).mono ?_; rintro e w4 ⟨rfl, hx4⟩
    have HX4 := Lib.hid (((((hx1.trans hx0).trans hx00).trans hx2).trans hx3).trans hx4)
    go_wp2_with fail
    refine (HhI.out _ HX4.out).mono ?_; rintro e w5 ⟨rfl, hx5⟩
    go_wp2_with fail
    refine (HhrI.out _ (HX4.out.trans hx5)).mono ?_; rintro e w6 ⟨rfl, hx6⟩
    go_wp2_with (go_at_call 12; refine (awake_calls _).mono ?_; rintro e w7 ⟨rfl, hx7⟩)
    go_ret
    exact ⟨by simp, ((HX4.out.trans hx5).trans hx6).trans hx7⟩
end L08
end Go.Proofs.Ytimpokibippenaa
