/- Layer 8: the law ArchNames. -/
import Derived.Test.YtimpokibippenaaArchE
namespace Go.Proofs.Ytimpokibippenaa
open Go.RowKit V
namespace L08
set_option maxRecDepth 100000 in
set_option maxHeartbeats 400000 in
theorem ArchNames_calls (a : Int) (s : ByteArray) (hs : s.size ≤ 9223372036854775807) (w : World) :
    Calls Try.prog 3 #[.int .i64 a, .string s] w fun e w' => e = .returned (.bool true) ∧ Ext w w' := by
  have hP := fun w => Parse_calls s w
  have hrP := fun w => refParse_calls s w
  have hN := fun w => Name_calls a w
  generalize parseA s.toList = pr at *
  obtain ⟨x, ev⟩ := pr
  dsimp only at hP hrP
  have HhP := Lib.hid hP
  clear hP
  have HhrP := Lib.hid hrP
  clear hrP
  by_cases hlen : 200 < s.size
  · have hd : decide (200 < s.size) = true := decide_eq_true hlen
    have hd' : decide (200 < (s.size : Int)) = true := decide_eq_true (by omega)
    have Hhlen := Lib.hid hlen
    clear hlen
    have HhN := Lib.hid hN
    clear hN
    go_enter Try.func3, Try.ntmps3
    go_wp2
    go_ret
    exact ⟨rfl, Ext.refl _⟩
  have hd : decide (200 < s.size) = false := decide_eq_false hlen
  have hd' : decide (200 < (s.size : Int)) = false := decide_eq_false (by omega)
  by_cases h0 : 0 ≤ a
  case neg =>
    have hA : nameA a = ⟨#[]⟩ := by unfold nameA; rw [if_neg (by omega)]
    rw [hA] at hN
    have hd1 : decide (0 ≤ a) = false := decide_eq_false h0
    have HhN := Lib.hid hN
    clear hN
    have HhA := Lib.hid hA
    clear hA
    have Hh0 := Lib.hid h0
    clear h0
    have Hhlen := Lib.hid hlen
    clear hlen
    go_enter Try.func3, Try.ntmps3
    go_wp2_with fail
    refine (HhP.out _).mono ?_; rintro e w1 ⟨rfl, hx1⟩
    go_wp2_with fail
    refine (HhrP.out _).mono ?_; rintro e w2 ⟨rfl, hx2⟩
    go_wp2_with fail
    refine (HhN.out _).mono ?_; rintro e w3 ⟨rfl, hx3⟩
    go_wp2_with (go_at_call 12; refine (awake_calls _).mono ?_; rintro e w4 ⟨rfl, hx4⟩)
    go_ret
    exact ⟨by simp, ((hx1.trans hx2).trans hx3).trans hx4⟩
  have hd1 : decide (0 ≤ a) = true := decide_eq_true h0
  by_cases h1 : a < 6
  case neg =>
    have hA : nameA a = ⟨#[]⟩ := by unfold nameA; rw [if_neg (by omega)]
    rw [hA] at hN
    have hd2 : decide (a < 6) = false := decide_eq_false h1
    have HhN := Lib.hid hN
    clear hN
    have HhA := Lib.hid hA
    clear hA
    have Hh1 := Lib.hid h1
    clear h1
    have Hhlen := Lib.hid hlen
    clear hlen
    go_enter Try.func3, Try.ntmps3
    go_wp2_with (go_at_call 8; refine (refNames_calls _).mono ?_; rintro e w0 ⟨g, rfl, hx0, -⟩)
    refine (HhP.out _).mono ?_; rintro e w1 ⟨rfl, hx1⟩
    go_wp2_with fail
    refine (HhrP.out _).mono ?_; rintro e w2 ⟨rfl, hx2⟩
    go_wp2_with fail
    refine (HhN.out _).mono ?_; rintro e w3 ⟨rfl, hx3⟩
    go_wp2_with (go_at_call 12; refine (awake_calls _).mono ?_; rintro e w4 ⟨rfl, hx4⟩)
    go_ret
    exact ⟨by simp, (((hx0.trans hx1).trans hx2).trans hx3).trans hx4⟩
  have hA : nameA a = nmE a.toNat := by unfold nameA; rw [if_pos ⟨h0, h1⟩]
  obtain ⟨i, rfl⟩ := Int.eq_ofNat_of_zero_le h0
  rw [Int.toNat_natCast] at hA
  rw [hA] at hN
  have hi : i < 6 := by omega
  have hNm := fun w => refNames_calls w
  generalize hnm : nmE i = nm at *
  have Hhnm := Lib.hid hnm
  clear hnm
  have HhN := Lib.hid hN
  clear hN
  have HhA := Lib.hid hA
  clear hA
  have Hhlen := Lib.hid hlen
  clear hlen
  have HhNm := Lib.hid hNm
  clear hNm
  go_enter Try.func3, Try.ntmps3
  go_wp2_with fail
  refine (HhNm.out _).mono ?_; rintro e w0 ⟨g0, rfl, hx0, -⟩
  go_wp2_with fail
  refine (HhNm.out _).mono ?_; rintro e w1 ⟨g, rfl, hx1, hc⟩
  have ci := hc i hi
  rw [Hhnm.out] at ci
  clear hc
  go_wp2_with fail
  refine (HhP.out _).mono ?_; rintro e w2 ⟨rfl, hx2⟩
  go_wp2_with fail
  refine (HhrP.out _).mono ?_; rintro e w3 ⟨rfl, hx3⟩
  go_wp2_with fail
  refine (HhN.out _).mono ?_; rintro e w4 ⟨rfl, hx4⟩
  go_wp2_with (go_at_call 12; refine (awake_calls _).mono ?_; rintro e w5 ⟨rfl, hx5⟩)
  go_ret
  exact ⟨by simp, ((((hx0.trans hx1).trans hx2).trans hx3).trans hx4).trans hx5⟩
end L08
end Go.Proofs.Ytimpokibippenaa
