/- Layer 8: the law ArchBit. -/
import Derived.Test.YtimpokibippenaaArchE
namespace Go.Proofs.Ytimpokibippenaa
open Go.RowKit V
namespace L08
theorem bit_test (n : Nat) : bit n = n.testBit 30 := by
  rw [Nat.testBit_eq_decide_div_mod_eq]; unfold bit; rw [show (2 : Nat) ^ 30 = 1073741824 by decide]
theorem or_bit (nr : Nat) (h : nr < 4294967296) : ∃ m, bits .or .u32 (nr : Int) 1073741824 = (m : Nat) ∧ m < 4294967296 ∧ bit m = true := by
  refine ⟨nr ||| 1073741824, ?_, ?_, ?_⟩
  · exact u32_or_nat nr 1073741824 h (by omega)
  · have : nr ||| 1073741824 < 2 ^ 32 := Nat.or_lt_two_pow (by omega) (by omega)
    omega
  · rw [bit_test, Nat.testBit_or, show Nat.testBit 1073741824 30 = true by decide, Bool.or_true]
theorem andNot_bit (nr : Nat) (h : nr < 4294967296) : ∃ m, bits .andNot .u32 (nr : Int) 1073741824 = (m : Nat) ∧ m < 4294967296 ∧ bit m = false := by
  refine ⟨nr &&& (4294967295 - 1073741824), ?_, ?_, ?_⟩
  · exact u32_andNot_nat nr 1073741824 h (by omega)
  · have : nr &&& (4294967295 - 1073741824) < 2 ^ 32 := Nat.and_lt_two_pow _ (by omega)
    omega
  · rw [bit_test, Nat.testBit_and, show Nat.testBit (4294967295 - 1073741824) 30 = false by decide, Bool.and_false]
theorem findTok_ne2 (t : Nat) : findFrom (tokB t) 0 ≠ 2 := by
  rw [findFrom_step (by omega)]; split; omega
  rename_i h0
  rw [findFrom_step (by omega)]; split; omega
  rw [findFrom_step (by omega)]; split
  · rename_i h2; exact absurd h2 h0
  rw [findFrom_step (by omega)]; split; omega
  rw [findFrom_step (by omega)]; split; omega
  rw [findFrom_step (by omega)]; split; omega
  rw [findFrom_end]; omega
set_option maxRecDepth 100000 in
set_option maxHeartbeats 400000 in
theorem ArchBit_calls (token nr : Nat) (hn : nr < 4294967296) (w : World) :
    Calls Try.prog 4 #[.int .u32 (token : Int), .int .u32 (nr : Int)] w fun e w' => e = .returned (.bool true) ∧ Ext w w' := by
  obtain ⟨m1, e1, l1, b1⟩ := or_bit nr hn
  obtain ⟨m2, e2, l2, b2⟩ := andNot_bit nr hn
  have o1 := fun w => Of_calls token m1 l1 w
  have o2 := fun w => Of_calls token m2 l2 w
  have hb := findFrom_bd (tokB token)
  have h2 := findTok_ne2 token
  have hA1 : ofA token m1 = if findFrom (tokB token) 0 < 0 then (0, false) else if findFrom (tokB token) 0 = 0 then (2, true) else (findFrom (tokB token) 0, true) := by
    unfold ofA; rw [b1]; simp
  have hA2 : ofA token m2 = if findFrom (tokB token) 0 < 0 then (0, false) else (findFrom (tokB token) 0, true) := by
    unfold ofA; rw [b2]; simp
  rw [hA1] at o1
  rw [hA2] at o2
  generalize findFrom (tokB token) 0 = f at *
  clear b1 b2 hA1 hA2
  by_cases h0 : f < 0
  · rw [if_pos h0] at o1 o2
    have Ho1 := Lib.hid o1
    clear o1
    have Ho2 := Lib.hid o2
    clear o2
    have Hh0 := Lib.hid h0
    clear h0
    have Hh2 := Lib.hid h2
    clear h2
    go_enter Try.func4, Try.ntmps4
    go_wp2_with fail
    refine (Ho1.out _).mono ?_; rintro e w1 ⟨rfl, hx1⟩
    go_wp2_with fail
    refine (Ho2.out _).mono ?_; rintro e w2 ⟨rfl, hx2⟩
    go_wp2_with (go_at_call 12; refine (awake_calls _).mono ?_; rintro e w3 ⟨rfl, hx3⟩)
    go_ret
    exact ⟨rfl, (hx1.trans hx2).trans hx3⟩
  rw [if_neg h0] at o1 o2
  by_cases h1 : f = 0
  · rw [if_pos h1] at o1
    rw [h1] at o2
    have Ho1 := Lib.hid o1
    clear o1
    have Ho2 := Lib.hid o2
    clear o2
    have Hh0 := Lib.hid h0
    clear h0
    have Hh2 := Lib.hid h2
    clear h2
    have Hh1 := Lib.hid h1
    clear h1
    go_enter Try.func4, Try.ntmps4
    go_wp2_with fail
    refine (Ho1.out _).mono ?_; rintro e w1 ⟨rfl, hx1⟩
    go_wp2_with fail
    refine (Ho2.out _).mono ?_; rintro e w2 ⟨rfl, hx2⟩
    go_wp2_with (go_at_call 12; refine (awake_calls _).mono ?_; rintro e w3 ⟨rfl, hx3⟩)
    go_ret
    exact ⟨rfl, (hx1.trans hx2).trans hx3⟩
  · rw [if_neg h1] at o1
    have q1 : (f != 2) = true := by rw [bne_iff_ne]; exact h2
    have q2 : (f != 0) = true := by rw [bne_iff_ne]; exact h1
    have Ho1 := Lib.hid o1
    clear o1
    have Ho2 := Lib.hid o2
    clear o2
    have Hh0 := Lib.hid h0
    clear h0
    have Hh2 := Lib.hid h2
    clear h2
    have Hh1 := Lib.hid h1
    clear h1
    go_enter Try.func4, Try.ntmps4
    go_wp2_with fail
    refine (Ho1.out _).mono ?_; rintro e w1 ⟨rfl, hx1⟩
    go_wp2_with fail
    refine (Ho2.out _).mono ?_; rintro e w2 ⟨rfl, hx2⟩
    go_wp2_with (go_at_call 12; refine (awake_calls _).mono ?_; rintro e w3 ⟨rfl, hx3⟩)
    go_ret
    exact ⟨by simp, (hx1.trans hx2).trans hx3⟩
end L08
end Go.Proofs.Ytimpokibippenaa
