/- Layer 8: the walks of Name, Token, Of64, All, In, and of the reference's In. -/
import Derived.Test.YtimpokibippenaaArchB
namespace Go.Proofs.Ytimpokibippenaa
open Go.RowKit V
namespace L08
theorem idx_table (i : Nat) (h : i < 6) (w : World) : (Instr.index 51 (.agg tableV) (.int .i64 (i : Int))).run Try.prog w = .ok (.agg #[.string (nmE i), .int .u32 (toks.getD i 0 : Nat)]) w := by
  rw [run_index_arr (n := 6) (sz := 2) Try.underlying51 Try.underlying49 (by kernel_rfl) _ i h]
  rcases lt6 i h with rfl | rfl | rfl | rfl | rfl | rfl <;> rfl
theorem field_nm (nm : ByteArray) (tk : Int) (w : World) : (Instr.field 49 (.agg #[.string nm, .int .u32 tk]) 0).run Try.prog w = .ok (.string nm) w := by rfl
theorem field_tk (nm : ByteArray) (tk : Int) (w : World) : (Instr.field 49 (.agg #[.string nm, .int .u32 tk]) 1).run Try.prog w = .ok (.int .u32 tk) w := by rfl
/-- an architecture's name -/
def nameA (a : Int) : ByteArray := if 0 ≤ a ∧ a < 6 then nmE a.toNat else ⟨#[]⟩
def tokA (a : Int) : Nat × Int := if 0 ≤ a ∧ a < 6 then (toks.getD a.toNat 0, 0) else (0, 80)
set_option maxRecDepth 100000 in
set_option maxHeartbeats 400000 in
theorem Name_calls (a : Int) (w : World) :
    Calls Try.prog 11 #[.int .i64 a] w fun e w' => e = .returned (.string (nameA a)) ∧ Ext w w' := by
  by_cases h0 : a < 0
  · have hA : nameA a = ⟨#[]⟩ := by unfold nameA; rw [if_neg (by omega)]
    have hd : decide (a < 0) = true := decide_eq_true h0
    rw [hA]
    have HhA := Lib.hid hA
    clear hA
    have Hh0 := Lib.hid h0
    clear h0
    go_enter Try.func11, Try.ntmps11
    go_wp2
    go_ret
    exact ⟨rfl, Ext.refl _⟩
  have hd : decide (a < 0) = false := decide_eq_false h0
  by_cases h1 : 6 ≤ a
  · have hA : nameA a = ⟨#[]⟩ := by unfold nameA; rw [if_neg (by omega)]
    have hd1 : decide (6 ≤ a) = true := decide_eq_true h1
    rw [hA]
    have HhA := Lib.hid hA
    clear hA
    have Hh0 := Lib.hid h0
    clear h0
    have Hh1 := Lib.hid h1
    clear h1
    go_enter Try.func11, Try.ntmps11
    go_wp2
    go_ret
    exact ⟨rfl, Ext.refl _⟩
  have hd1 : decide (6 ≤ a) = false := decide_eq_false h1
  have hA : nameA a = nmE a.toNat := by unfold nameA; rw [if_pos (by omega)]
  obtain ⟨i, rfl⟩ := Int.eq_ofNat_of_zero_le (by omega : 0 ≤ a)
  rw [Int.toNat_natCast] at hA
  have hidx := idx_table i (by omega)
  rw [hA]
  generalize nmE i = nm at *
  generalize toks.getD i 0 = tk at *
  have hf0 := field_nm nm (tk : Int)
  have hf1 := field_tk nm (tk : Int)
  have HhA := Lib.hid hA
  clear hA
  go_enter Try.func11, Try.ntmps11
  go_wp2_with (go_at_call 23; refine (table_calls _).mono ?_; rintro e w1 ⟨rfl, hx1⟩)
  go_ret
  exact ⟨rfl, hx1⟩
set_option maxRecDepth 100000 in
set_option maxHeartbeats 400000 in
theorem Token_calls (a : Int) (w : World) :
    Calls Try.prog 16 #[.int .i64 a] w fun e w' => e = .returned (.tuple #[.int .u32 ((tokA a).1 : Nat), .int .i64 (tokA a).2]) ∧ Ext w w' := by
  by_cases h0 : a < 0
  · have hA : tokA a = (0, 80) := by unfold tokA; rw [if_neg (by omega)]
    have hd : decide (a < 0) = true := decide_eq_true h0
    rw [hA]
    have HhA := Lib.hid hA
    clear hA
    have Hh0 := Lib.hid h0
    clear h0
    go_enter Try.func16, Try.ntmps16
    go_wp2
    go_ret2
    exact ⟨rfl, Ext.refl _⟩
  have hd : decide (a < 0) = false := decide_eq_false h0
  by_cases h1 : 6 ≤ a
  · have hA : tokA a = (0, 80) := by unfold tokA; rw [if_neg (by omega)]
    have hd1 : decide (6 ≤ a) = true := decide_eq_true h1
    rw [hA]
    have HhA := Lib.hid hA
    clear hA
    have Hh0 := Lib.hid h0
    clear h0
    have Hh1 := Lib.hid h1
    clear h1
    go_enter Try.func16, Try.ntmps16
    go_wp2
    go_ret2
    exact ⟨rfl, Ext.refl _⟩
  have hd1 : decide (6 ≤ a) = false := decide_eq_false h1
  have hA : tokA a = (toks.getD a.toNat 0, 0) := by unfold tokA; rw [if_pos (by omega)]
  obtain ⟨i, rfl⟩ := Int.eq_ofNat_of_zero_le (by omega : 0 ≤ a)
  rw [Int.toNat_natCast] at hA
  have hidx := idx_table i (by omega)
  rw [hA]
  dsimp only
  generalize nmE i = nm at *
  generalize toks.getD i 0 = tk at *
  have hf0 := field_nm nm (tk : Int)
  have hf1 := field_tk nm (tk : Int)
  have HhA := Lib.hid hA
  clear hA
  go_enter Try.func16, Try.ntmps16
  go_wp2_with (go_at_call 23; refine (table_calls _).mono ?_; rintro e w1 ⟨rfl, hx1⟩)
  go_ret2
  exact ⟨rfl, hx1⟩
/-- is an architecture one of 64 bits? -/
def of64 (a : Int) : Bool := a == 0 || (a == 4 || a == 5)
set_option maxRecDepth 100000 in
set_option maxHeartbeats 400000 in
theorem Of64_calls (a : Int) (w : World) :
    Calls Try.prog 18 #[.int .i64 a] w fun e w' => e = .returned (.bool (of64 a)) ∧ Ext w w' := by
  have hT := fun w => Token_calls a w
  by_cases h : 0 ≤ a ∧ a < 6
  case neg =>
    have hA : tokA a = (0, 80) := by unfold tokA; rw [if_neg h]
    have hr : of64 a = false := by unfold of64; simp; omega
    rw [hA] at hT
    have HhT := Lib.hid hT
    clear hT
    have HhA := Lib.hid hA
    clear hA
    have Hhr := Lib.hid hr
    clear hr
    have Hh := Lib.hid h
    clear h
    go_enter Try.func18, Try.ntmps18
    go_wp2_with (go_at_call 16; refine (HhT.out _).mono ?_; rintro e w1 ⟨rfl, hx1⟩)
    go_ret
    exact ⟨by rw [Hhr.out]; rfl, hx1⟩
  case pos =>
    obtain ⟨i, rfl⟩ := Int.eq_ofNat_of_zero_le h.1
    have hi : i < 6 := by omega
    rcases lt6 i hi with rfl | rfl | rfl | rfl | rfl | rfl
    all_goals
      simp only [tokA, toks] at hT
      simp at hT
      have HhT := Lib.hid hT
      clear hT
      clear h hi
      go_enter Try.func18, Try.ntmps18
      go_wp2_with (go_at_call 16; refine (HhT.out _).mono ?_; rintro e w1 ⟨rfl, hx1⟩)
      go_ret
      exact ⟨rfl, hx1⟩
end L08
end Go.Proofs.Ytimpokibippenaa
