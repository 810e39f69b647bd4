/- Layer 20: the walks of Only, Data, name, Known, Less and of the reference's: each call returns what the plain function says; no old memory turns. -/
import Derived.Test.YtjgglocabjpmeaaActA
namespace Go.Proofs.Ytjgglocabjpmeaa
open Go.RowKit V
namespace L20
theorem Only_calls (a : Nat) (h : a < 4294967296) (w : World) : Calls Try.prog 5 #[.int .u32 (a : Int)] w fun e w' => e = .returned (.int .u32 ((a / 65536 * 65536 : Nat) : Int)) ∧ w = w' := by
  go_enter Try.func5, Try.ntmps5
  go_wp2
  go_ret
  exact ⟨by simp [andNot16 a h], rfl⟩
theorem Data_calls (a : Nat) (h : a < 4294967296) (w : World) : Calls Try.prog 6 #[.int .u32 (a : Int)] w fun e w' => e = .returned (.int .u32 ((a % 65536 : Nat) : Int)) ∧ w = w' := by
  go_enter Try.func6, Try.ntmps6
  go_wp2
  go_ret
  exact ⟨by simp [and16 a h], rfl⟩
theorem sg_wrap (a : Nat) (h : a < 4294967296) : wrap32 ((a : Int) / 65536 * 65536) = sg a * 65536 := by
  unfold wrap32 sg; split <;> omega
theorem Less_calls (a b : Nat) (h : a < 4294967296) (h' : b < 4294967296) (w : World) : Calls Try.prog 9 #[.int .u32 (a : Int), .int .u32 (b : Int)] w fun e w' => e = .returned (.bool (less a b)) ∧ w = w' := by
  go_enter Try.func9, Try.ntmps9
  go_wp2_with (go_at_call 5; refine (Only_calls _ (by assumption) _).mono ?_; rintro e w' ⟨rfl, rfl⟩)
  go_ret
  exact ⟨by simp [less, sg_wrap a h, sg_wrap b h'], rfl⟩
theorem idx_names (i : Nat) (h : i < 8) (w : World) : (Instr.index 37 (.agg namesV) (.int .i64 (i : Int))).run Try.prog w = .ok (.agg #[.int .u32 (codes.getD i 0 : Nat), .string ⟨(nms.getD i []).toArray⟩]) w := by
  rw [run_index_arr (n := 8) (sz := 2) Try.underlying37 Try.underlying36 (by kernel_rfl) _ i h]
  rcases lt8 i h with rfl | rfl | rfl | rfl | rfl | rfl | rfl | rfl <;> rfl
theorem names_calls (w : World) : Calls Try.prog 18 #[] w fun e w' => e = .returned (.agg namesV) ∧ Ext w w' := by
  go_enter Try.func18, Try.ntmps18
  go_wp2
  refine bodyPost_ret (v := .agg namesV) (by simp [results, Try.results18, go_sem]; rfl) rfl ⟨rfl, (Ext.refl _).alloc _⟩
theorem name_calls (a : Nat) (h : a < 4294967296) (w : World) : Calls Try.prog 13 #[.int .u32 (a : Int)] w fun e w' => e = .returned (.string ⟨(nm (a / 65536)).toArray⟩) ∧ Ext w w' := by
  go_enter Try.func13, Try.ntmps13
  go_wp2_with (go_at_call 18; refine (names_calls _).mono ?_; rintro e w1 ⟨rfl, hb1⟩)
  go_loopw [6] (fun i wr => ∃ k : Nat, k ≤ 8 ∧ i = .int .i64 k ∧ Ext w wr ∧ ∀ j, j < k → codes.getD j 0 ≠ a / 65536 * 65536) (fun i _ => 8 - (intOf i).toNat)
  case atStart => exact ⟨0, by omega, rfl, hb1, by omega⟩
  case round =>
    obtain ⟨k, hk, rfl, hb, hno⟩ := hrel
    have HB := Lib.hid hb
    have HN := Lib.hid hno
    clear hb hno hb1
    by_cases hlt : k < 8
    · have hidx := idx_names k hlt
      generalize hc : codes.getD k 0 = c at hidx
      generalize hn : nms.getD k [] = t at hidx
      have HC := Lib.hid hc
      have HT := Lib.hid hn
      clear hc hn
      go_wp2_with (go_quiet ((go_at_call 5; exact Calls.quiet_of_same ((Only_calls _ h _).mono fun _ _ ⟨e, f⟩ => ⟨e, f.symm⟩))))
      · go_ret
        refine ⟨?_, (HB.out.alloc _).drewN _⟩
        have hcc : ((c : Int) == (a : Int) / 65536 * 65536) = true := by assumption
        have e : codes.getD k 0 = a / 65536 * 65536 := by rw [HC.out]; have := eq_of_beq hcc; omega
        have e2 := nm_hit k a hlt e
        rw [HT.out] at e2
        simp [e2]
      · have hcc : ((c : Int) == (a : Int) / 65536 * 65536) = false := by assumption
        have e : codes.getD k 0 ≠ a / 65536 * 65536 := by rw [HC.out]; have := ne_of_beq_false hcc; omega
        go_roundw
        case rel =>
          refine ⟨k + 1, by omega, by go_num, (HB.out.alloc _).drewN _, fun j hj => ?_⟩
          by_cases hjk : j < k
          · exact HN.out j hjk
          · obtain rfl : j = k := by omega
            exact e
        case measure => simp [intOf]; omega
    · go_wp2
      go_ret
      obtain rfl : k = 8 := by omega
      exact ⟨by rw [nm_miss a HN.out]; simp, HB.out⟩
theorem Known_calls (a : Nat) (h : a < 4294967296) (w : World) : Calls Try.prog 7 #[.int .u32 (a : Int)] w fun e w' => e = .returned (.bool (kn a)) ∧ Ext w w' := by
  have hne : (nm (a / 65536)).isEmpty = !kn a := nm_isEmpty _
  go_enter Try.func7, Try.ntmps7
  go_wp2_with (go_at_call 13; refine (name_calls a h _).mono ?_; rintro e w1 ⟨rfl, hb1⟩)
  go_ret
  exact ⟨by simp, by assumption⟩
end L20
end Go.Proofs.Ytjgglocabjpmeaa
