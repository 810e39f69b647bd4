import Derived.Test.YtkmhfjnjfghnjaaMq0
/- Layer 20, the plain functions and the walks of Only, Data, name, Known, Less and of the reference's: each call returns what the plain function says; no old memory turns. -/
namespace Go.Proofs.Ytkmhfjnjfghnjaa
open Go.RowKit V
namespace L20
/-- the names of the actions, by their number without the data -/
def nm (k : Nat) : List UInt8 :=
  if k = 32768 then [107, 105, 108, 108] else if k = 0 then [107, 105, 108, 108, 116, 104, 114, 101, 97, 100] else if k = 3 then [116, 114, 97, 112]
  else if k = 5 then [101, 114, 114, 110, 111] else if k = 32704 then [110, 111, 116, 105, 102, 121] else if k = 32752 then [116, 114, 97, 99, 101]
  else if k = 32764 then [108, 111, 103] else if k = 32767 then [97, 108, 108, 111, 119] else []
def rk (k : Nat) : Int :=
  if k = 32768 then 0 else if k = 0 then 1 else if k = 3 then 2 else if k = 5 then 3 else if k = 32704 then 4 else if k = 32752 then 5
  else if k = 32764 then 6 else if k = 32767 then 7 else -1
/-- is an action known? -/
def kn (a : Nat) : Bool := decide (0 ≤ rk (a / 65536))
def sg (a : Nat) : Int := if 32768 ≤ a / 65536 then (a / 65536 : Nat) - 65536 else (a / 65536 : Nat)
def less (a b : Nat) : Bool := decide (sg a < sg b)
theorem nm_isEmpty (k : Nat) : (nm k).isEmpty = !decide (0 ≤ rk k) := by
  unfold nm rk; (repeat' split) <;> rfl
theorem andNot16 (a : Nat) (h : a < 4294967296) : bits .andNot .u32 (a : Int) 65535 = ((a / 65536 * 65536 : Nat) : Int) := by
  rw [u32_andNot _ _ (by omega) (by omega) (by decide) (by decide)]
  have e : (4294967295 - Int.toNat 65535) = 4294901760 := by decide
  have h1 := nat_hi32_16 a
  rw [e, Int.toNat_natCast, h1, Nat.mod_eq_of_lt h]
theorem and16 (a : Nat) (h : a < 4294967296) : bits .and .u32 (a : Int) 65535 = ((a % 65536 : Nat) : Int) := by
  rw [u32_and _ _ (by omega) (by omega) (by decide) (by decide)]
  have h1 := nat_mask16 a
  rw [Int.toNat_natCast, show Int.toNat 65535 = 65535 from rfl, h1]
def codes : List Nat := [2147483648, 0, 196608, 327680, 2143289344, 2146435072, 2147221504, 2147418112]
def nms : List (List UInt8) := [[107, 105, 108, 108], [107, 105, 108, 108, 116, 104, 114, 101, 97, 100], [116, 114, 97, 112], [101, 114, 114, 110, 111],
  [110, 111, 116, 105, 102, 121], [116, 114, 97, 99, 101], [108, 111, 103], [97, 108, 108, 111, 119]]
def namesV : Array Value := #[.int .u32 2147483648, .string ⟨#[107, 105, 108, 108]⟩, .int .u32 0, .string ⟨#[107, 105, 108, 108, 116, 104, 114, 101, 97, 100]⟩,
  .int .u32 196608, .string ⟨#[116, 114, 97, 112]⟩, .int .u32 327680, .string ⟨#[101, 114, 114, 110, 111]⟩, .int .u32 2143289344, .string ⟨#[110, 111, 116, 105, 102, 121]⟩,
  .int .u32 2146435072, .string ⟨#[116, 114, 97, 99, 101]⟩, .int .u32 2147221504, .string ⟨#[108, 111, 103]⟩, .int .u32 2147418112, .string ⟨#[97, 108, 108, 111, 119]⟩]
theorem lt8 (i : Nat) (h : i < 8) : i = 0 ∨ i = 1 ∨ i = 2 ∨ i = 3 ∨ i = 4 ∨ i = 5 ∨ i = 6 ∨ i = 7 := by omega
theorem nm_hit (i a : Nat) (h : i < 8) (e : codes.getD i 0 = a / 65536 * 65536) : nm (a / 65536) = nms.getD i [] := by
  rcases lt8 i h with rfl | rfl | rfl | rfl | rfl | rfl | rfl | rfl <;> simp [codes] at e
  · rw [show a / 65536 = 32768 by omega]; rfl
  · rw [show a / 65536 = 0 by omega]; rfl
  · rw [show a / 65536 = 3 by omega]; rfl
  · rw [show a / 65536 = 5 by omega]; rfl
  · rw [show a / 65536 = 32704 by omega]; rfl
  · rw [show a / 65536 = 32752 by omega]; rfl
  · rw [show a / 65536 = 32764 by omega]; rfl
  · rw [show a / 65536 = 32767 by omega]; rfl
theorem nm_miss (a : Nat) (e : ∀ i, i < 8 → codes.getD i 0 ≠ a / 65536 * 65536) : nm (a / 65536) = [] := by
  have e0 := e 0 (by omega); have e1 := e 1 (by omega); have e2 := e 2 (by omega); have e3 := e 3 (by omega)
  have e4 := e 4 (by omega); have e5 := e 5 (by omega); have e6 := e 6 (by omega); have e7 := e 7 (by omega)
  simp [codes] at e0 e1 e2 e3 e4 e5 e6 e7
  unfold nm
  rw [if_neg (by omega), if_neg (by omega), if_neg (by omega), if_neg (by omega), if_neg (by omega), if_neg (by omega), if_neg (by omega), if_neg (by omega)]
end L20
end Go.Proofs.Ytkmhfjnjfghnjaa

/- Layer 20, for seats that reach only Known of it: the walks of Only, name, Known and of the reference's rank and Known. -/
namespace Go.Proofs.Ytkmhfjnjfghnjaa
open Go.RowKit V
namespace L20
theorem Only_calls (a : Nat) (h : a < 4294967296) (w : World) : Calls Try.prog 105 #[.int .u32 (a : Int)] w fun e w' => e = .returned (.int .u32 ((a / 65536 * 65536 : Nat) : Int)) ∧ w = w' := by
  go_enter Try.func105, Try.ntmps105
  go_wp2
  go_ret
  exact ⟨by simp [andNot16 a h], rfl⟩
theorem idx_names (i : Nat) (h : i < 8) (w : World) : (Instr.index 152 (.agg namesV) (.int .i64 (i : Int))).run Try.prog w = .ok (.agg #[.int .u32 (codes.getD i 0 : Nat), .string ⟨(nms.getD i []).toArray⟩]) w := by
  rw [run_index_arr (n := 8) (sz := 2) Try.underlying152 Try.underlying151 (by kernel_rfl) _ i h]
  rcases lt8 i h with rfl | rfl | rfl | rfl | rfl | rfl | rfl | rfl <;> rfl
theorem names_calls (w : World) : Calls Try.prog 104 #[] w fun e w' => e = .returned (.agg namesV) ∧ Ext w w' := by
  go_enter Try.func104, Try.ntmps104
  go_wp2
  refine bodyPost_ret (v := .agg namesV) (by simp [results, Try.results104, go_sem]; rfl) rfl ⟨rfl, (Ext.refl _).alloc _⟩
theorem name_calls (a : Nat) (h : a < 4294967296) (w : World) : Calls Try.prog 83 #[.int .u32 (a : Int)] w fun e w' => e = .returned (.string ⟨(nm (a / 65536)).toArray⟩) ∧ Ext w w' := by
  go_enter Try.func83, Try.ntmps83
  go_wp2_with (go_at_call 104; refine (names_calls _).mono ?_; rintro e w1 ⟨rfl, hb1⟩)
  go_loopw [6] (fun i wr => ∃ k : Nat, k ≤ 8 ∧ i = .int .i64 k ∧ Ext w wr ∧ ∀ j, j < k → codes.getD j 0 ≠ a / 65536 * 65536) (fun i _ => 8 - (intOf i).toNat)
  case atStart => exact ⟨0, by omega, rfl, hb1, by omega⟩
  case round =>
    obtain ⟨k, hk, rfl, hb, hno⟩ := hrel
    have HB := Lib.hid hb
    have HN := Lib.hid hno
    clear hb hno hb1
    by_cases hlt : k < 8
    · have hidx := idx_names k hlt
      generalize hc : codes.getD k 0 = c at hidx
      generalize hn : nms.getD k [] = t at hidx
      have HC := Lib.hid hc
      have HT := Lib.hid hn
      clear hc hn
      go_wp2_with (go_quiet ((go_at_call 105; exact Calls.quiet_of_same ((Only_calls _ h _).mono fun _ _ ⟨e, f⟩ => ⟨e, f.symm⟩))))
      · go_ret
        refine ⟨?_, (HB.out.alloc _).drewN _⟩
        have hcc : ((c : Int) == (a : Int) / 65536 * 65536) = true := by assumption
        have e : codes.getD k 0 = a / 65536 * 65536 := by rw [HC.out]; have := eq_of_beq hcc; omega
        have e2 := nm_hit k a hlt e
        rw [HT.out] at e2
        simp [e2]
      · have hcc : ((c : Int) == (a : Int) / 65536 * 65536) = false := by assumption
        have e : codes.getD k 0 ≠ a / 65536 * 65536 := by rw [HC.out]; have := ne_of_beq_false hcc; omega
        go_roundw
        case rel =>
          refine ⟨k + 1, by omega, by go_num, (HB.out.alloc _).drewN _, fun j hj => ?_⟩
          by_cases hjk : j < k
          · exact HN.out j hjk
          · obtain rfl : j = k := by omega
            exact e
        case measure => simp [intOf]; omega
    · go_wp2
      go_ret
      obtain rfl : k = 8 := by omega
      exact ⟨by rw [nm_miss a HN.out]; simp, HB.out⟩
theorem Known_calls (a : Nat) (h : a < 4294967296) (w : World) : Calls Try.prog 49 #[.int .u32 (a : Int)] w fun e w' => e = .returned (.bool (kn a)) ∧ Ext w w' := by
  have hne : (nm (a / 65536)).isEmpty = !kn a := nm_isEmpty _
  go_enter Try.func49, Try.ntmps49
  go_wp2_with (go_at_call 83; refine (name_calls a h _).mono ?_; rintro e w1 ⟨rfl, hb1⟩)
  go_ret
  exact ⟨by simp, by assumption⟩
def rcodes : List Nat := [32768, 0, 3, 5, 32704, 32752, 32764, 32767]
theorem rk_hit (i k : Nat) (h : i < 8) (e : rcodes.getD i 0 = k) : rk k = i := by
  rcases lt8 i h with rfl | rfl | rfl | rfl | rfl | rfl | rfl | rfl <;> simp [rcodes] at e <;> subst e <;> rfl
theorem rk_miss (k : Nat) (e : ∀ i, i < 8 → rcodes.getD i 0 ≠ k) : rk k = -1 := by
  have e0 := e 0 (by omega); have e1 := e 1 (by omega); have e2 := e 2 (by omega); have e3 := e 3 (by omega)
  have e4 := e 4 (by omega); have e5 := e 5 (by omega); have e6 := e 6 (by omega); have e7 := e 7 (by omega)
  simp [rcodes] at e0 e1 e2 e3 e4 e5 e6 e7
  unfold rk
  rw [if_neg (by omega), if_neg (by omega), if_neg (by omega), if_neg (by omega), if_neg (by omega), if_neg (by omega), if_neg (by omega), if_neg (by omega)]
theorem rank_calls (a : Nat) (h : a < 4294967296) (w : World) : Calls Try.prog 80 #[.int .u32 (a : Int)] w fun e w' => e = .returned (.int .i64 (rk (a / 65536))) ∧ Ext w w' := by
  have hdv : ((a : Int) / 65536 : Int) = ((a / 65536 : Nat) : Int) := by omega
  have HD := Lib.hid hdv
  clear hdv
  go_enter Try.func80, Try.ntmps80
  go_wp2
  go_loopw [4] (fun i wr => ∃ k : Nat, k ≤ 8 ∧ i = .int .i64 k ∧ Ext w wr ∧ (∀ j, j < 8 → wr.cell? ⟨w.heap.size, j, none⟩ = some (.int .u32 (rcodes.getD j 0 : Nat))) ∧ ∀ j, j < k → rcodes.getD j 0 ≠ a / 65536) (fun i _ => 8 - (intOf i).toNat)
  case atStart =>
    refine ⟨0, by omega, rfl, (Ext.refl _).alloc _, fun j hj => ?_, by omega⟩
    rcases lt8 j hj with rfl | rfl | rfl | rfl | rfl | rfl | rfl | rfl <;> simp [go_sem, rcodes]
  case round =>
    obtain ⟨k, hk, rfl, hb, hcl, hno⟩ := hrel
    have HB := Lib.hid hb
    have HN := Lib.hid hno
    have HC := Lib.hid hcl
    clear hb hno hcl
    by_cases hlt : k < 8
    · have hcell := HC.out k hlt
      generalize hc : rcodes.getD k 0 = c at hcell
      have HE := Lib.hid hc
      clear hc
      go_wp2_with (go_quiet (fail))
      · go_ret
        have hcc : ((a : Int) / 65536 == (c : Int)) = true := by assumption
        have e : rcodes.getD k 0 = a / 65536 := by rw [HE.out]; have := eq_of_beq hcc; omega
        exact ⟨by simp [rk_hit k _ hlt e], HB.out⟩
      · have hcc : ((a : Int) / 65536 == (c : Int)) = false := by assumption
        have e : rcodes.getD k 0 ≠ a / 65536 := by rw [HE.out]; have := ne_of_beq_false hcc; omega
        go_roundw
        case rel =>
          refine ⟨k + 1, by omega, by go_num, HB.out, HC.out, fun j hj => ?_⟩
          by_cases hjk : j < k
          · exact HN.out j hjk
          · obtain rfl : j = k := by omega
            exact e
        case measure => simp [intOf]; omega
    · go_wp2
      go_ret
      obtain rfl : k = 8 := by omega
      exact ⟨by rw [rk_miss _ HN.out]; simp, HB.out⟩
theorem refKnown_calls (a : Nat) (h : a < 4294967296) (w : World) : Calls Try.prog 45 #[.int .u32 (a : Int)] w fun e w' => e = .returned (.bool (kn a)) ∧ Ext w w' := by
  go_enter Try.func45, Try.ntmps45
  go_wp2_with (go_at_call 80; refine (rank_calls a h _).mono ?_; rintro e w1 ⟨rfl, hb1⟩)
  go_ret
  exact ⟨by simp [kn], by assumption⟩
end L20
end Go.Proofs.Ytkmhfjnjfghnjaa

