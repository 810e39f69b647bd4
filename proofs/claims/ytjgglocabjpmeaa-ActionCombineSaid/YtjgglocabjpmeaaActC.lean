/- Layer 20, the reference: the walks of rank, Known, signed, Less: each call returns what the plain function says; no old memory turns. -/
import Derived.Test.YtjgglocabjpmeaaActB
namespace Go.Proofs.Ytjgglocabjpmeaa
open Go.RowKit V
namespace L20
def rcodes : List Nat := [32768, 0, 3, 5, 32704, 32752, 32764, 32767]
theorem rk_hit (i k : Nat) (h : i < 8) (e : rcodes.getD i 0 = k) : rk k = i := by
  rcases lt8 i h with rfl | rfl | rfl | rfl | rfl | rfl | rfl | rfl <;> simp [rcodes] at e <;> subst e <;> rfl
theorem rk_miss (k : Nat) (e : ∀ i, i < 8 → rcodes.getD i 0 ≠ k) : rk k = -1 := by
  have e0 := e 0 (by omega); have e1 := e 1 (by omega); have e2 := e 2 (by omega); have e3 := e 3 (by omega)
  have e4 := e 4 (by omega); have e5 := e 5 (by omega); have e6 := e 6 (by omega); have e7 := e 7 (by omega)
  simp [rcodes] at e0 e1 e2 e3 e4 e5 e6 e7
  unfold rk
  rw [if_neg (by omega), if_neg (by omega), if_neg (by omega), if_neg (by omega), if_neg (by omega), if_neg (by omega), if_neg (by omega), if_neg (by omega)]
theorem rank_calls (a : Nat) (h : a < 4294967296) (w : World) : Calls Try.prog 14 #[.int .u32 (a : Int)] w fun e w' => e = .returned (.int .i64 (rk (a / 65536))) ∧ Ext w w' := by
  have hdv : ((a : Int) / 65536 : Int) = ((a / 65536 : Nat) : Int) := by omega
  have HD := Lib.hid hdv
  clear hdv
  go_enter Try.func14, Try.ntmps14
  go_wp2
  go_loopw [4] (fun i wr => ∃ k : Nat, k ≤ 8 ∧ i = .int .i64 k ∧ Ext w wr ∧ (∀ j, j < 8 → wr.cell? ⟨w.heap.size, j, none⟩ = some (.int .u32 (rcodes.getD j 0 : Nat))) ∧ ∀ j, j < k → rcodes.getD j 0 ≠ a / 65536) (fun i _ => 8 - (intOf i).toNat)
  case atStart =>
    refine ⟨0, by omega, rfl, (Ext.refl _).alloc _, fun j hj => ?_, by omega⟩
    rcases lt8 j hj with rfl | rfl | rfl | rfl | rfl | rfl | rfl | rfl <;> simp [go_sem, rcodes]
  case round =>
    obtain ⟨k, hk, rfl, hb, hcl, hno⟩ := hrel
    have HB := Lib.hid hb
    have HN := Lib.hid hno
    have HC := Lib.hid hcl
    clear hb hno hcl
    by_cases hlt : k < 8
    · have hcell := HC.out k hlt
      generalize hc : rcodes.getD k 0 = c at hcell
      have HE := Lib.hid hc
      clear hc
      go_wp2_with (go_quiet (fail))
      · go_ret
        have hcc : ((a : Int) / 65536 == (c : Int)) = true := by assumption
        have e : rcodes.getD k 0 = a / 65536 := by rw [HE.out]; have := eq_of_beq hcc; omega
        exact ⟨by simp [rk_hit k _ hlt e], HB.out⟩
      · have hcc : ((a : Int) / 65536 == (c : Int)) = false := by assumption
        have e : rcodes.getD k 0 ≠ a / 65536 := by rw [HE.out]; have := ne_of_beq_false hcc; omega
        go_roundw
        case rel =>
          refine ⟨k + 1, by omega, by go_num, HB.out, HC.out, fun j hj => ?_⟩
          by_cases hjk : j < k
          · exact HN.out j hjk
          · obtain rfl : j = k := by omega
            exact e
        case measure => simp [intOf]; omega
    · go_wp2
      go_ret
      obtain rfl : k = 8 := by omega
      exact ⟨by rw [rk_miss _ HN.out]; simp, HB.out⟩
theorem refKnown_calls (a : Nat) (h : a < 4294967296) (w : World) : Calls Try.prog 8 #[.int .u32 (a : Int)] w fun e w' => e = .returned (.bool (kn a)) ∧ Ext w w' := by
  go_enter Try.func8, Try.ntmps8
  go_wp2_with (go_at_call 14; refine (rank_calls a h _).mono ?_; rintro e w1 ⟨rfl, hb1⟩)
  go_ret
  exact ⟨by simp [kn], by assumption⟩
theorem signed_calls (a : Nat) (h : a < 4294967296) (w : World) : Calls Try.prog 15 #[.int .u32 (a : Int)] w fun e w' => e = .returned (.int .i64 (sg a)) ∧ w = w' := by
  have hr : (0 : Int) ≤ (a : Int) / 65536 ∧ (a : Int) / 65536 < 65536 := by omega
  obtain ⟨hr1, hr2⟩ := hr
  set_option maxRecDepth 10000 in
  by_cases hlt : 32768 ≤ (a : Int) / 65536
  · have hs : sg a = (a : Int) / 65536 - 65536 := by unfold sg; rw [if_pos (by omega)]; omega
    have HS := Lib.hid hs
    clear hs
    go_enter Try.func15, Try.ntmps15
    go_wp2_with fail
    go_ret
    exact ⟨by simp [HS.out], rfl⟩
  · have hs : sg a = (a : Int) / 65536 := by unfold sg; rw [if_neg (by omega)]; omega
    have HS := Lib.hid hs
    clear hs
    go_enter Try.func15, Try.ntmps15
    go_wp2_with fail
    go_ret
    exact ⟨by simp [HS.out], rfl⟩
theorem refLess_calls (a b : Nat) (h : a < 4294967296) (h' : b < 4294967296) (w : World) : Calls Try.prog 10 #[.int .u32 (a : Int), .int .u32 (b : Int)] w fun e w' => e = .returned (.bool (less a b)) ∧ w = w' := by
  go_enter Try.func10, Try.ntmps10
  go_wp2_with (go_at_call 15; refine (signed_calls _ (by assumption) _).mono ?_; rintro e w' ⟨rfl, rfl⟩)
  go_ret
  exact ⟨by simp [less], rfl⟩
end L20
end Go.Proofs.Ytjgglocabjpmeaa
