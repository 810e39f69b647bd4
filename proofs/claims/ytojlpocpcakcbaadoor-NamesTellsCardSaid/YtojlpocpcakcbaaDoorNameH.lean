/- Layer 10: the walks of the reference's All and Flags. -/
import Derived.Test.YtojlpocpcakcbaaDoorNameD
import Derived.Test.YtojlpocpcakcbaaDoorNameB
namespace Go.Proofs.YtojlpocpcakcbaaDoor
open Go.RowKit V
attribute [local go_sem] Oper.semAt_some
namespace L10
theorem own_below {W : World} {base base' e n k : Nat} {u : Value} {zs : List Value} (h : W.ownsRow base e n u k zs) (hb : base' ≤ base) : W.ownsRow base' e n u k zs := by
  obtain ⟨h1, h2⟩ := h
  refine ⟨h1, ?_⟩
  rcases h2 with h2 | ⟨g, cap, cur, hv, hg, r⟩
  · exact .inl h2
  · exact .inr ⟨g, cap, cur, hv, by omega, r⟩
def sumL (l : List Nm) : Nat := l.foldl (fun n x => n + x.2) 0
theorem sum_or : sumL spT = orL spT := by decide
theorem sumL_lt (i : Nat) (h : i < 9) : sumL (spT.take i) < 18446744073709551616 := by
  have : ∀ j, j < 9 → sumL (spT.take j) < 18446744073709551616 := by decide
  exact this i h
set_option maxRecDepth 100000 in
set_option maxHeartbeats 1000000 in
theorem rAll_calls (w : World) : Calls Tryd.prog 23 #[] w fun e w' => e = .returned (.int .u64 (orL spT : Nat)) ∧ Ext w w' := by
  have hT := fun W => rSpaces_calls W
  rw [← sum_or]
  have HhT := Lib.hid hT
  clear hT
  go_enter Tryd.func23, Tryd.ntmps23
  go_wp2_with fail
  refine (HhT.out _).mono ?_
  rintro e w1 ⟨av, cv, rfl, hx1, hr⟩
  obtain ⟨a, c, e, hac, hc⟩ := rdQ_cell hr
  simp only [Value.slice.injEq] at e
  obtain ⟨rfl, -, rfl⟩ := e
  have HX1 := Lib.hid hx1
  have Hhc := Lib.hid hc
  clear hc
  clear hx1 hr
  rw [spT_len]
  go_wp2_with fail
  go_loopw [2, 3] (fun u ui wr => ∃ i : Nat, i ≤ 8 ∧ ui = .int .i64 (i : Int) ∧ u = .int .u64 (sumL (spT.take i) : Nat) ∧ w1 = wr) (fun _ ui _ => 8 - (intOf ui).toNat)
  case atStart => exact ⟨0, by omega, rfl, rfl, rfl⟩
  case round =>
    obtain ⟨i, hi, rfl, rfl, rfl⟩ := hrel
    by_cases hlt : i < 8
    · obtain ⟨b, o, rfl, d0, d1⟩ := Hhc.out i hlt
      have hz : (i : Int) < 8 := by omega
      have hwi : IntKind.i64.wrap ((i : Int) + 1) = (i : Int) + 1 := IntWalk.i64_in _ (by omega)
      have hnx : sumL (spT.take (i + 1)) = sumL (spT.take i) + (spT[i]'hlt).2 := by
        unfold sumL
        rw [List.take_succ_eq_append_getElem (show i < spT.length from hlt), List.foldl_append]; rfl
      have hs1 := sumL_lt (i + 1) (by omega)
      generalize (spT[i]'hlt).2 = m at *
      generalize str (spT[i]'hlt).1 = tx at *
      obtain ⟨q, hq⟩ : ∃ q, q = sumL (spT.take i) := ⟨_, rfl⟩
      rw [hnx, ← hq] at hs1
      rw [← hq] at hnx ⊢
      have hws : IntKind.u64.wrap ((q : Int) + (m : Int)) = (q : Int) + (m : Int) := by simp [IntKind.wrap, IntKind.signed, IntKind.bits]; omega
      have Hhnx := Lib.hid hnx
      clear hnx
      clear hq
      go_wp2_with fail
      go_roundw
      case rel => exact ⟨i + 1, by omega, by go_num, by rw [Hhnx.out]; rfl, trivial⟩
      case measure => simp [intOf]; omega
    · obtain rfl : i = 8 := by omega
      go_wp2_with fail
      go_ret
      exact ⟨rfl, HX1.out⟩
theorem and_pow2 (a k : Nat) : (a / 2 ^ k % 2 = 1) ↔ a &&& 2 ^ k ≠ 0 := by
  have ht := Nat.testBit_eq_decide_div_mod_eq (x := a) (i := k)
  by_cases hb : a / 2 ^ k % 2 = 1
  · rw [decide_eq_true hb] at ht
    refine ⟨fun _ h0 => ?_, fun _ => hb⟩
    have h := congrArg (fun n => Nat.testBit n k) h0
    simp [Nat.testBit_and, Nat.testBit_two_pow_self, ht] at h
  · rw [decide_eq_false hb] at ht
    have hz : a &&& 2 ^ k = 0 := Nat.eq_of_testBit_eq (fun j => by
      rw [Nat.testBit_and, Nat.testBit_two_pow, Nat.zero_testBit]
      by_cases h : k = j
      · subst h; rw [ht]; rfl
      · simp [h])
    exact ⟨fun h => absurd h hb, fun h => absurd hz h⟩
theorem sp_pow : ∀ x ∈ spT, ∃ k, x.2 = 2 ^ k := by
  intro x hx
  simp [spT] at hx
  rcases hx with rfl | rfl | rfl | rfl | rfl | rfl | rfl | rfl
  · exact ⟨7, rfl⟩
  · exact ⟨17, rfl⟩
  · exact ⟨25, rfl⟩
  · exact ⟨26, rfl⟩
  · exact ⟨27, rfl⟩
  · exact ⟨28, rfl⟩
  · exact ⟨29, rfl⟩
  · exact ⟨30, rfl⟩
set_option maxRecDepth 100000 in
set_option maxHeartbeats 1000000 in
theorem rFlags_calls (all : Nat) (ha : all < 18446744073709551616) (w : World) : Calls Tryd.prog 22 #[.int .u64 (all : Int)] w fun e w' => ∃ v, e = .returned v ∧ Ext w w' ∧ w'.ownsRow w.heap.size 26 1 v (flL all spT).length ((flL all spT).flatMap enc64) := by
  have hT := fun W => rSpaces_calls W
  have HhT := Lib.hid hT
  clear hT
  go_enter Tryd.func22, Tryd.ntmps22
  go_wp2_with fail
  refine (HhT.out _).mono ?_
  rintro e w1 ⟨av, cv, rfl, hx1, hr⟩
  obtain ⟨a0, c0, e, hac, hc⟩ := rdQ_cell hr
  simp only [Value.slice.injEq] at e
  obtain ⟨rfl, -, rfl⟩ := e
  have HX1 := Lib.hid hx1
  have Hhc := Lib.hid hc
  clear hc
  clear hx1 hr
  rw [spT_len]
  go_wp2_with fail
  go_loopw [4, 5] (fun u ui wr => ∃ (i : Nat) (L : List Nat) (a : Option Addr) (c : Nat), i ≤ 8 ∧ ui = .int .i64 (i : Int) ∧ u = .slice a L.length c ∧ L = flL all (spT.take i) ∧ L.length ≤ i ∧ wr.ownsRow w1.heap.size 26 1 (.slice a L.length c) L.length (L.flatMap enc64) ∧ Ext w1 wr) (fun _ ui _ => 8 - (intOf ui).toNat)
  case atStart => exact ⟨0, [], none, 0, by omega, rfl, rfl, rfl, Nat.zero_le _, World.ownsRow_nil _ _ _ _, Ext.refl _⟩
  case round =>
    obtain ⟨i, L, a, c, hi, rfl, rfl, hL, hLi, ho, hx⟩ := hrel
    have HX := Lib.hid hx
    have HO := Lib.hid ho
    by_cases hlt : i < 8
    · obtain ⟨b, o, rfl, d0, d1⟩ := Hhc.out i hlt
      replace d0 := hx.cell d0
      replace d1 := hx.cell d1
      have hz : (i : Int) < 8 := by omega
      have hwi : IntKind.i64.wrap ((i : Int) + 1) = (i : Int) + 1 := IntWalk.i64_in _ (by omega)
      have hnx : flL all (spT.take (i + 1)) = L ++ (if all &&& (spT[i]'hlt).2 ≠ 0 then [(spT[i]'hlt).2] else []) := by
        rw [List.take_succ_eq_append_getElem (show i < spT.length from hlt), flL_app, ← hL]
        show L ++ (_ ++ []) = _
        rw [List.append_nil]
        rfl
      have hmb := spT_lt i hlt
      obtain ⟨k, hk⟩ := sp_pow (spT[i]'hlt) (List.getElem_mem _)
      generalize (spT[i]'hlt).2 = m at *
      generalize str (spT[i]'hlt).1 = tx at *
      have hpw : (all / m % 2 = 1) ↔ all &&& m ≠ 0 := by rw [hk]; exact and_pow2 all k
      have hm0 : 0 < m := by rw [hk]; exact Nat.pow_pos (by omega)
      clear hx ho hk
      have HhL := Lib.hid hL
      clear hL
      have hmne : ((m : Int) == 0) = false := by simp; omega
      have hmne2 : (m : Int) ≠ 0 := by omega
      have hdv : (all : Int) / (m : Int) = ((all / m : Nat) : Int) := by simp
      have hdt : Int.tdiv (all : Int) (m : Int) = ((all / m : Nat) : Int) := by simp
      obtain ⟨q, hq⟩ : ∃ q, q = all / m := ⟨_, rfl⟩
      have hqb : q < 18446744073709551616 := by rw [hq]; exact Nat.lt_of_le_of_lt (Nat.div_le_self _ _) ha
      rw [← hq] at hdv hdt hpw
      have Hhq := Lib.hid hq
      clear hq
      by_cases hm : q % 2 = 1
      · rw [if_pos (hpw.1 hm)] at hnx
        have hq1 : ((q : Int) % 2 == 1) = true := by simp; omega
        have HOA := Lib.hid (World.ownsRow.alloc HO.out (.cells #[.int .u64 (m : Int)] 26))
        have HXA := Lib.hid (HX.out.alloc (.cells #[.int .u64 (m : Int)] 26))
        have Hhnx := Lib.hid hnx
        clear hnx
        clear hm hpw
        go_wp2_with (at_builtin
                     refine wpList_app_rd rfl (.tmp 22) (.tmp 28) _ rfl Tryd.underlying40 info64 rfl (by decide) enc64_len enc64_one w1 _ _ L [m] rfl rfl (by exact HOA.out) (rd_lit enc64_len wr [m] _ _ rfl) (by simp; omega) (by decide) (by exact HXA.out) ?_
                     intro au5 cu5 w5 ho5 hx5
                     have HO5 := Lib.hid ho5
                     have HX5 := Lib.hid hx5
                     clear ho5 hx5)
        go_roundw
        case rel => exact ⟨i + 1, L ++ [m], au5, cu5, by omega, by go_num, by simp, Hhnx.out.symm, by simp; omega, by simpa using HO5.out, HX5.out⟩
        case measure => simp [intOf]; omega
      · rw [if_neg (fun h => hm (hpw.2 h)), List.append_nil] at hnx
        have hq1 : ((q : Int) % 2 == 1) = false := by simp; omega
        have Hhnx := Lib.hid hnx
        clear hnx
        clear hm hpw
        go_wp2_with fail
        go_roundw
        case rel => exact ⟨i + 1, L, a, c, by omega, by go_num, rfl, Hhnx.out.symm, by omega, HO.out, HX.out⟩
        case measure => simp [intOf]; omega
    · obtain rfl : i = 8 := by omega
      clear hx ho
      go_wp2_with fail
      go_ret
      exact ⟨_, rfl, HX1.out.trans HX.out, by rw [show flL all spT = L from hL.symm]; exact own_below HO.out HX1.out.size⟩
end L10
end Go.Proofs.YtojlpocpcakcbaaDoor
