/- Layer 14: the reference's May; wrong; cmp.Compare at strings; the sort's function. -/
import Derived.Test.YtkmbahpjioopdaaDropB
namespace Go.Proofs.Ytkmbahpjioopdaa
open Go.RowKit V
attribute [local go_sem] Oper.semAt_some Option.isSome_some
namespace L12
theorem mayC_ref (c : UInt8) : mayC c = (!(decide ((c.toNat : Int) ≤ 32) || decide ((127 : Int) ≤ (c.toNat : Int)) || ((c.toNat : Int) == 47))) := by
  rw [mayC_int]
  have h1 : decide ((c.toNat : Int) < 33) = decide ((c.toNat : Int) ≤ 32) := by rw [decide_eq_decide]; omega
  have h2 : decide ((126 : Int) < (c.toNat : Int)) = decide ((127 : Int) ≤ (c.toNat : Int)) := by rw [decide_eq_decide]; omega
  rw [h1, h2]
theorem sfx_eq (s p : ByteArray) (h : p.size ≤ s.size) : Lib.hasSuffix (bytes s) (bytes p) = ((s.extract (s.size - p.size) s.size).toList == p.toList) := by
  rw [Bool.eq_iff_iff, beq_iff_eq]
  unfold Lib.hasSuffix
  rw [List.isSuffixOf_iff_suffix, Lib.toList_data, Lib.toList_data]
  have e : (s.extract (s.size - p.size) s.size).data.toList = (bytes s).drop (s.size - p.size) := by
    show bytes _ = _
    rw [bytes_ext, List.take_of_length_le (by rw [List.length_drop, bytes_len]; exact Nat.le_refl _)]
  rw [e]
  constructor
  · rintro ⟨t, ht⟩
    have hl := congrArg List.length ht
    rw [List.length_append, bytes_len, bytes_len] at hl
    rw [← ht, List.drop_left' (by omega)]
  · intro h
    exact ⟨(bytes s).take (s.size - p.size), by show _ ++ p.data.toList = _; rw [← h, List.take_append_drop]⟩
set_option maxRecDepth 100000 in
set_option maxHeartbeats 2000000 in
theorem refMay14_calls (s : ByteArray) (hs : s.size ≤ maxLen) (w : World) :
    Calls Try.prog 14 #[.string s] w fun e w' => e = .returned (.bool (mayN (bytes s))) ∧ Ext w w' := by
  unfold maxLen at hs
  obtain ⟨r, hr⟩ : ∃ r, r = mayN (bytes s) := ⟨_, rfl⟩
  rw [← hr]
  have hbl := bytes_len s
  have hsx := sfx_eq s ⟨#[46, 99, 111, 110, 102]⟩
  rw [show (⟨#[46, 99, 111, 110, 102]⟩ : ByteArray).size = 5 from rfl, show bytes (⟨#[46, 99, 111, 110, 102]⟩ : ByteArray) = [46, 99, 111, 110, 102] from rfl] at hsx
  have hr2 : r = (decide (6 ≤ s.size) && decide (s.size ≤ 60) && Lib.hasSuffix (bytes s) [46, 99, 111, 110, 102] && (bytes s).all mayC) := by rw [hr]; unfold mayN; rw [hbl]
  have hget : ∀ k (h : k < s.size) (h' : k < (bytes s).length), (bytes s)[k]'h' = s[k]'h := fun k h h' => rfl
  clear hr
  by_cases h6 : s.size < 6
  · have : r = false := by rw [hr2]; simp; omega
    subst this
    clear hr2
    have e1 : decide ((s.size : Int) < 6) = true := decide_eq_true (by omega)
    go_enter Try.func14, Try.ntmps14
    go_wp2_with fail
    go_ret
    exact ⟨rfl, Ext.refl _⟩
  have e1 : decide ((s.size : Int) < 6) = false := decide_eq_false (by omega)
  by_cases h60 : 60 < s.size
  · have : r = false := by rw [hr2]; simp; omega
    subst this
    clear hr2
    have e2 : decide ((60 : Int) < (s.size : Int)) = true := decide_eq_true (by omega)
    go_enter Try.func14, Try.ntmps14
    go_wp2_with fail
    go_ret
    exact ⟨rfl, Ext.refl _⟩
  have e2 : decide ((60 : Int) < (s.size : Int)) = false := decide_eq_false (by omega)
  have e6 : decide (6 ≤ s.size) = true := decide_eq_true (by omega)
  have e60 : decide (s.size ≤ 60) = true := decide_eq_true (by omega)
  rw [e6, e60, Bool.true_and, Bool.true_and, hsx (by omega)] at hr2
  clear e6 e60 hsx
  have hw1 : IntKind.i64.wrap ((s.size : Int) - 5) = ((s.size - 5 : Nat) : Int) := by
    rw [show ((s.size - 5 : Nat) : Int) = (s.size : Int) - 5 by omega]
    exact IntWalk.i64_in _ (by omega)
  rw [show (⟨#[46, 99, 111, 110, 102]⟩ : ByteArray).toList = [46, 99, 111, 110, 102] by rw [Lib.toList_data]] at hr2
  cases hsf : ((s.extract (s.size - 5) s.size).toList == [46, 99, 111, 110, 102])
  · rw [hsf] at hr2
    have : r = false := by rw [hr2]; rfl
    subst this
    clear hr2
    go_enter Try.func14, Try.ntmps14
    go_wp2_with fail
    go_ret
    exact ⟨rfl, Ext.refl _⟩
  rw [hsf, Bool.true_and] at hr2
  have HRA := Lib.hid hr2
  have HBL := Lib.hid hbl
  have HGET := Lib.hid hget
  clear hr2 hbl hget
  generalize bytes s = l at *
  go_enter Try.func14, Try.ntmps14
  go_wp2_with fail
  go_loopw [3] (fun i wr => ∃ k : Nat, k ≤ s.size ∧ i = .int .i64 k ∧ wr = w ∧ l.all mayC = (l.drop k).all mayC) (fun i _ => s.size - (intOf i).toNat)
  case atStart => exact ⟨0, by omega, rfl, rfl, rfl⟩
  case round =>
    obtain ⟨k, hk, rfl, rfl, heq⟩ := hrel
    have HE := Lib.hid heq
    clear heq
    by_cases hlt : k < s.size
    · have hlt' : k < l.length := by rw [HBL.out]; exact hlt
      have hst : l.drop k = l[k] :: l.drop (k + 1) := List.drop_eq_getElem_cons hlt'
      rw [HGET.out k hlt hlt'] at hst
      have HST := Lib.hid hst
      have hm := mayC_ref (s[k]'hlt)
      have hall : r = (mayC (s[k]'hlt) && (l.drop (k + 1)).all mayC) := by rw [HRA.out, HE.out, HST.out, List.all_cons]
      have HALL := Lib.hid hall
      have HM := Lib.hid hm
      clear hall hm hst
      by_cases hgood : mayC (s[k]'hlt) = true
      · have h3 := HM.out
        rw [hgood] at h3
        obtain ⟨q1, q2, q3⟩ := b3_true h3
        clear h3
        go_wp2_with fail
        go_roundw
        case rel => exact ⟨k + 1, by omega, by go_num, trivial, by rw [HE.out, HST.out, List.all_cons, hgood, Bool.true_and]⟩
        case measure => simp [intOf]; omega
      · have h3 := HM.out
        have hb : mayC (s[k]'hlt) = false := by cases h : mayC (s[k]'hlt) <;> simp_all
        rw [hb] at h3
        have hr0 : r = false := by rw [HALL.out, hb, Bool.false_and]
        subst hr0
        have h4 := b3_false h3
        clear h3 hb hgood
        rcases h4 with q1 | ⟨q1, q2 | ⟨q2, q3⟩⟩
        all_goals
          go_wp2_with fail
          go_ret
          exact ⟨rfl, Ext.refl _⟩
    · obtain rfl : k = s.size := by omega
      have hr1 : r = true := by rw [HRA.out, HE.out, List.drop_of_length_le (by rw [HBL.out]; exact Nat.le_refl _)]; rfl
      subst hr1
      go_wp2_with fail
      go_ret
      exact ⟨rfl, Ext.refl _⟩
end L12
end Go.Proofs.Ytkmbahpjioopdaa
