/- Layer 25 in plain Lean: how many steps a row takes; a row with one instruction put ahead of it. -/
import Derived.Test.YtkmhfjnjfghnjaaCodeK
namespace Go.Proofs.Ytkmhfjnjfghnjaa
open Go.RowKit V
namespace L25
theorem run1_steps {d : Dat} {l : List Sy} (h : mayA l = true) : ∀ (f : Nat) {i a st : Nat}, i < l.length → l.length - i ≤ f → st + 1 ≤ (run1 d l f i a st).2 ∧ (run1 d l f i a st).2 ≤ st + (l.length - i)
  | 0, i, a, st, hi, hf => by omega
  | f + 1, i, a, st, hi, hf => by
    unfold run1
    rw [List.getElem?_eq_getElem hi]
    dsimp only
    split
    · dsimp only; omega
    · rename_i h6
      obtain ⟨h1, h2⟩ := nx_in h hi h6 a
      obtain ⟨q1, q2⟩ := run1_steps (d := d) h f (i := nx l[i] i a) (a := na d l[i] a) (st := st + 1) h2 (by omega)
      generalize run1 d l f (nx l[i] i a) (na d l[i] a) (st + 1) = r at *
      omega
theorem runA_steps {d : Dat} {l : List Sy} (h : mayA l = true) : 1 ≤ (runA d l).2 ∧ (runA d l).2 ≤ l.length := by
  have hp := mayA_pos h
  obtain ⟨q1, q2⟩ := run1_steps (d := d) h l.length (i := 0) (a := 0) (st := 0) hp (by omega)
  unfold runA
  rw [if_pos h]
  omega
/-- a jump's places, one further -/
def sh (s : Sy) : Sy := ⟨s.c, s.k, if 0 < s.th then s.th + 1 else s.th, if 0 < s.el then s.el + 1 else s.el⟩
def more (l : List Sy) : List Sy := ⟨5, 0, 1, 0⟩ :: l.map sh
theorem more_len (l : List Sy) : (more l).length = l.length + 1 := by simp [more]
theorem may1_sh {len i : Nat} {s : Sy} (h : may1 len i s = true) : may1 (len + 1) (i + 1) (sh s) = true := by
  unfold may1 at h ⊢
  have e1 : (sh s).c = s.c := rfl
  have e2 : (sh s).k = s.k := rfl
  have ht : ∀ n : Int, there len i n = true → there (len + 1) (i + 1) (n + 1) = true := fun n h => by
    unfold there at h ⊢
    simp only [Bool.and_eq_true, decide_eq_true_eq] at h ⊢
    omega
  have hpos : ∀ n : Int, there len i n = true → 0 < n := fun n h => by
    unfold there at h
    simp only [Bool.and_eq_true, decide_eq_true_eq] at h
    omega
  have hnone : none_ s = true → none_ (sh s) = true := fun h => by
    unfold none_ at h ⊢
    simp only [Bool.and_eq_true, beq_iff_eq] at h ⊢
    unfold sh
    dsimp only
    rw [h.1, h.2]
    exact ⟨rfl, rfl⟩
  rw [e1, e2]
  split
  · rename_i c; rw [if_pos c] at h
    simp only [Bool.and_eq_true] at h ⊢
    exact ⟨hnone h.1, h.2⟩
  · rename_i c; rw [if_neg c] at h
    split
    · rename_i c2; rw [if_pos c2] at h
      exact hnone h
    · rename_i c2; rw [if_neg c2] at h
      split
      · rename_i c3; rw [if_pos c3] at h
        simp only [Bool.and_eq_true, beq_iff_eq] at h ⊢
        have et : (sh s).th = s.th + 1 := by unfold sh; dsimp only; rw [if_pos (hpos _ h.2.2)]
        have ee : (sh s).el = 0 := by unfold sh; dsimp only; rw [h.2.1]; rfl
        rw [et, ee]
        exact ⟨h.1, rfl, ht _ h.2.2⟩
      · rename_i c3; rw [if_neg c3] at h
        simp only [Bool.and_eq_true] at h ⊢
        have et : (sh s).th = s.th + 1 := by unfold sh; dsimp only; rw [if_pos (hpos _ h.2.1)]
        have ee : (sh s).el = s.el + 1 := by unfold sh; dsimp only; rw [if_pos (hpos _ h.2.2)]
        rw [et, ee]
        exact ⟨h.1, ht _ h.2.1, ht _ h.2.2⟩
theorem mayL_sh {len : Nat} : ∀ {l : List Sy} {i : Nat}, mayL len l i = true → mayL (len + 1) (l.map sh) (i + 1) = true
  | [], _, _ => rfl
  | s :: l, i, h => by
    simp only [mayL, Bool.and_eq_true] at h
    simp only [List.map_cons, mayL, Bool.and_eq_true]
    exact ⟨may1_sh h.1, mayL_sh h.2⟩
theorem mayA_more {l : List Sy} (h : mayA l = true) (hl : l.length ≤ 1000) : mayA (more l) = true := by
  have hp := mayA_pos h
  have hlast := mayA_last h
  unfold mayA at h ⊢
  simp only [Bool.and_eq_true, decide_eq_true_eq] at h ⊢
  rw [more_len]
  refine ⟨by omega, by omega, ?_, ?_⟩
  · rw [lastc_get (by rw [more_len]; omega)]
    have e : (more l)[(more l).length - 1]'(by rw [more_len]; omega) = sh (l[l.length - 1]'(by omega)) := by
      have : (more l)[(more l).length - 1]? = some (sh (l[l.length - 1]'(by omega))) := by
        rw [more_len]
        unfold more
        rw [show l.length + 1 - 1 = (l.length - 1) + 1 by omega, List.getElem?_cons_succ, List.getElem?_map, List.getElem?_eq_getElem (by omega)]
        rfl
      rw [List.getElem?_eq_getElem (by rw [more_len]; omega)] at this
      exact Option.some.inj this
    rw [e]
    show ((l[l.length - 1]'(by omega)).c == 6) = true
    rw [hlast]; rfl
  · show mayL (l.length + 1) (⟨5, 0, 1, 0⟩ :: l.map sh) 0 = true
    simp only [mayL, Bool.and_eq_true]
    refine ⟨?_, mayL_sh h.2.2.2⟩
    unfold may1
    rw [if_neg (by decide), if_neg (by decide), if_pos rfl]
    unfold there
    simp only [Bool.and_eq_true, decide_eq_true_eq, beq_iff_eq]
    refine ⟨trivial, trivial, by decide, by omega⟩
theorem nx_sh {len i : Nat} {s : Sy} (h : may1 len i s = true) (h6 : s.c ≠ 6) (a : Nat) : nx (sh s) (i + 1) a = nx s i a + 1 := by
  have e1 : (sh s).c = s.c := rfl
  have hh : hld (sh s) a = hld s a := rfl
  have hpos : ∀ n : Int, there len i n = true → 0 < n := fun n h => by
    unfold there at h
    simp only [Bool.and_eq_true, decide_eq_true_eq] at h
    omega
  unfold nx
  rw [e1, hh]
  by_cases c1 : s.c = 32 ∨ s.c = 84
  · rw [if_pos c1, if_pos c1]
  rw [if_neg c1, if_neg c1]
  unfold may1 at h
  rw [if_neg (by omega), if_neg (by omega)] at h
  by_cases c5 : s.c = 5
  · rw [if_pos c5] at h
    have hl : hld s a = true := by unfold hld; rw [if_neg (by omega), if_neg (by omega), if_neg (by omega), if_neg (by omega)]
    rw [if_pos hl, if_pos hl]
    simp only [Bool.and_eq_true] at h
    have hp := hpos _ h.2.2
    unfold sh; dsimp only
    rw [if_pos hp]; omega
  · rw [if_neg c5] at h
    simp only [Bool.and_eq_true] at h
    have hp1 := hpos _ h.2.1
    have hp2 := hpos _ h.2.2
    unfold sh; dsimp only
    rw [if_pos hp1, if_pos hp2]
    split <;> omega
theorem run1_more {d : Dat} {l : List Sy} (h : mayA l = true) : ∀ (f : Nat) {i a st : Nat}, i < l.length → l.length - i ≤ f → run1 d (more l) f (i + 1) a (st + 1) = ((run1 d l f i a st).1, (run1 d l f i a st).2 + 1)
  | 0, i, a, st, hi, hf => by omega
  | f + 1, i, a, st, hi, hf => by
    have hm := mayA_get h hi
    unfold run1
    have e : (more l)[i + 1]? = some (sh l[i]) := by
      unfold more
      rw [List.getElem?_cons_succ, List.getElem?_map, List.getElem?_eq_getElem hi]; rfl
    rw [e, List.getElem?_eq_getElem hi]
    dsimp only
    have ec : (sh l[i]).c = l[i].c := rfl
    rw [ec]
    split
    · rfl
    · rename_i h6
      obtain ⟨h1, h2⟩ := nx_in h hi h6 a
      rw [nx_sh hm h6]
      exact run1_more h f h2 (by omega)
theorem runA_more {d : Dat} {l : List Sy} (h : mayA l = true) (hl : l.length ≤ 1000) : runA d (more l) = ((runA d l).1, (runA d l).2 + 1) := by
  have hp := mayA_pos h
  unfold runA
  rw [if_pos h, if_pos (mayA_more h hl), more_len]
  have e : run1 d (more l) (l.length + 1) 0 0 0 = run1 d (more l) l.length 1 0 1 := rfl
  rw [e]
  exact run1_more h l.length (i := 0) (a := 0) (st := 0) hp (by omega)
theorem okSh {s : Sy} (h : OkY s) (h1 : s.th < 9223372036854775807) (h2 : s.el < 9223372036854775807) : OkY (sh s) := by
  refine ⟨h.c, h.k, ?_, ?_, ?_, ?_⟩ <;> (have := h.t1; have := h.t2; have := h.e1; have := h.e2; unfold sh; dsimp only; split <;> omega)
theorem may1_bd {len i : Nat} {s : Sy} (h : may1 len i s = true) (hl : len ≤ 1000) : 0 ≤ s.th ∧ s.th ≤ 1000 ∧ 0 ≤ s.el ∧ s.el ≤ 1000 := by
  have ht : ∀ n : Int, there len i n = true → 0 ≤ n ∧ n ≤ 1000 := fun n h => by
    unfold there at h
    simp only [Bool.and_eq_true, decide_eq_true_eq] at h
    omega
  unfold may1 at h
  split at h
  · simp only [none_, Bool.and_eq_true, beq_iff_eq] at h; omega
  split at h
  · simp only [none_, Bool.and_eq_true, beq_iff_eq] at h; omega
  split at h
  · simp only [Bool.and_eq_true, beq_iff_eq] at h
    have := ht _ h.2.2
    omega
  · simp only [Bool.and_eq_true] at h
    have q1 := ht _ h.2.1
    have q2 := ht _ h.2.2
    omega
end L25
end Go.Proofs.Ytkmhfjnjfghnjaa
