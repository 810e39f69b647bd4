/- Layer 12: plain: parts, each but the last one going on, are one logical line. -/
import Derived.Test.YteheegkdcphapaaLineO
namespace Go.Proofs.Yteheegkdcphapaa
open Go.RowKit V
namespace L12
theorem linesL_last {t : List UInt8} (h : (10 : UInt8) ∉ t) (h0 : t ≠ []) : linesL t = [t] := by
  obtain ⟨e1, e2⟩ := hd1_all (c := 10) (l := t) (by rw [Bool.eq_false_iff]; intro hc; exact h (by simpa using hc))
  rw [linesL_cons h0, e1, e2]; rfl
theorem comment_bs {t : List UInt8} (h : commentL t = false) : commentL (t ++ [92]) = false := by
  rw [commentL_eq] at h ⊢
  have e : (t ++ [92]).dropWhile isB = t.dropWhile isB ++ [92] := dw_snoc (by decide) t
  rw [e]
  cases hd : t.dropWhile isB with
  | nil => rfl
  | cons x r => rw [hd] at h; exact h
theorem suffix_bs (t : List UInt8) : Lib.hasSuffix (t ++ [92]) [92] = true := by
  unfold Lib.hasSuffix
  rw [List.isSuffixOf_iff_suffix]
  exact ⟨t, rfl⟩
theorem trim_bs (t : List UInt8) : Lib.trimSuffix (t ++ [92]) [92] = t := by
  unfold Lib.trimSuffix
  rw [if_pos (suffix_bs t)]
  simp
/-- what has been written so far: no logical line has ended -/
def PJ (S : List UInt8) (n m : Nat) (txt : List UInt8) : Prop := ∃ ls : List (List UInt8), ls.length = n ∧ (∀ rest, linesL (S ++ rest) = ls ++ linesL rest) ∧ (numF 1 ls).foldl stepS ([], 0, []) = ([], m, txt)
theorem PJ.start : PJ [] 0 0 [] := ⟨[], rfl, fun _ => rfl, rfl⟩
theorem PJ.step {S t : List UInt8} {n m m' : Nat} {txt txt' : List UInt8} (h : PJ S n m txt) (ht : (10 : UInt8) ∉ t) (hs : stepS ([], m, txt) (n + 1, t) = ([], m', txt')) : PJ (S ++ (t ++ [10])) (n + 1) m' txt' := by
  obtain ⟨ls, h1, h2, h3⟩ := h
  refine ⟨ls ++ [t], by simp [h1], fun rest => ?_, ?_⟩
  · rw [List.append_assoc, h2, List.append_assoc, List.append_assoc]
    show ls ++ linesL (t ++ 10 :: rest) = _
    rw [linesL_line ht]; rfl
  · rw [numF_app, List.foldl_append, h3, h1]
    show stepS ([], m, txt) (1 + n, t) = _
    rw [Nat.add_comm 1 n]; exact hs
theorem PJ.empty {S : List UInt8} {n : Nat} (h : PJ S n 0 []) : PJ (S ++ [10]) (n + 1) 0 [] := by
  have := h.step (t := []) (m' := 0) (txt' := []) (by simp) (by unfold stepS; rw [if_neg (show ¬ commentL [] = true by decide), if_neg (show ¬ Lib.hasSuffix [] [92] = true by decide)]; rfl)
  simpa using this
theorem PJ.part {S t : List UInt8} {n m : Nat} {txt : List UInt8} (h : PJ S n m txt) (ht : (10 : UInt8) ∉ t) (hc : commentL t = false) : PJ (S ++ (t ++ [92, 10])) (n + 1) (if m = 0 then n + 1 else m) (txt ++ (t ++ [32])) := by
  have := h.step (t := t ++ [92]) (m' := if m = 0 then n + 1 else m) (txt' := txt ++ (t ++ [32])) (by
    intro hh
    rcases List.mem_append.1 hh with hh | hh
    · exact ht hh
    · simp at hh) (by unfold stepS; rw [if_neg (by simp [comment_bs hc]), if_pos (suffix_bs t), trim_bs])
  rw [List.append_assoc] at this
  exact this
theorem PJ.comment {S : List UInt8} {n m : Nat} {txt : List UInt8} (h : PJ S n m txt) : PJ (S ++ [59, 10]) (n + 1) m txt :=
  h.step (t := [59]) (by decide) (by unfold stepS; rw [if_pos (show commentL [59] = true by decide +kernel)])
theorem endL_zero (m : Nat) : endL m [] [] = [] := rfl
theorem PJ.last {S t : List UInt8} {n m k : Nat} {txt : List UInt8} (h : PJ S n m txt) (ht : (10 : UInt8) ∉ t) (hc : commentL t = false) (hs : Lib.hasSuffix t [92] = false) (hm : m = 0 ∧ txt = [] ∧ n + 1 = k ∨ m = k ∧ 0 < k) (hl : (S ++ t).length ≤ 65536) (hn : n < 1000) :
    splitA (S ++ t) = (endL k (txt ++ t) [], 0) := by
  obtain ⟨ls, h1, h2, h3⟩ := h
  have hL := h2 t
  by_cases h0 : t = []
  · subst h0
    simp only [linesL_nil, List.append_nil] at hL hl ⊢
    unfold splitA
    rw [if_neg (by omega), if_neg (by rw [hL]; omega)]
    unfold splitL stS
    rw [hL, h3]
    dsimp only
    rcases hm with ⟨rfl, rfl, -⟩ | ⟨rfl, -⟩ <;> rfl
  · rw [linesL_last ht h0] at hL
    unfold splitA
    rw [if_neg (by omega), if_neg (by rw [hL, List.length_append, List.length_singleton]; omega)]
    unfold splitL stS
    rw [hL, numF_app, List.foldl_append, h3, h1]
    have e : stepS ([], m, txt) (1 + n, t) = (endL k (txt ++ t) [], 0, []) := by
      unfold stepS
      rw [if_neg (by simp [hc]), if_neg (by simp [hs])]
      dsimp only
      rcases hm with ⟨rfl, -, rfl⟩ | ⟨rfl, hk⟩
      · rw [if_pos rfl, Nat.add_comm 1 n]
      · rw [if_neg (by omega)]
    show ((endL (stepS ([], m, txt) (1 + n, t)).2.1 (stepS ([], m, txt) (1 + n, t)).2.2 (stepS ([], m, txt) (1 + n, t)).1, 0) : List LN × Int) = _
    rw [e]
    rfl
end L12
end Go.Proofs.Yteheegkdcphapaa
