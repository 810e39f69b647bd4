/- Layer 12: plain: texts one a line, comments between. -/
import Derived.Test.YteheegkdcphapaaLineM
import Derived.Test.YteheegkdcphapaaLineI
namespace Go.Proofs.Yteheegkdcphapaa
open Go.RowKit V
namespace L12
theorem numF_app : ∀ (a b : List (List UInt8)) (n : Nat), numF n (a ++ b) = numF n a ++ numF (n + a.length) b
  | [], _, _ => rfl
  | x :: r, b, n => by
    simp only [List.cons_append, numF, List.length_cons]
    rw [numF_app r b (n + 1), show n + 1 + r.length = n + (r.length + 1) by omega]
theorem linesL_line {t rest : List UInt8} (h : (10 : UInt8) ∉ t) : linesL (t ++ 10 :: rest) = t :: linesL rest := by
  have hlt : t.length < (t ++ 10 :: rest).length := by simp
  have hg : (t ++ 10 :: rest)[t.length]'hlt = 10 := by simp
  have hn : ((t ++ 10 :: rest).take t.length).contains 10 = false := by
    rw [List.take_left, Bool.eq_false_iff]
    intro hc
    exact h (by simpa using hc)
  obtain ⟨e1, e2⟩ := hd1_at hlt hg hn
  rw [linesL_cons (by simp), e1, e2, List.take_left]
  congr 2
  rw [show t.length + 1 = t.length + 1 from rfl, List.drop_append]
  simp
/-- what has been written so far: its lines, and what they come to -/
def PL (S : List UInt8) (n : Nat) (ys : List LN) : Prop := ∃ ls : List (List UInt8), ls.length = n ∧ (∀ rest, linesL (S ++ rest) = ls ++ linesL rest) ∧ (numF 1 ls).foldl stepS ([], 0, []) = (ys, 0, [])
theorem PL.start : PL [] 0 [] := ⟨[], rfl, fun _ => rfl, rfl⟩
theorem PL.step {S t : List UInt8} {n : Nat} {ys ys' : List LN} (h : PL S n ys) (ht : (10 : UInt8) ∉ t) (hs : stepS (ys, 0, []) (n + 1, t) = (ys', 0, [])) : PL (S ++ (t ++ [10])) (n + 1) ys' := by
  obtain ⟨ls, h1, h2, h3⟩ := h
  refine ⟨ls ++ [t], by simp [h1], fun rest => ?_, ?_⟩
  · rw [List.append_assoc, h2, List.append_assoc, List.append_assoc]
    show ls ++ linesL (t ++ 10 :: rest) = _
    rw [linesL_line ht]; rfl
  · rw [numF_app, List.foldl_append, h3, h1]
    show stepS (ys, 0, []) (1 + n, t) = _
    rw [Nat.add_comm 1 n]; exact hs
theorem PL.comment {S t : List UInt8} {n : Nat} {ys : List LN} (h : PL S n ys) (ht : (10 : UInt8) ∉ t) (hc : commentL t = true) : PL (S ++ (t ++ [10])) (n + 1) ys :=
  h.step ht (by unfold stepS; rw [if_pos hc])
theorem PL.text {S t : List UInt8} {n : Nat} {ys : List LN} (h : PL S n ys) (ht : (10 : UInt8) ∉ t) (hc : commentL t = false) (hs : Lib.hasSuffix t [92] = false) : PL (S ++ (t ++ [10])) (n + 1) (endL (n + 1) t ys) :=
  h.step ht (by unfold stepS; rw [if_neg (by simp [hc]), if_neg (by simp [hs])]; simp)
theorem PL.lines {S : List UInt8} {n : Nat} {ys : List LN} (h : PL S n ys) : (linesL S).length = n := by
  obtain ⟨ls, h1, h2, -⟩ := h
  have := h2 []
  rw [List.append_nil, linesL_nil, List.append_nil] at this
  rw [this, h1]
theorem PL.is {S : List UInt8} {n : Nat} {ys : List LN} (h : PL S n ys) (hS : S.length ≤ 65536) (hn : n ≤ 1000) : isA S ys = true := by
  have hl := h.lines
  obtain ⟨ls, h1, h2, h3⟩ := h
  have := h2 []
  rw [List.append_nil, linesL_nil, List.append_nil] at this
  unfold isA
  rw [decide_eq_true_iff]
  unfold splitA
  rw [if_neg (by omega), if_neg (by omega)]
  refine ⟨rfl, ?_⟩
  show splitL S = ys
  unfold splitL stS
  rw [this, h3]
  rfl
def cmtL : List UInt8 := [32, 35, 32, 97, 32, 99, 111, 109, 109, 101, 110, 116, 92]
theorem cmtL_comment : commentL cmtL = true := by decide +kernel
theorem cmtL_no : (10 : UInt8) ∉ cmtL := by decide
end L12
end Go.Proofs.Yteheegkdcphapaa
