/- Layer 13, plain: what the reader's steps leave as it was. -/
import Derived.Test.YteheegkdcphapaaUnitO
namespace Go.Proofs.Yteheegkdcphapaa
open Go.RowKit Go.Shelf V
namespace L12
theorem stepU_pre (st : US) (x : LN) : ∃ t1 t2, (stepU st x).al = st.al ++ t1 ∧ (stepU st x).nl = st.nl ++ t2 := by
  unfold stepU
  split
  · exact ⟨[], [], by simp, by simp⟩
  split
  · exact ⟨[_], [], rfl, by simp⟩
  · exact ⟨[], [_], by simp, rfl⟩
theorem foldU_pre : ∀ (l : List LN) (st : US), ∃ t1 t2, (l.foldl stepU st).al = st.al ++ t1 ∧ (l.foldl stepU st).nl = st.nl ++ t2
  | [], st => ⟨[], [], by simp, by simp⟩
  | x :: r, st => by
    obtain ⟨a1, a2, h1, h2⟩ := stepU_pre st x
    obtain ⟨b1, b2, g1, g2⟩ := foldU_pre r (stepU st x)
    exact ⟨a1 ++ b1, a2 ++ b2, by rw [List.foldl_cons, g1, h1, List.append_assoc], by rw [List.foldl_cons, g2, h2, List.append_assoc]⟩
/-- what all steps come to, seen from a step -/
theorem foldU_at {zs : List LN} {i : Nat} (h : i < zs.length) {st fu : US} (hst : st = (zs.take i).foldl stepU ⟨[], false, [], []⟩) (hfu : fu = zs.foldl stepU ⟨[], false, [], []⟩) :
    ∃ t1 t2, fu.al = (stepU st zs[i]).al ++ t1 ∧ fu.nl = (stepU st zs[i]).nl ++ t2 := by
  have e : fu = (zs.drop (i + 1)).foldl stepU (stepU st zs[i]) := by
    conv at hfu => rhs; rw [← List.take_append_drop i zs, List.drop_eq_getElem_cons h]
    rw [hfu, List.foldl_append, ← hst, List.foldl_cons]
  rw [e]
  exact foldU_pre _ _
theorem snoc_at {α : Type} {l r t : List α} {x : α} (h : r = (l ++ [x]) ++ t) : ∃ hk : l.length < r.length, r[l.length]'hk = x := by
  subst h
  exact ⟨by simp, by simp⟩
end L12
end Go.Proofs.Yteheegkdcphapaa
