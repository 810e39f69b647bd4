/- Layer 7: a text's lines, each with its line end (plain). -/
import Derived.Test.YtbpmokffhmiacaaGreatDoorAtC
namespace Go.Proofs.YtbpmokffhmiacaaGreatDoor
open Go.RowKit Go.Shelf Go.Sort V
namespace L07
/-- a text cut behind each line end -/
def piecesL : List UInt8 → List (List UInt8)
  | [] => []
  | c :: r => if c = 10 then [c] :: piecesL r else match piecesL r with
    | [] => [[c]]
    | p :: q => (c :: p) :: q
theorem pieces_out (c : UInt8) (r : List UInt8) : piecesL (c :: r) = if c = 10 then [c] :: piecesL r else match piecesL r with
    | [] => [[c]]
    | p :: q => (c :: p) :: q := rfl
theorem pieces_none : ∀ (l : List UInt8), l ≠ [] → (∀ x ∈ l, x ≠ 10) → piecesL l = [l]
  | [], h, _ => absurd rfl h
  | [c], _, hn => by rw [pieces_out, if_neg (hn c (by simp))]; rfl
  | c :: d :: r, _, hn => by
    have := pieces_none (d :: r) (by simp) (fun x hx => hn x (by simp at hx ⊢; exact .inr hx))
    rw [pieces_out, if_neg (hn c (by simp)), this]
theorem pieces_cut : ∀ (a r : List UInt8), (∀ x ∈ a, x ≠ 10) → piecesL (a ++ 10 :: r) = (a ++ [10]) :: piecesL r
  | [], r, _ => by rw [List.nil_append, pieces_out, if_pos rfl]; rfl
  | c :: a, r, hn => by
    have := pieces_cut a r (fun x hx => hn x (by simp [hx]))
    rw [List.cons_append, pieces_out, if_neg (hn c (by simp)), this]
    rfl
theorem pieces_len : ∀ (l : List UInt8), (piecesL l).length ≤ l.length
  | [] => Nat.le_refl _
  | c :: r => by
    have := pieces_len r
    rw [pieces_out]
    split
    · simp only [List.length_cons]; omega
    · split
      · simp
      · next h => rw [h] at this; simp only [List.length_cons] at this ⊢; omega
theorem pieces_bd : ∀ (l : List UInt8), ∀ x ∈ piecesL l, x.length ≤ l.length
  | [], x, hx => by cases hx
  | c :: r, x, hx => by
    have ih := pieces_bd r
    rw [pieces_out] at hx
    split at hx
    · rcases List.mem_cons.1 hx with rfl | h
      · simp
      · have := ih x h; simp only [List.length_cons]; omega
    · split at hx
      · rw [List.mem_singleton.1 hx]; simp
      · next p q h =>
        rcases List.mem_cons.1 hx with rfl | hh
        · have := ih p (by rw [h]; simp); simp only [List.length_cons]; omega
        · have := ih x (by rw [h]; simp [hh]); simp only [List.length_cons]; omega
/-- the first piece and what stands behind it -/
def fstP (l : List UInt8) : List UInt8 := if Lib.indexByte l 10 ≥ 0 then l.take ((Lib.indexByte l 10).toNat + 1) else l
def sndP (l : List UInt8) : List UInt8 := if Lib.indexByte l 10 ≥ 0 then l.drop ((Lib.indexByte l 10).toNat + 1) else []
theorem pieces_step {l : List UInt8} (h : l ≠ []) : piecesL l = fstP l :: piecesL (sndP l) := by
  unfold fstP sndP
  split
  · next hi =>
    obtain ⟨o, ho⟩ : ∃ o : Nat, Lib.indexByte l 10 = (o : Int) := ⟨(Lib.indexByte l 10).toNat, by omega⟩
    obtain ⟨h1, h2⟩ := Lib.indexByte_some ho
    rw [ho]
    obtain ⟨hlt, h1⟩ := List.getElem?_eq_some_iff.1 h1
    have hsp : l = l.take o ++ 10 :: l.drop (o + 1) := by
      rw [← h1, ← List.drop_eq_getElem_cons hlt, List.take_append_drop]
    have ht : l.take (o + 1) = l.take o ++ [10] := by
      rw [List.take_succ_eq_append_getElem hlt, h1]
    show piecesL l = l.take (o + 1) :: piecesL (l.drop (o + 1))
    rw [ht, ← pieces_cut (l.take o) (l.drop (o + 1)) (fun x hx e => by
      obtain ⟨k, hk, e2⟩ := List.getElem_of_mem hx
      rw [List.length_take] at hk
      rw [List.getElem_take] at e2
      exact h2 k (by omega) (by rw [List.getElem?_eq_getElem (by omega), e2, e])), ← hsp]
  · next hi =>
    have h0 : Lib.indexByte l 10 = -1 := by have := Lib.indexByte_ge l 10; omega
    exact pieces_none l h (fun x hx e => by
      obtain ⟨k, hk, e2⟩ := List.getElem_of_mem hx
      exact Lib.indexByte_none h0 k (by rw [List.getElem?_eq_getElem hk, e2, e]))
theorem snd_lt {l : List UInt8} (h : l ≠ []) : (sndP l).length < l.length := by
  have hp : 0 < l.length := List.length_pos_iff.2 h
  unfold sndP
  split
  · rw [List.length_drop]; omega
  · exact hp
end L07
end Go.Proofs.YtbpmokffhmiacaaGreatDoor
