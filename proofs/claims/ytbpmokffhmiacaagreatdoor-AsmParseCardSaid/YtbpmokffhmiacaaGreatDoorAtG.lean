/- Layer 7: a text of the writer's, read line by line (plain). -/
import Derived.Test.YtbpmokffhmiacaaGreatDoorAtF
namespace Go.Proofs.YtbpmokffhmiacaaGreatDoor
open Go.RowKit Go.Shelf Go.Sort V
namespace L07
theorem suffix_one (a : List UInt8) (x y : UInt8) : Lib.hasSuffix (a ++ [x]) [y] = (x == y) := by
  rw [Bool.eq_iff_iff]
  unfold Lib.hasSuffix
  rw [List.isSuffixOf_iff_suffix, beq_iff_eq]
  constructor
  · rintro ⟨b, hb⟩
    exact ((List.append_inj' hb rfl).2 |> fun h => by cases h; rfl)
  · rintro rfl; exact ⟨a, rfl⟩
theorem trim_nl (a : List UInt8) : Lib.trimSuffix (a ++ [10]) [10] = a := by
  unfold Lib.trimSuffix
  rw [suffix_one, if_pos (by decide)]
  simp
/-- a line that names a place is passed over -/
theorem step_label (p : List In) (a : List UInt8) : stepA p (a ++ [58] ++ [10]) = some p := by
  unfold stepA
  rw [trim_nl, suffix_one, if_pos (by decide)]
/-- a line that ends in another byte than a colon is read -/
theorem step_read (p : List In) (a : List UInt8) (i : In) (h : ∀ x ∈ a, x ≠ 58) (hr : readA a p.length = some i) : stepA p (a ++ [10]) = some (p ++ [i]) := by
  unfold stepA
  have hs : Lib.hasSuffix a [58] = false := by
    rcases List.eq_nil_or_concat a with rfl | ⟨b, x, rfl⟩
    · rfl
    · rw [List.concat_eq_append, suffix_one]
      exact beq_eq_false_iff_ne.2 (h x (by simp))
  rw [trim_nl, hs, if_neg (by decide), hr]
  rfl
theorem goA_app : ∀ (xs ys : List (List UInt8)) (p : List In), goA (xs ++ ys) p = (goA xs p).bind (goA ys)
  | [], ys, p => rfl
  | x :: r, ys, p => by
    show (stepA p x).bind (goA (r ++ ys)) = ((stepA p x).bind (goA r)).bind (goA ys)
    cases stepA p x with
    | none => rfl
    | some q => exact goA_app r ys q
/-- a text that ends in a line end, and what stands behind it -/
theorem pieces_app : ∀ (a b : List UInt8), piecesL (a ++ [10] ++ b) = piecesL (a ++ [10]) ++ piecesL b
  | [], b => by rfl
  | c :: a, b => by
    have ih := pieces_app a b
    rw [List.cons_append, List.cons_append, pieces_out, pieces_out, ih]
    have hne : piecesL (a ++ [10]) ≠ [] := by
      cases a with
      | nil => decide
      | cons d q =>
        rw [List.cons_append, pieces_out]
        split
        · simp
        · split <;> simp
    split
    · rfl
    · cases h : piecesL (a ++ [10]) with
      | nil => exact absurd h hne
      | cons x r => rfl
end L07
end Go.Proofs.YtbpmokffhmiacaaGreatDoor
