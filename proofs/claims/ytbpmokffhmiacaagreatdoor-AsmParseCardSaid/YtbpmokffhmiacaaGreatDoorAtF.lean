/- Layer 7: what Parse does with a text's lines (plain). -/
import Derived.Test.YtbpmokffhmiacaaGreatDoorAtE
namespace Go.Proofs.YtbpmokffhmiacaaGreatDoor
open Go.RowKit Go.Shelf Go.Sort V
namespace L07
/-- a line of a text, read behind the instructions p -/
def stepA (p : List In) (x : List UInt8) : Option (List In) :=
  if Lib.hasSuffix (Lib.trimSuffix x [10]) [58] = true then some p else (readA (Lib.trimSuffix x [10]) p.length).map fun i => p ++ [i]
def goA : List (List UInt8) → List In → Option (List In)
  | [], p => some p
  | x :: r, p => (stepA p x).bind (goA r)
theorem goA_snoc : ∀ (xs : List (List UInt8)) (x : List UInt8) (p : List In), goA (xs ++ [x]) p = (goA xs p).bind fun q => stepA q x
  | [], x, p => by
    show (stepA p x).bind (goA []) = stepA p x
    cases stepA p x <;> rfl
  | y :: r, x, p => by
    show (stepA p y).bind (goA (r ++ [x])) = ((stepA p y).bind (goA r)).bind fun q => stepA q x
    cases stepA p y with
    | none => rfl
    | some q => exact goA_snoc r x q
theorem stepA_len {p q : List In} {x : List UInt8} (h : stepA p x = some q) : q.length ≤ p.length + 1 := by
  unfold stepA at h
  split at h
  · cases h; omega
  · cases hr : readA (Lib.trimSuffix x [10]) p.length with
    | none => rw [hr] at h; cases h
    | some i => rw [hr] at h; cases h; simp
theorem goA_len : ∀ (xs : List (List UInt8)) (p q : List In), goA xs p = some q → q.length ≤ p.length + xs.length
  | [], p, q, h => by cases h; exact Nat.le_refl _
  | x :: r, p, q, h => by
    replace h : (stepA p x).bind (goA r) = some q := h
    cases hs : stepA p x with
    | none => rw [hs] at h; cases h
    | some p2 =>
      rw [hs] at h
      have h1 := stepA_len hs
      have h2 := goA_len r p2 q h
      rw [List.length_cons]; omega
/-- once refused, refused -/
theorem goA_none {xs ys : List (List UInt8)} {p : List In} (h : goA xs p = none) : goA (xs ++ ys) p = none := by
  induction xs generalizing p with
  | nil => cases h
  | cons x r ih =>
    show (stepA p x).bind (goA (r ++ ys)) = none
    replace h : (stepA p x).bind (goA r) = none := h
    cases hs : stepA p x with
    | none => rfl
    | some q => rw [hs] at h; exact ih h
end L07
end Go.Proofs.YtbpmokffhmiacaaGreatDoor
