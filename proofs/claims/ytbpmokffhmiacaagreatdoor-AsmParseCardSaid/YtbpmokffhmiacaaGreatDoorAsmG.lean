/- Layer 7, plain: which places are led to, as targets reckons it. -/
import Derived.Test.YtbpmokffhmiacaaGreatDoorAsmB
namespace Go.Proofs.YtbpmokffhmiacaaGreatDoor
open Go.RowKit V
namespace L07
/-- the row behind some places, set -/
def setB (bs : List Bool) (l : List Nat) : List Bool := l.foldl (fun b n => b.set n true) bs
theorem setB_len (l : List Nat) : ∀ bs : List Bool, (setB bs l).length = bs.length := by
  induction l with
  | nil => exact fun _ => rfl
  | cons x r ih => intro bs; show (setB (bs.set x true) r).length = _; rw [ih]; simp
theorem setB_snoc (bs : List Bool) (l : List Nat) (n : Nat) : setB bs (l ++ [n]) = (setB bs l).set n true := by
  unfold setB; rw [List.foldl_append]; rfl
theorem setB_get (l : List Nat) : ∀ (bs : List Bool) (m : Nat), m < bs.length → (setB bs l)[m]? = some ((bs[m]?.getD false) || l.contains m) := by
  induction l with
  | nil => intro bs m h; simp [setB, List.getElem?_eq_getElem h]
  | cons x r ih =>
    intro bs m h
    show (setB (bs.set x true) r)[m]? = _
    rw [ih _ m (by simpa using h), List.contains_cons]
    by_cases e : m = x
    · subst e; simp [h]
    · have e2 : (m == x) = false := by simpa using e
      rw [List.getElem?_set_ne (fun h => e h.symm), e2, Bool.false_or]
def leadsP (p : List In) (j : Nat) : List Nat := match p[j]? with
  | some i => leadsL i j
  | none => []
def rowB (p : List In) : Nat → List Bool
  | 0 => List.replicate p.length false
  | k + 1 => setB (rowB p k) (leadsP p k)
theorem rowB_len (p : List In) : ∀ k, (rowB p k).length = p.length
  | 0 => by simp [rowB]
  | k + 1 => by rw [rowB, setB_len, rowB_len p k]
theorem ledAt_eq (p : List In) (n j : Nat) : ledAt p n j = (leadsP p j).contains n := by
  unfold ledAt leadsP
  cases p[j]? <;> rfl
theorem rowB_get (p : List In) (m : Nat) (h : m < p.length) : ∀ k, (rowB p k)[m]? = some ((List.range k).any (ledAt p m))
  | 0 => by simp [rowB, h]
  | k + 1 => by
    rw [rowB, setB_get _ _ m (by rw [rowB_len]; exact h), rowB_get p m h k, List.range_succ, List.any_append, Option.getD_some, ← ledAt_eq]
    simp
def okT (p : List In) : Bool := (List.range p.length).all (okAt p)
theorem rowB_all (p : List In) (m : Nat) (h : m < p.length) : (rowB p p.length)[m]? = some (ledB p m) := rowB_get p m h p.length
theorem okAt_eq (p : List In) (j : Nat) : okAt p j = (leadsP p j).all (fun n => decide (n < p.length)) := by
  unfold okAt leadsP
  cases p[j]? <;> rfl
theorem canL_eq (p : List In) : canL p = (decide (p.length ≤ 4096) && (p.all plainI && okT p)) := rfl
end L07
end Go.Proofs.YtbpmokffhmiacaaGreatDoor
