import Derived.Test.YtkmhfjnjfghnjaaMp26
import Derived.Test.YtkmhfjnjfghnjaaMp27
/- Layer 25: plain: what Guard writes down, by which architectures are asked for. -/
namespace Go.Proofs.Ytkmhfjnjfghnjaa
open Go.RowKit V
namespace L25G
open L25 (Sy)
open L08 (toks)
/-- is an architecture asked for in the chain? m: is it in the list? -/
def inCh (m : Nat → Bool) (a : Nat) : Bool := m a && ((a != 0 && a != 2) || ((m 0 && m 2) && a == 0))
def tokN (a : Nat) : Nat := toks.getD a 0
def chain (m : Nat → Bool) (k : Nat) : List Nat := ((List.range k).filter (inCh m)).map tokN
def lastA (m : Nat → Bool) : Nat → Int
  | 0 => -1
  | k + 1 => if (m k && ((k == 0 || k == 2) && !(m 0 && m 2))) = true then (k : Int) else lastA m k
theorem chain_succ (m : Nat → Bool) (k : Nat) : chain m (k + 1) = chain m k ++ if inCh m k = true then [tokN k] else [] := by
  unfold chain
  rw [List.range_succ, List.filter_append, List.map_append]
  congr 1
  cases h : inCh m k <;> simp [h]
theorem chain_len (m : Nat → Bool) (k : Nat) : (chain m k).length ≤ k := by
  unfold chain
  rw [List.length_map]
  exact Nat.le_trans (List.length_filter_le _ _) (by simp)
/-- the row ahead of the end -/
def head_ (ks : List Nat) : List Sy := ⟨32, 4, 0, 0⟩ :: ks.map fun t => ⟨21, t, 0, 0⟩
theorem head_app (ks : List Nat) (t : Nat) : head_ (ks ++ [t]) = head_ ks ++ [⟨21, t, 0, 0⟩] := by simp [head_]
theorem head_len (ks : List Nat) : (head_ ks).length = ks.length + 1 := by simp [head_]
end L25G
end Go.Proofs.Ytkmhfjnjfghnjaa

