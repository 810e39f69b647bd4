/- Layer 13, plain: an assignment by its bytes' places. -/
import Derived.Test.YtkmbahpjioopdaaUnitK
namespace Go.Proofs.Ytkmbahpjioopdaa
open Go.RowKit V
namespace L12
theorem containsAny_blank (k : List UInt8) : Lib.containsAny k [32, 9, 13] = k.any isB := by
  rw [containsAny_any]
  congr 1
  funext c
  unfold isB blankB
  rw [Bool.eq_iff_iff]
  simp [← UInt8.toNat_inj, or_assoc]
theorem hasPrefix_head (l : List UInt8) (c : UInt8) : Lib.hasPrefix l [c] = decide (l.head? = some c) := by
  cases l with
  | nil => rfl
  | cons x r => rw [hasPrefix_one]; simp
end L12
end Go.Proofs.Ytkmbahpjioopdaa
