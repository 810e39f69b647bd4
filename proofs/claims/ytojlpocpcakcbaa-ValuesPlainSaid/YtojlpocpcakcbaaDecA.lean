/- Cut out of XUnitA, XUnitB by wip/tools/cutout.py: what decode_skip lean on. -/
import Derived.Laws.Runes
import Derived.Laws.RangeAny
import Derived.Deep.LoopGhost
import Derived.BigQuiet
import Derived.WalkMore
import Derived.Lib.OthersKept
import Derived.Lib.DecodeN
import Derived.Test.YtojlpocpcakcbaaBase
namespace Go.Proofs.Ytojlpocpcakcbaa
open Go.RowKit V
attribute [local go_sem] Oper.semAt_some
namespace L12
theorem get_pos (s : ByteArray) (j : Nat) (h : j < s.size) : s.get! j = s[j]'h := by
  have := get_at s j h
  simpa using this
theorem decode_skip (s : ByteArray) (pos : Nat) (h : pos < s.size) (ha : 128 ≤ (s[pos]'h).toNat) :
    pos + (Utf8.decode s pos).2 ≤ s.size ∧ ∀ (j : Nat) (hj : j < s.size), pos ≤ j → j < pos + (Utf8.decode s pos).2 → 128 ≤ (s[j]'hj).toNat := by
  rw [Lib.decode_at]
  have e0 := get_pos s pos h
  have g1 := fun hh : pos + 1 < s.size => get_pos s (pos + 1) hh
  have g2 := fun hh : pos + 2 < s.size => get_pos s (pos + 2) hh
  have g3 := fun hh : pos + 3 < s.size => get_pos s (pos + 3) hh
  rw [e0]
  have key : ∀ d : Nat, 1 ≤ d → (1 < d → pos + 1 < s.size ∧ 128 ≤ (s.get! (pos + 1)).toNat) → (2 < d → pos + 2 < s.size ∧ 128 ≤ (s.get! (pos + 2)).toNat) → (3 < d → pos + 3 < s.size ∧ 128 ≤ (s.get! (pos + 3)).toNat) → d ≤ 4 →
      pos + d ≤ s.size ∧ ∀ (j : Nat) (hj : j < s.size), pos ≤ j → j < pos + d → 128 ≤ (s[j]'hj).toNat := by
    intro d h0 h1 h2 h3 h4
    refine ⟨?_, ?_⟩
    · by_cases c3 : 3 < d
      · have := (h3 c3).1; omega
      · by_cases c2 : 2 < d
        · have := (h2 c2).1; omega
        · by_cases c1 : 1 < d
          · have := (h1 c1).1; omega
          · omega
    · intro j hj hp hd
      by_cases j0 : j = pos
      · subst j0; exact ha
      by_cases j1 : j = pos + 1
      · subst j1; rw [← g1 hj]; exact (h1 (by omega)).2
      by_cases j2 : j = pos + 2
      · subst j2; rw [← g2 hj]; exact (h2 (by omega)).2
      have j3 : j = pos + 3 := by omega
      subst j3; rw [← g3 hj]; exact (h3 (by omega)).2
  generalize (s.get! (pos + 1)).toNat = b1 at *
  generalize (s.get! (pos + 2)).toNat = b2 at *
  generalize (s.get! (pos + 3)).toNat = b3 at *
  generalize (s[pos]'h).toNat = b0 at *
  unfold Lib.decodeN
  rw [if_neg (by omega)]
  split
  · split
    · exact key 2 (by omega) (fun _ => by omega) (fun hh => by omega) (fun hh => by omega) (by omega)
    · exact key 1 (by omega) (fun hh => by omega) (fun hh => by omega) (fun hh => by omega) (by omega)
  split
  · split
    · exact key 3 (by omega) (fun _ => by omega) (fun hh => by omega) (fun hh => by omega) (by omega)
    · exact key 1 (by omega) (fun hh => by omega) (fun hh => by omega) (fun hh => by omega) (by omega)
  split
  · split
    · exact key 4 (by omega) (fun _ => by omega) (fun hh => by omega) (fun hh => by omega) (by omega)
    · exact key 1 (by omega) (fun hh => by omega) (fun hh => by omega) (fun hh => by omega) (by omega)
  exact key 1 (by omega) (fun hh => by omega) (fun hh => by omega) (fun hh => by omega) (by omega)
end L12
end Go.Proofs.Ytojlpocpcakcbaa
