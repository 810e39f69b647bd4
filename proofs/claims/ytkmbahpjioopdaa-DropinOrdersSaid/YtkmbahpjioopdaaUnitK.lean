/- Layer 13, plain: what containsAny tells; a section's name by its bytes. -/
import Derived.Test.YtkmbahpjioopdaaUnitC
namespace Go.Proofs.Ytkmbahpjioopdaa
open Go.RowKit V
namespace L12
theorem containsAny_any (chars : List UInt8) : ∀ (q : List UInt8), Lib.containsAny q chars = q.any (fun c => chars.contains c)
  | [] => rfl
  | b :: l => by
    have ih := containsAny_any chars l
    have hge := Lib.indexAny_ge chars l
    unfold Lib.containsAny at ih ⊢
    rw [Lib.indexAny, List.any_cons]
    cases hb : chars.contains b
    · rw [if_neg (by simp), Bool.false_or, ← ih]
      by_cases he : Lib.indexAny l chars = -1
      · rw [he]; rfl
      · rw [if_neg (by simpa using he), Bool.eq_iff_iff, decide_eq_true_iff, decide_eq_true_iff]
        omega
    · rw [if_pos rfl]; rfl
/-- a section's name, by its bytes -/
def refSec (l : List UInt8) : List UInt8 × Bool :=
  match l with
  | [] => ([], false)
  | x :: r => if x = 91 ∧ 2 ≤ r.length ∧ r.getLast? = some 93 ∧ r.dropLast.any (fun c => c == 91 || c == 93) = false then (r.dropLast, true) else ([], false)
theorem hasSuffix_one (r : List UInt8) (c : UInt8) : Lib.hasSuffix r [c] = decide (r.getLast? = some c) := by
  unfold Lib.hasSuffix
  rw [Bool.eq_iff_iff, decide_eq_true_iff, List.isSuffixOf_iff_suffix]
  constructor
  · rintro ⟨t, rfl⟩
    simp
  · intro h
    obtain ⟨t, rfl⟩ := List.getLast?_eq_some_iff.1 h
    exact ⟨t, rfl⟩
theorem hasPrefix_one (x : UInt8) (r : List UInt8) (c : UInt8) : Lib.hasPrefix (x :: r) [c] = decide (x = c) := by
  unfold Lib.hasPrefix
  show (c == x && true) = _
  rw [Bool.and_true, Bool.eq_iff_iff, decide_eq_true_iff, beq_iff_eq]
  exact eq_comm
theorem sectionL_ref (l : List UInt8) : sectionL l = refSec l := by
  cases l with
  | nil => rfl
  | cons x r =>
    unfold sectionL refSec
    dsimp only
    rw [hasPrefix_one]
    by_cases hx : x = 91
    · subst hx
      have hp : Lib.trimPrefix (91 :: r) [91] = r := by unfold Lib.trimPrefix; rw [hasPrefix_one]; rfl
      rw [hp, if_neg (by simp), hasSuffix_one]
      by_cases hs : r.getLast? = some 93
      · have ht : Lib.trimSuffix r [93] = r.dropLast := by
          unfold Lib.trimSuffix
          rw [hasSuffix_one, hs, if_pos (by simp), List.dropLast_eq_take]
          rfl
        have hr : 1 ≤ r.length := by
          cases r with
          | nil => simp at hs
          | cons y t => simp
        rw [ht, if_neg (by simp [hs]), containsAny_any]
        have hany : r.dropLast.any (fun c => ([91, 93] : List UInt8).contains c) = r.dropLast.any (fun c => c == 91 || c == 93) := by
          congr 1
          funext c
          show (c == 91 || (c == 93 || false)) = _
          rw [Bool.or_false]
        rw [hany]
        by_cases h2 : 2 ≤ r.length
        · have hne : r.dropLast ≠ [] := fun e => by
            have := congrArg List.length e
            rw [List.length_dropLast, List.length_nil] at this
            omega
          rw [if_neg hne]
          cases ha : r.dropLast.any (fun c => c == 91 || c == 93)
          · rw [if_neg (by simp), if_pos ⟨rfl, h2, hs, rfl⟩]
          · rw [if_pos rfl, if_neg (fun h => by cases h.2.2.2)]
        · have hne : r.dropLast = [] := List.eq_nil_of_length_eq_zero (by rw [List.length_dropLast]; omega)
          rw [if_pos hne, if_neg (fun h => h2 h.2.1)]
      · rw [if_pos (by simp [hs]), if_neg (fun h => hs h.2.2.1)]
    · rw [if_pos (by simp [hx]), if_neg (fun h => hx h.1)]
end L12
end Go.Proofs.Ytkmbahpjioopdaa
