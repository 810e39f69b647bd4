/- Layer 13, plain: how long the logical lines' texts are; . -/
import Derived.Test.YtkmbahpjioopdaaLineI0
namespace Go.Proofs.Ytkmbahpjioopdaa
open Go.RowKit V
namespace L12
theorem linesL_each : ∀ (n : Nat) (l : List UInt8), l.length ≤ n → ∀ x ∈ linesL l, x.length ≤ n
  | 0, l, h, x, hx => by
    have : l = [] := List.eq_nil_of_length_eq_zero (by omega)
    rw [this, linesL_nil] at hx
    cases hx
  | n + 1, l, h, x, hx => by
    by_cases hl : l = []
    · rw [hl, linesL_nil] at hx; cases hx
    · rw [linesL_cons hl] at hx
      rcases List.mem_cons.1 hx with rfl | hx
      · exact Nat.le_trans (hd1_len _ _) h
      · have := linesL_each n (tl1 10 l) (by rw [tl1_len]; have : 0 < l.length := List.length_pos_iff.2 hl; omega) x hx
        omega
theorem numF_mem : ∀ (n : Nat) (l : List (List UInt8)), ∀ x ∈ numF n l, x.2 ∈ l
  | _, [], x, hx => by cases hx
  | n, y :: r, x, hx => by
    rcases List.mem_cons.1 hx with rfl | hx
    · exact List.mem_cons_self
    · exact List.mem_cons_of_mem _ (numF_mem (n + 1) r x hx)
theorem endL_all {n : Nat} {t : List UInt8} {xs : List LN} {B : Nat} (h : ∀ y ∈ xs, y.2.length ≤ B) (ht : t.length ≤ B) : ∀ y ∈ endL n t xs, y.2.length ≤ B := by
  intro y hy
  unfold endL at hy
  split at hy
  · exact h y hy
  · rcases List.mem_append.1 hy with hy | hy
    · exact h y hy
    · rw [List.mem_singleton] at hy
      subst hy
      exact Nat.le_trans (trimL_len t) ht
theorem stepS_all {st : St} {x : LN} {B : Nat} (h : ∀ y ∈ st.1, y.2.length ≤ B) (ht : st.2.2.length + x.2.length ≤ B) : ∀ y ∈ (stepS st x).1, y.2.length ≤ B := by
  unfold stepS
  split
  · exact h
  split
  · exact h
  · exact endL_all h (by rw [List.length_append]; exact ht)
theorem foldS_all (M B : Nat) : ∀ (l : List LN) (st : St) (k : Nat), Bd M st k → (∀ y ∈ l, y.2.length + 1 ≤ M) → (k + l.length) * M ≤ B → (∀ y ∈ st.1, y.2.length ≤ B) → (∀ y ∈ (l.foldl stepS st).1, y.2.length ≤ B) ∧ Bd M (l.foldl stepS st) (k + l.length)
  | [], st, k, hb, _, _, h => ⟨h, hb⟩
  | x :: r, st, k, hb, hx, hB, h => by
    rw [List.foldl_cons, List.length_cons]
    rw [List.length_cons] at hB
    have hx1 := hx x List.mem_cons_self
    have e : (k + 1) * M = k * M + M := Nat.succ_mul k M
    have hle : (k + 1) * M ≤ (k + (r.length + 1)) * M := Nat.mul_le_mul_right M (by omega)
    have h1 := foldS_all M B r (stepS st x) (k + 1) (stepS_bd hb x hx1) (fun y hy => hx y (List.mem_cons_of_mem _ hy)) (by rw [show k + 1 + r.length = k + (r.length + 1) by omega]; exact hB) (stepS_all h (by have := hb.2; omega))
    rw [show k + (r.length + 1) = k + 1 + r.length by omega]
    exact h1
theorem splitA_texts (bs : List UInt8) : ∀ x ∈ (splitA bs).1, x.2.length ≤ 2000000000 := by
  unfold splitA
  split
  · intro x hx; cases hx
  split
  · intro x hx; cases hx
  · rename_i h1 h2
    dsimp only
    unfold splitL stS
    have hm : ∀ y ∈ numF 1 (linesL bs), y.2.length + 1 ≤ 65537 := fun y hy => by
      have := linesL_each bs.length bs (Nat.le_refl _) y.2 (numF_mem _ _ y hy)
      omega
    have hf := foldS_all 65537 2000000000 (numF 1 (linesL bs)) ([], 0, []) 0 ⟨Nat.zero_le _, Nat.zero_le _⟩ hm (by
      rw [numF_len]
      have : (0 + (linesL bs).length) * 65537 ≤ 1000 * 65537 := Nat.mul_le_mul_right _ (by omega)
      omega) (fun y hy => by cases hy)
    refine endL_all hf.1 ?_
    have h3 := hf.2.2
    rw [numF_len] at h3
    have : (0 + (linesL bs).length) * 65537 ≤ 1000 * 65537 := Nat.mul_le_mul_right _ (by omega)
    omega
end L12
end Go.Proofs.Ytkmbahpjioopdaa
