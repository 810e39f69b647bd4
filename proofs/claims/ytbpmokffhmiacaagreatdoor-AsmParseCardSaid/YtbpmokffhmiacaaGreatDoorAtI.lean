/- Layer 7: a text's length (plain). -/
import Derived.Test.YtbpmokffhmiacaaGreatDoorAtH
namespace Go.Proofs.YtbpmokffhmiacaaGreatDoor
open Go.RowKit Go.Shelf Go.Sort V
namespace L07
theorem dec_le : ∀ (k n : Nat), n < 10 ^ (k + 1) → (dec n).length ≤ k + 1
  | k, n, h => by
    show (Lib.decDigits n).length ≤ k + 1
    induction k generalizing n with
    | zero => rw [Lib.decDigits, dif_pos (by omega)]; simp
    | succ k ih =>
      rw [Lib.decDigits]
      split
      · simp
      · have := ih (n / 10) (by rw [Nat.pow_succ] at h; omega)
        rw [List.length_append, List.length_singleton]; omega
theorem piece_len2 {P : List In} (hP : ∀ i ∈ P, OkN i) (hc : canL P = true) {k : Nat} (hk : k < P.length) : (pieceL P k).length ≤ 64 := by
  unfold canL at hc
  simp only [Bool.and_eq_true, decide_eq_true_eq, List.all_eq_true] at hc
  obtain ⟨h4, hp, ho⟩ := hc
  have hok := ho k (List.mem_range.2 hk)
  unfold okAt at hok
  have hg : P[k]? = some P[k] := List.getElem?_eq_getElem hk
  rw [hg] at hok
  have hl : ∀ n ∈ leadsL P[k] k, (dec n).length ≤ 4 := fun n hn => by
    have := of_decide_eq_true (List.all_eq_true.1 hok n hn)
    exact dec_le 3 n (by omega)
  have hN := hP _ (List.getElem_mem hk)
  have h1 := entry_nm_len P[k].c
  have h2 : (kpart P[k]).length ≤ 11 := by
    unfold kpart
    split
    · have := dec_le 9 P[k].k (by have := hN.k; omega)
      rw [List.length_cons]; omega
    · simp
  have h3 : ∀ l : List Nat, (∀ n ∈ l, (dec n).length ≤ 4) → (lparts l).length ≤ 6 * l.length := fun l => by
    induction l with
    | nil => intro _; exact Nat.zero_le _
    | cons x r ih =>
      intro h
      have a1 := h x (by simp)
      have a2 := ih (fun n hn => h n (by simp [hn]))
      unfold lparts at a2 ⊢
      rw [List.flatMap_cons, List.length_append, List.length_cons, lab, List.length_cons]
      rw [List.length_cons]; omega
  have h5 := h3 _ hl
  have h6 := leads_len P[k] k
  have h7 : (headL P k).length ≤ 7 := by
    have := dec_le 3 k (by omega)
    unfold headL
    split
    · rw [List.length_cons, List.length_append]; simp; omega
    · simp
  have hpc : pieceL P k = headL P k ++ (lineL P[k] k ++ [10]) := by unfold pieceL; rw [hg]
  rw [hpc]
  unfold lineL
  simp only [List.length_append, List.length_singleton]; omega
theorem text_len {P : List In} (hP : ∀ i ∈ P, OkN i) (hc : canL P = true) : ∀ k, k ≤ P.length → (textK P k).length ≤ 64 * k
  | 0, _ => Nat.le_refl _
  | k + 1, hk => by
    have h1 := text_len hP hc k (by omega)
    have h2 := piece_len2 hP hc (k := k) (by omega)
    rw [textK_succ, List.length_append]; omega
/-- a program that the writer takes is told again by its text -/
theorem parse_back {P : List In} (hP : ∀ i ∈ P, OkN i) (hc : canL P = true) : parseA (textL P) = some P := by
  refine parse_text hP hc ?_
  have h1 := text_len hP hc P.length (Nat.le_refl _)
  unfold canL at hc
  simp only [Bool.and_eq_true, decide_eq_true_eq] at hc
  have := hc.1
  show (textK P P.length).length ≤ 262144
  omega
end L07
end Go.Proofs.YtbpmokffhmiacaaGreatDoor
