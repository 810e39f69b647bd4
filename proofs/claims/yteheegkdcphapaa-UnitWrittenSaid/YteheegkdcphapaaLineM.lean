/- Layer 12: plain: what the logical lines are: their numbers rise, their texts are trimmed, have more than blanks, no byte 10. -/
import Derived.Test.YteheegkdcphapaaLineH
namespace Go.Proofs.Yteheegkdcphapaa
open Go.RowKit V
namespace L12
theorem trimL_mem {l : List UInt8} {x : UInt8} (h : x ∈ trimL l) : x ∈ l := by
  unfold trimL at h
  rw [List.mem_reverse] at h
  have h2 := (List.dropWhile_sublist isB).subset h
  rw [List.mem_reverse] at h2
  exact (List.dropWhile_sublist isB).subset h2
theorem dw_fix {p : UInt8 → Bool} {l : List UInt8} : ((l.dropWhile p).dropWhile p) = l.dropWhile p := by
  cases h : l.dropWhile p with
  | nil => rfl
  | cons x r => rw [List.dropWhile_cons_of_neg (by rw [dw_head h]; simp)]
theorem trimL_trimL (l : List UInt8) : trimL (trimL l) = trimL l := by
  rcases trimL_head l with ⟨h1, -⟩ | ⟨x, r, r', h1, h2⟩
  · rw [h1]; rfl
  · have hx : isB x = false := dw_head h2
    have e : (trimL l).dropWhile isB = trimL l := by rw [h1, List.dropWhile_cons_of_neg (by rw [hx]; simp)]
    have e2 : trimL (trimL l) = (((trimL l).dropWhile isB).reverse.dropWhile isB).reverse := rfl
    rw [e2, e]
    have e3 : (trimL l).reverse = (l.dropWhile isB).reverse.dropWhile isB := by unfold trimL; rw [List.reverse_reverse]
    rw [e3, dw_fix, ← e3, List.reverse_reverse]
theorem hd1_no (c : UInt8) : ∀ (l : List UInt8), c ∉ hd1 c l
  | [] => by simp [hd1]
  | x :: r => by
    unfold hd1
    by_cases h : x = c
    · have hx : ¬ (x != c) = true := by simp [h]
      rw [List.takeWhile_cons_of_neg (p := (· != _)) hx]; simp
    · have hx : (x != c) = true := by simp [h]
      rw [List.takeWhile_cons_of_pos (p := (· != _)) hx, List.mem_cons]
      have := hd1_no c r
      unfold hd1 at this
      rintro (e | e)
      · exact h e.symm
      · exact this e
theorem linesL_no : ∀ (n : Nat) (l : List UInt8), l.length ≤ n → ∀ x ∈ linesL l, (10 : UInt8) ∉ x
  | _, [], _, x, hx => by cases hx
  | n + 1, y :: r, h, x, hx => by
    rw [linesL_cons (by simp)] at hx
    rcases List.mem_cons.1 hx with rfl | hx
    · exact hd1_no _ _
    · have h1 := tl1_len 10 (y :: r)
      exact linesL_no n (tl1 10 (y :: r)) (by simp only [List.length_cons] at *; omega) x hx
theorem trimSuffix_mem {l p : List UInt8} {x : UInt8} (h : x ∈ Lib.trimSuffix l p) : x ∈ l := by
  unfold Lib.trimSuffix at h
  split at h
  · exact List.mem_of_mem_take h
  · exact h
/-- the numbers rise from one on, each at most k -/
def Rises (k : Nat) : Nat → List LN → Prop
  | _, [] => True
  | last, x :: r => last < x.1 ∧ x.1 ≤ k ∧ Rises k x.1 r
theorem Rises.mono {k k' : Nat} (hk : k ≤ k') : ∀ {xs : List LN} {last : Nat}, Rises k last xs → Rises k' last xs
  | [], _, _ => trivial
  | _ :: _, _, h => ⟨h.1, Nat.le_trans h.2.1 hk, Rises.mono hk h.2.2⟩
def lastN (last : Nat) : List LN → Nat
  | [] => last
  | x :: r => lastN x.1 r
theorem Rises.snoc {k : Nat} {x : LN} : ∀ {xs : List LN} {last : Nat}, Rises k last xs → lastN last xs < x.1 → x.1 ≤ k → Rises k last (xs ++ [x])
  | [], _, _, h2, h3 => ⟨h2, h3, trivial⟩
  | _ :: _, _, h, h2, h3 => ⟨h.1, h.2.1, Rises.snoc h.2.2 h2 h3⟩
theorem lastN_snoc (x : LN) : ∀ (xs : List LN) (last : Nat), lastN last (xs ++ [x]) = x.1
  | [], _ => rfl
  | y :: r, _ => lastN_snoc x r y.1
theorem lastN_le {k : Nat} : ∀ {xs : List LN} {last : Nat}, Rises k last xs → last ≤ k → lastN last xs ≤ k
  | [], _, _, h => h
  | x :: r, _, h, _ => (lastN_le (xs := r) (last := x.1) h.2.2 h.2.1 : lastN x.1 r ≤ k)
def GoodT (t : List UInt8) : Prop := t ≠ [] ∧ trimL t = t ∧ (10 : UInt8) ∉ t
structure Inv (k : Nat) (st : St) : Prop where
  r : Rises k 0 st.1
  g : ∀ x ∈ st.1, GoodT x.2
  n : st.2.1 = 0 ∧ st.2.2 = [] ∨ (lastN 0 st.1 < st.2.1 ∧ st.2.1 ≤ k)
  t : (10 : UInt8) ∉ st.2.2
theorem endL_inv {k n : Nat} {t : List UInt8} {xs : List LN} (hr : Rises k 0 xs) (hg : ∀ x ∈ xs, GoodT x.2) (hn : lastN 0 xs < n ∧ n ≤ k) (ht : (10 : UInt8) ∉ t) : Rises k 0 (endL n t xs) ∧ (∀ x ∈ endL n t xs, GoodT x.2) ∧ lastN 0 (endL n t xs) ≤ k := by
  unfold endL
  split
  · exact ⟨hr, hg, lastN_le hr (Nat.zero_le _)⟩
  · rename_i h0
    refine ⟨hr.snoc hn.1 hn.2, fun x hx => ?_, by rw [lastN_snoc]; exact hn.2⟩
    rcases List.mem_append.1 hx with hx | hx
    · exact hg x hx
    · rw [List.mem_singleton] at hx
      subst hx
      exact ⟨h0, trimL_trimL t, fun h => ht (trimL_mem h)⟩
theorem step_inv {k : Nat} {st : St} (h : Inv k st) (s : List UInt8) (hs : (10 : UInt8) ∉ s) : Inv (k + 1) (stepS st (k + 1, s)) := by
  obtain ⟨hr, hg, hn, ht⟩ := h
  obtain ⟨xs, num, txt⟩ := st
  dsimp only at hr hg hn ht
  have hl : lastN 0 xs ≤ k := lastN_le hr (Nat.zero_le _)
  have hnum : lastN 0 xs < (if num = 0 then k + 1 else num) ∧ (if num = 0 then k + 1 else num) ≤ k + 1 := by
    by_cases h0 : num = 0
    · rw [if_pos h0]; omega
    · rw [if_neg h0]
      rcases hn with ⟨h1, -⟩ | h1
      · exact absurd h1 h0
      · omega
  unfold stepS
  dsimp only
  split
  · exact ⟨hr.mono (by omega), hg, by rcases hn with h1 | h1; exact .inl h1; exact .inr ⟨h1.1, Nat.le_succ_of_le h1.2⟩, ht⟩
  split
  · refine ⟨hr.mono (by omega), hg, .inr hnum, fun h => ?_⟩
    rcases List.mem_append.1 h with h | h
    · exact ht h
    · rcases List.mem_append.1 h with h | h
      · exact hs (trimSuffix_mem h)
      · simp at h
  · obtain ⟨e1, e2, e3⟩ := endL_inv (hr.mono (by omega)) hg hnum (t := txt ++ s) (fun h => by rcases List.mem_append.1 h with h | h; exact ht h; exact hs h)
    exact ⟨e1, e2, .inl ⟨rfl, rfl⟩, by simp⟩
theorem fold_inv : ∀ (ls : List (List UInt8)) (k : Nat) (st : St), Inv k st → (∀ x ∈ ls, (10 : UInt8) ∉ x) → Inv (k + ls.length) ((numF (k + 1) ls).foldl stepS st)
  | [], k, st, h, _ => h
  | s :: r, k, st, h, hs => by
    have h2 := fold_inv r (k + 1) _ (step_inv h s (hs s List.mem_cons_self)) (fun x hx => hs x (List.mem_cons_of_mem _ hx))
    rw [List.length_cons, show k + (r.length + 1) = k + 1 + r.length by omega]
    exact h2
theorem splitL_good (bs : List UInt8) : Rises (linesL bs).length 0 (splitL bs) ∧ ∀ x ∈ splitL bs, GoodT x.2 := by
  have h := fold_inv (linesL bs) 0 ([], 0, []) ⟨trivial, (fun x hx => by cases hx), .inl ⟨rfl, rfl⟩, by simp⟩ (fun x hx => linesL_no bs.length bs (Nat.le_refl _) x hx)
  rw [Nat.zero_add] at h
  obtain ⟨hr, hg, hn, ht⟩ := h
  unfold splitL stS
  rcases hn with ⟨h1, h2⟩ | h1
  · rw [h2]
    exact ⟨by unfold endL; rw [if_pos (show trimL [] = [] from rfl)]; exact hr, by unfold endL; rw [if_pos (show trimL [] = [] from rfl)]; exact hg⟩
  · obtain ⟨e1, e2, -⟩ := endL_inv hr hg h1 ht
    exact ⟨e1, e2⟩
/-- texts are no longer than the lines behind them -/
def TB (M k : Nat) (st : St) : Prop := st.2.2.length ≤ k * M ∧ ∀ x ∈ st.1, x.2.length ≤ k * M
theorem endL_tb {B n : Nat} {t : List UInt8} {xs : List LN} (ht : t.length ≤ B) (hx : ∀ x ∈ xs, x.2.length ≤ B) : ∀ x ∈ endL n t xs, x.2.length ≤ B := by
  intro x h
  unfold endL at h
  split at h
  · exact hx x h
  · rcases List.mem_append.1 h with h | h
    · exact hx x h
    · rw [List.mem_singleton] at h
      subst h
      exact Nat.le_trans (trimL_len t) ht
theorem step_tb {M k : Nat} {st : St} (h : TB M k st) (x : LN) (hx : x.2.length + 1 ≤ M) : TB M (k + 1) (stepS st x) := by
  obtain ⟨h1, h2⟩ := h
  unfold TB
  rw [Nat.succ_mul]
  unfold stepS
  split
  · exact ⟨by omega, fun y hy => by have := h2 y hy; omega⟩
  split
  · have := trimSuffix_len x.2 [92]
    exact ⟨by simp only [List.length_append, List.length_cons, List.length_nil]; omega, fun y hy => by have := h2 y hy; omega⟩
  · exact ⟨by simp, endL_tb (by rw [List.length_append]; omega) (fun y hy => by have := h2 y hy; omega)⟩
theorem fold_tb {M : Nat} : ∀ (ls : List (List UInt8)) (k n : Nat) (st : St), TB M k st → (∀ x ∈ ls, x.length + 1 ≤ M) → TB M (k + ls.length) ((numF n ls).foldl stepS st)
  | [], k, _, st, h, _ => h
  | s :: r, k, n, st, h, hs => by
    have h2 := fold_tb r (k + 1) (n + 1) _ (step_tb h (n, s) (hs s List.mem_cons_self)) (fun x hx => hs x (List.mem_cons_of_mem _ hx))
    rw [List.length_cons, show k + (r.length + 1) = k + 1 + r.length by omega]
    exact h2
theorem splitL_tb (bs : List UInt8) : ∀ x ∈ splitL bs, x.2.length ≤ (linesL bs).length * (bs.length + 1) := by
  have h := fold_tb (M := bs.length + 1) (linesL bs) 0 1 ([], 0, []) ⟨by simp, fun x hx => by cases hx⟩ (fun x hx => by have := linesL_mem bs.length bs (Nat.le_refl _) x hx; omega)
  rw [Nat.zero_add] at h
  exact endL_tb h.1 h.2
end L12
end Go.Proofs.Yteheegkdcphapaa
