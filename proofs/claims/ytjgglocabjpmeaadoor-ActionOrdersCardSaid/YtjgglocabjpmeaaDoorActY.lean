/- Layer 20, plain: what answers come to. -/
import Derived.Test.YtjgglocabjpmeaaDoorActU
namespace Go.Proofs.YtjgglocabjpmeaaDoor
open Go.RowKit V
namespace L20
def top : Nat := 2147418112
theorem upto_map (xs : List Nat) : (upto xs.length xs.length).map (fun i => xs.getD i 0) = xs.reverse := by
  refine List.ext_getElem (by simp [upto]) fun i h1 h2 => ?_
  simp only [upto, List.map_map, List.getElem_map, List.getElem_range, Function.comp, List.getElem_reverse]
  have h3 : i < xs.length := by simpa using h2
  rw [List.getD_eq_getElem?_getD, List.getElem?_eq_getElem (by omega)]
  rfl
theorem comb_eq (xs : List Nat) : comb xs = xs.foldr (fun x r => pick r x) top := by
  unfold comb fold
  rw [← List.foldl_reverse, ← upto_map, List.foldl_map]
  rfl
theorem comb_cons (x : Nat) (xs : List Nat) : comb (x :: xs) = pick (comb xs) x := by rw [comb_eq, comb_eq]; rfl
theorem comb_nil : comb [] = top := rfl
theorem pick_of_lt {r x : Nat} (h : sg x < sg r) : pick r x = x := by unfold pick less; rw [if_pos (decide_eq_true h)]
theorem pick_of_ge {r x : Nat} (h : sg r ≤ sg x) : pick r x = r := by unfold pick less; rw [if_neg (by rw [decide_eq_true_eq]; omega)]
theorem pick_assoc (r c x : Nat) : pick (pick r c) x = pick r (pick c x) := by
  rcases Int.lt_or_le (sg c) (sg r) with h1 | h1
  · rw [pick_of_lt h1]
    rcases Int.lt_or_le (sg x) (sg c) with h2 | h2
    · rw [pick_of_lt h2, pick_of_lt (by omega)]
    · rw [pick_of_ge h2, pick_of_lt h1]
  · rw [pick_of_ge h1]
    rcases Int.lt_or_le (sg x) (sg c) with h2 | h2
    · rw [pick_of_lt h2]
    · rw [pick_of_ge h2, pick_of_ge h1, pick_of_ge (by omega)]
theorem pick_le (r x : Nat) : sg (pick r x) ≤ sg r ∧ sg (pick r x) ≤ sg x := by
  rcases Int.lt_or_le (sg x) (sg r) with h | h
  · rw [pick_of_lt h]; omega
  · rw [pick_of_ge h]; omega
theorem comb_min : ∀ xs : List Nat, sg (comb xs) ≤ sg top ∧ ∀ x ∈ xs, sg (comb xs) ≤ sg x
  | [] => ⟨Int.le_refl _, fun _ h => by cases h⟩
  | x :: r => by
    obtain ⟨h1, h2⟩ := comb_min r
    obtain ⟨h3, h4⟩ := pick_le (comb r) x
    rw [comb_cons]
    refine ⟨by omega, fun y hy => ?_⟩
    rcases List.mem_cons.1 hy with rfl | hy
    · exact h4
    · have := h2 y hy; omega
theorem comb_mem : ∀ xs : List Nat, comb xs = top ∨ comb xs ∈ xs
  | [] => .inl rfl
  | x :: r => by
    rw [comb_cons]
    rcases Int.lt_or_le (sg x) (sg (comb r)) with h | h
    · rw [pick_of_lt h]; exact .inr (List.mem_cons_self ..)
    · rw [pick_of_ge h]
      exact (comb_mem r).imp id fun h => List.mem_cons_of_mem _ h
/-- Allow, or less -/
def Good (r : Nat) : Prop := r = top ∨ sg r < sg top
theorem pick_good {r x : Nat} (h : Good r) : Good (pick r x) := by
  rcases Int.lt_or_le (sg x) (sg r) with h1 | h1
  · rw [pick_of_lt h1]
    rcases h with rfl | h
    · exact .inr h1
    · exact .inr (by omega)
  · rw [pick_of_ge h1]; exact h
theorem comb_good : ∀ xs : List Nat, Good (comb xs)
  | [] => .inl rfl
  | x :: r => by rw [comb_cons]; exact pick_good (comb_good r)
theorem top_pick {r : Nat} (h : Good r) : pick top r = r := by
  rcases h with rfl | h
  · exact pick_of_ge (Int.le_refl _)
  · exact pick_of_lt h
theorem pick_top {r : Nat} (h : Good r) : pick r top = r := by
  rcases h with rfl | h
  · exact pick_of_ge (Int.le_refl _)
  · exact pick_of_ge (by omega)
theorem comb_app : ∀ (xs ys : List Nat), comb (xs ++ ys) = pick (comb ys) (comb xs)
  | [], ys => (pick_top (comb_good ys)).symm
  | x :: r, ys => by rw [List.cons_append, comb_cons, comb_cons, comb_app r ys, pick_assoc]
theorem comb_pieces (xs ys : List Nat) : comb (xs ++ ys) = comb [comb xs, comb ys] := by
  rw [comb_app, comb_cons, comb_cons, comb_nil, top_pick (comb_good ys)]
theorem comb_stay {r : Nat} : ∀ {xs : List Nat}, (∀ x ∈ xs, sg r ≤ sg x) → xs.foldr (fun x r => pick r x) r = r
  | [], _ => rfl
  | x :: l, h => by
    rw [List.foldr_cons, comb_stay (fun y hy => h y (List.mem_cons_of_mem _ hy)), pick_of_ge (h x (List.mem_cons_self ..))]
theorem comb_between (a b : Nat) (l : List Nat) : comb (a :: l ++ [b]) = pick (l.foldr (fun x r => pick r x) (pick top b)) a := by
  rw [comb_eq, List.cons_append, List.foldr_cons, List.foldr_append]; rfl
/-- two answers, behind and ahead of such as are less than neither -/
theorem comb_turned (a b : Nat) (l : List Nat) (ha : ∀ x ∈ l, sg a ≤ sg x) (hb : ∀ x ∈ l, sg b ≤ sg x) :
    (sg a ≠ sg b → comb (a :: l ++ [b]) = comb (b :: l ++ [a])) ∧ (sg a = sg b → sg top ≤ sg a → comb (a :: l ++ [b]) = top ∧ comb (b :: l ++ [a]) = top) ∧
      (sg a = sg b → sg a < sg top → comb (a :: l ++ [b]) = b ∧ comb (b :: l ++ [a]) = a) := by
  have key : ∀ p q : Nat, (∀ x ∈ l, sg p ≤ sg x) → (∀ x ∈ l, sg q ≤ sg x) → comb (p :: l ++ [q]) = if sg q < sg top then (if sg p < sg q then p else q) else if sg p < sg top then p else top := by
    intro p q hp hq
    rw [comb_between]
    by_cases h1 : sg q < sg top
    · rw [pick_of_lt h1, comb_stay hq, if_pos h1]
      by_cases h2 : sg p < sg q
      · rw [pick_of_lt h2, if_pos h2]
      · rw [pick_of_ge (by omega), if_neg h2]
    · rw [pick_of_ge (r := top) (x := q) (by omega), comb_stay (fun x hx => Int.le_trans (show sg top ≤ sg q by omega) (hq x hx)), if_neg h1]
      by_cases h2 : sg p < sg top
      · rw [pick_of_lt h2, if_pos h2]
      · rw [pick_of_ge (r := top) (x := p) (by omega), if_neg h2]
  rw [key a b ha hb, key b a hb ha]
  refine ⟨fun h => ?_, fun h h2 => ?_, fun h h2 => ?_⟩
  · split <;> split <;> (repeat' split) <;> first | rfl | omega
  · rw [if_neg (by omega), if_neg (by omega), if_neg (by omega), if_neg (by omega)]; exact ⟨rfl, rfl⟩
  · rw [if_pos (by omega), if_neg (by omega), if_pos (by omega), if_neg (by omega)]; exact ⟨rfl, rfl⟩
theorem rdU_cell {w : World} {v : Value} {xs : List Nat} (h : Rd w 1 encU v xs) : ∃ a c, v = .slice a xs.length c ∧ xs.length ≤ c ∧ ∀ i, (hi : i < xs.length) → ∃ b o, a = some ⟨b, o, none⟩ ∧ w.cell? ⟨b, o + i, none⟩ = some (.int .u32 (xs[i] : Nat)) := by
  obtain ⟨a, c, h1, h2, h3, h4⟩ := h
  refine ⟨a, c, h1, h2, fun i hi => ?_⟩
  obtain ⟨b, o, e, k⟩ := h4 i hi
  have := k 0 (by simp [encU])
  exact ⟨b, o, e, by simpa [encU] using this⟩
theorem infoU : (Tryd.prog.info? 22).map (fun i => (i.zero, i.size, i.bytes)) = some (some (.int .u32 0), 1, 4) := by kernel_rfl
theorem comb_lt {xs : List Nat} (h : ∀ x ∈ xs, x < 4294967296) : comb xs < 4294967296 := by
  rcases comb_mem xs with e | e
  · rw [e]; decide
  · exact h _ e
theorem rd_of_own2 {α : Type} {w : World} {base e n : Nat} {enc : α → List Value} {v : Value} {xs ys : List α} (henc : ∀ x, (enc x).length = n)
    (h : w.ownsRow base e n v (xs.length + ys.length) ((xs ++ ys).flatMap enc)) : Rd w n enc v (xs ++ ys) := rd_of_own henc (by rw [List.length_append]; exact h)
theorem sg_only (a b : Nat) (ha : a < 4294967296) (hb : b < 4294967296) : sg a = sg b ↔ a / 65536 * 65536 = b / 65536 * 65536 := by
  unfold sg
  split <;> split <;> omega
theorem less_eq {a b : Nat} : less a b = decide (sg a < sg b) := rfl
end L20
end Go.Proofs.YtjgglocabjpmeaaDoor
