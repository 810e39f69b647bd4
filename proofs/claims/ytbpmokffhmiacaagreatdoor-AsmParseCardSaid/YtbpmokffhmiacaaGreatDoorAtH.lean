/- Layer 7: what is written is read, the whole text (plain). -/
import Derived.Test.YtbpmokffhmiacaaGreatDoorAtG
namespace Go.Proofs.YtbpmokffhmiacaaGreatDoor
open Go.RowKit Go.Shelf Go.Sort V
namespace L07
/-- a byte that ends no line and no label -/
def midB (x : UInt8) : Prop := x ≠ 10 ∧ x ≠ 58
theorem dec_mid (n : Nat) : ∀ x ∈ dec n, midB x := fun x h => by
  have h1 := List.all_eq_true.1 (dec_val n).1 _ h
  exact ⟨fun e => by subst e; exact absurd h1 (by decide), fun e => by subst e; exact absurd h1 (by decide)⟩
theorem nm_mid : ∀ e ∈ tabI, ∀ x ∈ e.nm, x ≠ 10 ∧ x ≠ 58 := by decide +kernel
theorem line_mid (i : In) (p : Nat) (hp : plainI i = true) : ∀ x ∈ lineL i p, midB x := fun x hx => by
  have hk := plain_known hp
  rcases entry_of i.c with ⟨e, he, hec, hen, -⟩ | ⟨-, -, h3⟩
  rotate_left
  · rw [hk] at h3; cases h3
  unfold lineL at hx
  rw [hen] at hx
  rcases List.mem_append.1 hx with h | h
  · exact nm_mid e he x h
  rcases List.mem_append.1 h with h | h
  · unfold kpart at h
    split at h
    · rcases List.mem_cons.1 h with rfl | h
      · exact ⟨by decide, by decide⟩
      · exact dec_mid _ x h
    · cases h
  · unfold lparts at h
    obtain ⟨n, -, h⟩ := List.mem_flatMap.1 h
    rcases List.mem_cons.1 h with rfl | h
    · exact ⟨by decide, by decide⟩
    · rcases List.mem_cons.1 h with rfl | h
      · exact ⟨by decide, by decide⟩
      · exact dec_mid _ x h
/-- one instruction's lines, read -/
theorem go_piece {P : List In} (hP : ∀ i ∈ P, OkN i) (hc : canL P = true) {k : Nat} (hk : k < P.length) :
    goA (piecesL (pieceL P k)) (P.take k) = some (P.take (k + 1)) := by
  unfold canL at hc
  simp only [Bool.and_eq_true, decide_eq_true_eq, List.all_eq_true] at hc
  obtain ⟨h4, hp, ho⟩ := hc
  have hpl := hp P[k] (List.getElem_mem hk)
  have hok := ho k (List.mem_range.2 hk)
  unfold okAt at hok
  have hg : P[k]? = some P[k] := List.getElem?_eq_getElem hk
  rw [hg] at hok
  have hl : ∀ n ∈ leadsL P[k] k, n < 4096 := fun n hn => by
    have := of_decide_eq_true (List.all_eq_true.1 hok n hn)
    omega
  have hlen : (P.take k).length = k := by rw [List.length_take]; omega
  have hr : readA (lineL P[k] k) (P.take k).length = some P[k] := by rw [hlen]; exact read_line _ _ (hP _ (List.getElem_mem hk)) hpl hl
  have hm := line_mid P[k] k hpl
  have hs := step_read (P.take k) (lineL P[k] k) P[k] (fun x hx => (hm x hx).2) hr
  have hcut := pieces_cut (lineL P[k] k) [] (fun x hx => (hm x hx).1)
  have h1 : goA (piecesL (lineL P[k] k ++ [10])) (P.take k) = some (P.take (k + 1)) := by
    rw [hcut]
    show (stepA (P.take k) (lineL P[k] k ++ [10])).bind (goA []) = _
    rw [hs, List.take_succ_eq_append_getElem hk]
    rfl
  have hpc : pieceL P k = headL P k ++ (lineL P[k] k ++ [10]) := by unfold pieceL; rw [hg]
  rw [hpc]
  unfold headL
  split
  · have e : (76 :: (dec k ++ [58, 10])) ++ (lineL P[k] k ++ [10]) = ((76 :: dec k) ++ [58]) ++ 10 :: (lineL P[k] k ++ [10]) := by simp
    have hd : ∀ x ∈ (76 :: dec k) ++ [58], x ≠ 10 := fun x hx => by
      rcases List.mem_append.1 hx with h | h
      · rcases List.mem_cons.1 h with rfl | h
        · decide
        · exact (dec_mid k x h).1
      · rw [List.mem_singleton.1 h]; decide
    rw [e, pieces_cut _ _ hd]
    show (stepA (P.take k) ((76 :: dec k) ++ [58] ++ [10])).bind (goA (piecesL (lineL P[k] k ++ [10]))) = _
    rw [step_label]
    exact h1
  · exact h1
theorem text_ends (P : List In) : ∀ k, k ≤ P.length → textK P k = [] ∨ ∃ a, textK P k = a ++ [10]
  | 0, _ => .inl rfl
  | k + 1, hk => .inr (by
    have hg : P[k]? = some P[k] := List.getElem?_eq_getElem hk
    have hpc : pieceL P k = headL P k ++ (lineL P[k] k ++ [10]) := by unfold pieceL; rw [hg]
    exact ⟨textK P k ++ (headL P k ++ lineL P[k] k), by rw [textK_succ, hpc]; simp⟩)
theorem go_text {P : List In} (hP : ∀ i ∈ P, OkN i) (hc : canL P = true) : ∀ k, k ≤ P.length → goA (piecesL (textK P k)) [] = some (P.take k)
  | 0, _ => rfl
  | k + 1, hk => by
    have ih := go_text hP hc k (by omega)
    have hp := go_piece hP hc hk
    rw [textK_succ]
    rcases text_ends P k (by omega) with h | ⟨a, h⟩
    · rw [h] at ih ⊢
      rw [List.nil_append]
      have e : P.take k = [] := (Option.some.inj ih).symm
      rw [e] at hp
      exact hp
    · rw [h] at ih ⊢
      rw [pieces_app, goA_app, ih]
      exact hp
/-- what Parse tells of a text -/
def parseA (s : List UInt8) : Option (List In) := if 262144 < s.length then none else (goA (piecesL s) []).bind fun p => if canL p = true ∧ textL p = s then some p else none
theorem parse_sound {s : List UInt8} {p : List In} (h : parseA s = some p) : canL p = true ∧ textL p = s := by
  unfold parseA at h
  split at h
  · cases h
  · cases hg : goA (piecesL s) [] with
    | none => rw [hg] at h; cases h
    | some q =>
      rw [hg] at h
      replace h : (if canL q = true ∧ textL q = s then some q else none) = some p := h
      split at h
      · next hh => cases h; exact hh
      · cases h
/-- what is written is read -/
theorem parse_text {P : List In} (hP : ∀ i ∈ P, OkN i) (hc : canL P = true) (hl : (textL P).length ≤ 262144) : parseA (textL P) = some P := by
  unfold parseA
  rw [if_neg (by omega)]
  have h : goA (piecesL (textL P)) [] = some P := by
    have := go_text hP hc P.length (Nat.le_refl _)
    rw [List.take_length] at this
    exact this
  rw [h]
  show (if canL P = true ∧ textL P = textL P then some P else none) = some P
  rw [if_pos ⟨hc, rfl⟩]
end L07
end Go.Proofs.YtbpmokffhmiacaaGreatDoor
