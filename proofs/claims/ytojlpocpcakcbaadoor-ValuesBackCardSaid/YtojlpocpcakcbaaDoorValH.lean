/- Layer 15, plain: an entry is read from its text. -/
import Derived.Test.YtojlpocpcakcbaaDoorValC
namespace Go.Proofs.YtojlpocpcakcbaaDoor
open Go.RowKit V
namespace L10
theorem hd1_app {c : UInt8} : ∀ {a : List UInt8} (_ : a.contains c = false) (rest : List UInt8), hd1 c (a ++ c :: rest) = a ∧ tl1 c (a ++ c :: rest) = rest
  | [], _, rest => by
    unfold hd1 tl1
    rw [List.nil_append, List.takeWhile_cons_of_neg (p := (· != _)) (by simp), List.dropWhile_cons_of_neg (p := (· != _)) (by simp)]
    exact ⟨rfl, rfl⟩
  | x :: r, h, rest => by
    rw [List.contains_cons, Bool.or_eq_false_iff] at h
    have hx : (x != c) = true := by have := h.1; simp at this; simp; exact fun e => this e.symm
    obtain ⟨h1, h2⟩ := hd1_app (c := c) (a := r) h.2 rest
    unfold hd1 tl1 at *
    rw [List.cons_append, List.takeWhile_cons_of_pos (p := (· != _)) hx, List.dropWhile_cons_of_pos (p := (· != _)) hx, h1, h2]
    exact ⟨rfl, rfl⟩
theorem hd1_no (c : UInt8) : ∀ (l : List UInt8), (hd1 c l).contains c = false
  | [] => rfl
  | x :: r => by
    unfold hd1
    by_cases hx : x = c
    · rw [List.takeWhile_cons_of_neg (p := (· != _)) (by simp [hx])]; rfl
    · rw [List.takeWhile_cons_of_pos (p := (· != _)) (by simpa using hx), List.contains_cons, Bool.or_eq_false_iff]
      exact ⟨by rw [beq_eq_false_iff_ne]; exact fun e => hx e.symm, hd1_no c r⟩
/-- an entry that may be: its name isn't empty and has no colon; its action is none, kill, or an errno -/
def GoodE (x : En) : Prop := (x.1 ≠ [] ∧ x.1.contains 58 = false) ∧ ((x.2.2 = false ∧ x.2.1 = 0) ∨ (x.2.2 = true ∧ (x.2.1 = 2147483648 ∨ ∃ e, e ≤ 4095 ∧ x.2.1 = 327680 ||| e)))
theorem or_five (e : Nat) (h : e ≤ 4095) : 327680 ||| e = 327680 + e := (Nat.shiftLeft_add_eq_or_of_lt (show e < 2 ^ 16 by omega) 5).symm
theorem kill_no : errnoL [107, 105, 108, 108] = (0, 160) := by decide +kernel
theorem read_text (x : En) (h : GoodE x) : readL (textL x) = (x, 0) := by
  obtain ⟨nm, a, hb⟩ := x
  obtain ⟨⟨h1, h2⟩, h3⟩ := h
  dsimp only at h1 h2 h3
  rcases h3 with ⟨rfl, rfl⟩ | ⟨rfl, rfl | ⟨e, he, rfl⟩⟩
  · have ht : textL (nm, 0, false) = nm := rfl
    obtain ⟨e1, -⟩ := hd1_all h2
    rw [ht]
    unfold readL
    rw [e1, if_neg h1, h2, if_pos rfl]
  · have ht : textL (nm, 2147483648, true) = nm ++ 58 :: [107, 105, 108, 108] := rfl
    obtain ⟨e1, e2⟩ := hd1_app h2 [107, 105, 108, 108]
    have hc : (nm ++ 58 :: [107, 105, 108, 108]).contains 58 = true := by simp
    rw [ht]
    unfold readL
    rw [e1, e2, hc, if_neg h1, if_neg (by simp), if_pos rfl]
  · have hor := or_five e he
    have ht : textL (nm, 327680 ||| e, true) = nm ++ 58 :: enL e := by
      unfold textL
      dsimp only
      rw [hor, if_neg (by simp), if_neg (by omega), if_pos (by omega), show (327680 + e) % 65536 = e by omega]
      simp
    obtain ⟨e1, e2⟩ := hd1_app h2 (enL e)
    have hc : (nm ++ 58 :: enL e).contains 58 = true := by simp
    have hb := (enL_back e he).2
    have hk : enL e ≠ [107, 105, 108, 108] := fun hk => by
      rw [hk, kill_no] at hb
      have := congrArg Prod.snd hb
      simp at this
    rw [ht]
    unfold readL
    rw [e1, e2, hc, if_neg h1, if_neg (by simp), if_neg hk, hb, if_pos rfl]
theorem read_good (s : List UInt8) (h : (readL s).2 = 0) : GoodE (readL s).1 := by
  have hno := hd1_no 58 s
  unfold readL at h ⊢
  by_cases h0 : hd1 58 s = []
  · rw [if_pos h0] at h; cases h
  rw [if_neg h0] at h ⊢
  by_cases h1 : s.contains 58 = false
  · rw [if_pos h1] at h ⊢
    exact ⟨⟨h0, hno⟩, .inl ⟨rfl, rfl⟩⟩
  rw [if_neg h1] at h ⊢
  by_cases h2 : tl1 58 s = [107, 105, 108, 108]
  · rw [if_pos h2] at h ⊢
    exact ⟨⟨h0, hno⟩, .inr ⟨rfl, .inl rfl⟩⟩
  rw [if_neg h2] at h ⊢
  rcases errnoL_ok (tl1 58 s) with ⟨h3, h4⟩ | h3
  · rw [if_pos h3] at h ⊢
    exact ⟨⟨h0, hno⟩, .inr ⟨rfl, .inr ⟨_, h4, rfl⟩⟩⟩
  · rw [h3, if_neg (by simp)] at h
    cases h
theorem read_empty (a : Nat) (hb : Bool) : readL (textL ([], a, hb)) = (([], 0, false), 161) := by
  have key : ∀ t : List UInt8, hd1 58 t = [] → readL t = (([], 0, false), 161) := fun t h => by
    unfold readL
    rw [if_pos h]
  have hd : ∀ r : List UInt8, hd1 58 (58 :: r) = [] := fun r => (hd1_app (a := []) rfl r).1
  unfold textL
  dsimp only
  split
  · exact key _ rfl
  split
  · exact key _ (hd _)
  split
  · exact key _ (by simpa using hd _)
  · exact key _ (hd _)
end L10
end Go.Proofs.YtojlpocpcakcbaaDoor
