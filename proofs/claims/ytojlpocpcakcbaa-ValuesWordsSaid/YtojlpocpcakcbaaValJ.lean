/- Layer 15, plain: the words of any text. -/
import Derived.Test.YtojlpocpcakcbaaDecA
import Derived.Test.YtojlpocpcakcbaaValPA
namespace Go.Proofs.Ytojlpocpcakcbaa
open Go.RowKit V
namespace L10
def blk (c : UInt8) : Bool := c == 32 || c == 9 || c == 13
/-- the words of a text, behind the start of one -/
def wdsL : List UInt8 → List UInt8 → List (List UInt8)
  | [], w => if w = [] then [] else [w]
  | c :: r, w => if blk c = true then (if w = [] then wdsL r [] else w :: wdsL r []) else wdsL r (w ++ [c])
theorem wds_skip : ∀ (n : Nat) (l w : List UInt8), n ≤ l.length → (∀ c ∈ l.take n, blk c = false) → wdsL l w = wdsL (l.drop n) (w ++ l.take n)
  | 0, l, w, _, _ => by simp
  | n + 1, [], w, h, _ => by simp at h
  | n + 1, c :: l, w, h, hb => by
    have hc : blk c = false := hb c (by simp)
    rw [wdsL, if_neg (by rw [hc]; decide), wds_skip n l (w ++ [c]) (by simpa using h) (fun x hx => hb x (by rw [List.take_succ_cons]; exact List.mem_cons_of_mem _ hx))]
    simp
theorem blank_blk (c : UInt8) : blankN c.toNat = blk c := by
  unfold blankN blk
  have h : ∀ k : UInt8, (c.toNat == k.toNat) = (c == k) := fun k => by
    rw [Bool.eq_iff_iff, beq_iff_eq, beq_iff_eq, UInt8.toNat_inj]
  rw [← h 32, ← h 9, ← h 13]; rfl
theorem blank_high (r : Nat) (h : 128 ≤ r) : blankN r = false := by
  unfold blankN
  rw [Bool.or_eq_false_iff, Bool.or_eq_false_iff]
  refine ⟨⟨?_, ?_⟩, ?_⟩ <;> (rw [beq_eq_false_iff_ne]; omega)
theorem blk_high (c : UInt8) (h : 128 ≤ c.toNat) : blk c = false := by rw [← blank_blk]; exact blank_high _ h
def curW (s : ByteArray) (pos : Nat) : Option Nat → List UInt8
  | none => []
  | some a => ((bytes s).drop a).take (pos - a)
theorem cur_more (s : ByteArray) (pos d : Nat) (st : Option Nat) (hst : ∀ a, st = some a → a < pos) : curW s (pos + d) (some (st.getD pos)) = curW s pos st ++ ((bytes s).drop pos).take d := by
  cases st with
  | none =>
    show ((bytes s).drop pos).take (pos + d - pos) = _
    rw [show pos + d - pos = d by omega]; rfl
  | some a =>
    have h := hst a rfl
    show ((bytes s).drop a).take (pos + d - a) = ((bytes s).drop a).take (pos - a) ++ _
    rw [show pos + d - a = (pos - a) + d by omega, List.take_add, List.drop_drop, show a + (pos - a) = pos by omega]
theorem spans_end (s : ByteArray) (pos : Nat) (st : Option Nat) (acc : List (Nat × Nat)) (hp : pos = s.size) (hst : ∀ a, st = some a → a < pos) :
    (Lib.closeSpans s (acc, st)).map (fun x => s.extract x.1 x.2) = acc.map (fun x => s.extract x.1 x.2) ++ (wdsL ((bytes s).drop pos) (curW s pos st)).map str := by
  subst hp
  rw [List.drop_of_length_le (by rw [bytes_len]; exact Nat.le_refl _)]
  cases st with
  | none => simp [Lib.closeSpans, wdsL, curW]
  | some a =>
    have h := hst a rfl
    have hne : curW s s.size (some a) ≠ [] := fun e => by
      have := congrArg List.length e
      simp [curW, bytes_len] at this
      omega
    simp only [Lib.closeSpans, wdsL, if_neg hne, List.map_append, List.map_cons, List.map_nil]
    congr 2
    refine bytes_inj ?_
    rw [bytes_str, bytes_ext]; rfl
theorem spans_words (s : ByteArray) : ∀ (f pos : Nat) (st : Option Nat) (acc : List (Nat × Nat)), s.size - pos ≤ f → pos ≤ s.size → (∀ a, st = some a → a < pos) →
    (Lib.closeSpans s (Lib.spansFromP blankN s f pos st acc)).map (fun x => s.extract x.1 x.2) = acc.map (fun x => s.extract x.1 x.2) ++ (wdsL ((bytes s).drop pos) (curW s pos st)).map str
  | 0, pos, st, acc, hf, hp, hst => spans_end s pos st acc (by omega) hst
  | f + 1, pos, st, acc, hf, hp, hst => by
    by_cases hlt : pos < s.size
    · have hdr : (bytes s).drop pos = (s[pos]'hlt) :: (bytes s).drop (pos + 1) := List.drop_eq_getElem_cons (by rw [bytes_len]; exact hlt)
      have skip : ∀ d, 1 ≤ d → pos + d ≤ s.size → (∀ (j : Nat) (hj : j < s.size), pos ≤ j → j < pos + d → blk (s[j]'hj) = false) →
          (Lib.closeSpans s (Lib.spansFromP blankN s f (pos + d) (some (st.getD pos)) acc)).map (fun x => s.extract x.1 x.2) = acc.map (fun x => s.extract x.1 x.2) ++ (wdsL ((bytes s).drop pos) (curW s pos st)).map str := by
        intro d h1 h2 h3
        rw [spans_words s f (pos + d) (some (st.getD pos)) acc (by omega) h2 (fun a e => by
          cases st with
          | none => obtain rfl := Option.some.inj e; show pos < pos + d; omega
          | some b => obtain rfl := Option.some.inj e; have := hst b rfl; show b < pos + d; omega)]
        rw [wds_skip d ((bytes s).drop pos) (curW s pos st) (by rw [List.length_drop, bytes_len]; omega) (fun c hc => by
          obtain ⟨j, hj, rfl⟩ := List.mem_iff_getElem.1 hc
          rw [List.length_take, List.length_drop, bytes_len] at hj
          rw [List.getElem_take, List.getElem_drop]
          exact h3 (pos + j) (by omega) (by omega) (by omega)), List.drop_drop, cur_more s pos d st hst]
      unfold Lib.spansFromP
      rw [if_pos hlt]
      by_cases ha : (s[pos]'hlt).toNat < 128
      · rw [decode_ascii s pos hlt ha]
        cases hb : blk (s[pos]'hlt)
        · rw [if_neg (by show ¬ blankN (s[pos]'hlt).toNat = true; rw [blank_blk, hb]; decide)]
          have := skip 1 (by omega) (by omega) (fun j hj h1 h2 => by
            obtain rfl : j = pos := by omega
            exact hb)
          cases st <;> exact this
        · rw [if_pos (by show blankN (s[pos]'hlt).toNat = true; rw [blank_blk, hb])]
          cases st with
          | none =>
            show (Lib.closeSpans s (Lib.spansFromP blankN s f (pos + 1) none acc)).map _ = _
            rw [spans_words s f (pos + 1) none acc (by omega) (by omega) (fun a e => by cases e), hdr]
            show _ ++ (wdsL _ []).map str = _ ++ (wdsL (_ :: _) []).map str
            rw [wdsL, if_pos hb, if_pos rfl]
          | some a =>
            have h := hst a rfl
            show (Lib.closeSpans s (Lib.spansFromP blankN s f (pos + 1) none (acc ++ [(a, pos)]))).map _ = _
            have hne : curW s pos (some a) ≠ [] := fun e => by
              have := congrArg List.length e
              simp [curW, bytes_len] at this
              omega
            rw [spans_words s f (pos + 1) none (acc ++ [(a, pos)]) (by omega) (by omega) (fun a e => by cases e), hdr, wdsL, if_pos hb, if_neg hne]
            rw [List.map_append, List.append_assoc]
            congr 1
            show s.extract a pos :: (wdsL _ []).map str = str _ :: (wdsL _ []).map str
            congr 1
            refine bytes_inj ?_
            rw [bytes_str, bytes_ext]; rfl
      · have ha' : 128 ≤ (s[pos]'hlt).toNat := by omega
        obtain ⟨d1, d2⟩ := decode_high s pos hlt ha'
        obtain ⟨d3, d4⟩ := L12.decode_skip s pos hlt ha'
        rw [if_neg (by rw [blank_high _ d1]; decide)]
        have := skip _ d2 d3 (fun j hj h1 h2 => blk_high _ (d4 j hj h1 h2))
        cases st <;> exact this
    · rw [Lib.spansFromP_end _ _ _ _ _ _ hlt]
      exact spans_end s pos st acc (by omega) hst
theorem fields_words (s : ByteArray) : Lib.goFieldsP blankN s = (wdsL (bytes s) []).map str := by
  unfold Lib.goFieldsP Lib.spansOfP
  rw [spans_words s s.size 0 none [] (by omega) (by omega) (fun a e => by cases e)]
  simp [curW]
/-- a word that may be: not empty, without blanks -/
def GoodW (x : List UInt8) : Prop := x ≠ [] ∧ ∀ c ∈ x, blk c = false
theorem wds_good : ∀ (l w : List UInt8), (∀ c ∈ w, blk c = false) → ∀ x ∈ wdsL l w, GoodW x
  | [], w, hw, x, hx => by
    unfold wdsL at hx
    split at hx
    · cases hx
    · rename_i h; simp at hx; subst hx; exact ⟨h, hw⟩
  | c :: r, w, hw, x, hx => by
    unfold wdsL at hx
    split at hx
    · split at hx
      · exact wds_good r [] (fun _ h => by cases h) x hx
      · rename_i h
        rcases List.mem_cons.1 hx with rfl | hx
        · exact ⟨h, hw⟩
        · exact wds_good r [] (fun _ h => by cases h) x hx
    · rename_i h
      refine wds_good r (w ++ [c]) (fun y hy => ?_) x hx
      rcases List.mem_append.1 hy with hy | hy
      · exact hw y hy
      · simp at hy; subst hy; simpa using h
theorem wds_len : ∀ (l w : List UInt8), (wdsL l w).flatten.length ≤ l.length + w.length
  | [], w => by
    unfold wdsL; split
    · simp
    · simp
  | c :: r, w => by
    unfold wdsL
    split
    · split
      · have := wds_len r []; simp at this ⊢; omega
      · have := wds_len r []; simp at this ⊢; omega
    · have := wds_len r (w ++ [c]); simp at this ⊢; omega
/-- words put together with blanks between them -/
def tL (ws : List (List UInt8)) : List UInt8 := ws.flatMap fun x => 32 :: 9 :: (x ++ [13])
theorem wds_tL : ∀ ws : List (List UInt8), (∀ x ∈ ws, GoodW x) → wdsL (tL ws) [] = ws
  | [], _ => rfl
  | x :: r, h => by
    obtain ⟨h1, h2⟩ := h x (List.mem_cons_self ..)
    have e : tL (x :: r) = 32 :: 9 :: (x ++ 13 :: tL r) := by simp [tL]
    rw [e, wdsL, if_pos (by decide), if_pos rfl, wdsL, if_pos (by decide), if_pos rfl, wds_skip x.length _ _ (by simp) (by simpa using h2)]
    simp only [List.drop_left, List.take_left, List.nil_append]
    rw [wdsL, if_pos (by decide), if_neg h1, wds_tL r fun y hy => h y (List.mem_cons_of_mem _ hy)]
theorem tL_len : ∀ ws : List (List UInt8), (∀ x ∈ ws, GoodW x) → (tL ws).length ≤ 4 * ws.flatten.length
  | [], _ => by simp [tL]
  | x :: r, h => by
    have h1 := (h x (List.mem_cons_self ..)).1
    have h2 := tL_len r fun y hy => h y (List.mem_cons_of_mem _ hy)
    have h3 : 0 < x.length := List.length_pos_iff.2 h1
    have e : tL (x :: r) = 32 :: 9 :: (x ++ [13]) ++ tL r := by simp [tL]
    rw [e]
    simp only [List.length_append, List.length_cons, List.flatten_cons, List.length_nil]
    omega
theorem tL_snoc (ws : List (List UInt8)) (x : List UInt8) : tL (ws ++ [x]) = tL ws ++ (32 :: 9 :: (x ++ [13])) := by simp [tL]
end L10
end Go.Proofs.Ytojlpocpcakcbaa
