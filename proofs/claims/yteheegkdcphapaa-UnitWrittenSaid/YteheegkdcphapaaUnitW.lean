/- Layer 13, plain: assignments written one a line are read. -/
import Derived.Test.YteheegkdcphapaaLineO
import Derived.Test.YteheegkdcphapaaUnitO
namespace Go.Proofs.Yteheegkdcphapaa
open Go.RowKit Go.Shelf V
namespace L12
def badC (sec first : Bool) (c : UInt8) : Bool := c == 10 || c == 32 || c == 9 || c == 13 || c == 91 || c == 93 || (c == 61 && !sec) || ((c == 35 || c == 59) && first && !sec) || c == 92
def WordP (l : List UInt8) (sec : Bool) : Prop := l ≠ [] ∧ l.length ≤ 60 ∧ ∀ (i : Nat) (h : i < l.length), badC sec (decide (i = 0)) l[i] = false
def ValP (l : List UInt8) : Prop := l.length ≤ 60 ∧ trimL l = l ∧ l.getLast? ≠ some 92 ∧ (10 : UInt8) ∉ l
theorem badC_no {sec first : Bool} {c : UInt8} (h : badC sec first c = false) : c ≠ 10 ∧ isB c = false ∧ c ≠ 91 ∧ c ≠ 93 ∧ c ≠ 92 ∧ (sec = false → c ≠ 61) ∧ (sec = false → first = true → c ≠ 35 ∧ c ≠ 59) := by
  unfold badC at h
  simp only [Bool.or_eq_false_iff, beq_eq_false_iff_ne, ne_eq] at h
  obtain ⟨⟨⟨⟨⟨⟨⟨⟨h1, h2⟩, h3⟩, h4⟩, h5⟩, h6⟩, h7⟩, h8⟩, h9⟩ := h
  refine ⟨h1, ?_, h5, h6, h9, fun hs => ?_, fun hs hf => ?_⟩
  · rw [isB_or]; simp [h2, h3, h4]
  · subst hs; simpa using h7
  · subst hs hf; simpa using h8
theorem WordP.mem {l : List UInt8} {sec : Bool} (h : WordP l sec) : ∀ c ∈ l, ∃ first, badC sec first c = false := by
  intro c hc
  obtain ⟨i, hi, rfl⟩ := List.getElem_of_mem hc
  exact ⟨_, h.2.2 i hi⟩
theorem WordP.head {l : List UInt8} {sec : Bool} (h : WordP l sec) : ∃ x r, l = x :: r ∧ badC sec true x = false := by
  obtain ⟨h1, -, h3⟩ := h
  cases l with
  | nil => exact absurd rfl h1
  | cons x r => exact ⟨x, r, rfl, h3 0 (by simp)⟩
theorem trimL_id {l : List UInt8} (h1 : ∀ x, l.head? = some x → isB x = false) (h2 : ∀ y, l.getLast? = some y → isB y = false) : trimL l = l := by
  unfold trimL
  have e1 : l.dropWhile isB = l := by
    cases l with
    | nil => rfl
    | cons x r => exact List.dropWhile_cons_of_neg (by rw [h1 x rfl]; simp)
  rw [e1]
  have e2 : l.reverse.dropWhile isB = l.reverse := by
    cases h : l.reverse with
    | nil => rfl
    | cons y r => exact List.dropWhile_cons_of_neg (by rw [h2 y (by rw [← List.head?_reverse, h]; rfl)]; simp)
  rw [e2, List.reverse_reverse]
theorem rtrim_id {l : List UInt8} (h2 : ∀ y, l.getLast? = some y → isB y = false) : rtrim l = l := by
  unfold rtrim
  have e2 : l.reverse.dropWhile isB = l.reverse := by
    cases h : l.reverse with
    | nil => rfl
    | cons y r => exact List.dropWhile_cons_of_neg (by rw [h2 y (by rw [← List.head?_reverse, h]; rfl)]; simp)
  rw [e2, List.reverse_reverse]
theorem trimL_last {l : List UInt8} (h : trimL l = l) : ∀ y, l.getLast? = some y → isB y = false := by
  intro y hy
  rw [← h] at hy
  unfold trimL at hy
  rw [List.getLast?_reverse] at hy
  cases hd : (l.dropWhile isB).reverse.dropWhile isB with
  | nil => rw [hd] at hy; cases hy
  | cons x r =>
    rw [hd] at hy
    simp at hy
    subst hy
    exact dw_head hd
theorem trimL_cons {x : UInt8} {l : List UInt8} (h : isB x = true) : trimL (x :: l) = trimL l := by
  unfold trimL
  rw [List.dropWhile_cons_of_pos h]
theorem trimL_snoc {x : UInt8} {l : List UInt8} (hx : isB x = true) (h1 : ∃ y r, l = y :: r ∧ isB y = false) (h2 : ∀ y, l.getLast? = some y → isB y = false) : trimL (l ++ [x]) = l := by
  obtain ⟨y, r, rfl, hy⟩ := h1
  unfold trimL
  rw [List.cons_append, List.dropWhile_cons_of_neg (by rw [hy]; simp), ← List.cons_append, List.reverse_append, List.reverse_singleton, List.singleton_append, List.dropWhile_cons_of_pos hx]
  have e2 : (y :: r).reverse.dropWhile isB = (y :: r).reverse := by
    cases h : (y :: r).reverse with
    | nil => rfl
    | cons z t => exact List.dropWhile_cons_of_neg (by rw [h2 z (by rw [← List.head?_reverse, h]; rfl)]; simp)
  rw [e2, List.reverse_reverse]
theorem hd1_app {c : UInt8} : ∀ {a : List UInt8} (_ : c ∉ a) (rest : List UInt8), hd1 c (a ++ c :: rest) = a ∧ tl1 c (a ++ c :: rest) = rest
  | [], _, rest => by
    unfold hd1 tl1
    rw [List.nil_append, List.takeWhile_cons_of_neg (p := (· != _)) (by simp), List.dropWhile_cons_of_neg (p := (· != _)) (by simp)]
    exact ⟨rfl, rfl⟩
  | x :: r, h, rest => by
    have hx : (x != c) = true := by
      simp only [bne_iff_ne, ne_eq]
      exact fun e => h (by rw [e]; exact List.mem_cons_self)
    obtain ⟨h1, h2⟩ := hd1_app (c := c) (a := r) (fun hm => h (List.mem_cons_of_mem _ hm)) rest
    unfold hd1 tl1 at *
    rw [List.cons_append, List.takeWhile_cons_of_pos (p := (· != _)) hx, List.dropWhile_cons_of_pos (p := (· != _)) hx, h1, h2]
    exact ⟨rfl, rfl⟩
theorem line_sec {sec : List UInt8} (h : WordP sec true) : (10 : UInt8) ∉ (91 :: (sec ++ [93])) ∧ commentL (91 :: (sec ++ [93])) = false ∧ Lib.hasSuffix (91 :: (sec ++ [93])) [92] = false ∧ trimL (91 :: (sec ++ [93])) = 91 :: (sec ++ [93]) ∧ sectionL (91 :: (sec ++ [93])) = (sec, true) := by
  have hm := h.mem
  have hlast : (91 :: (sec ++ [93])).getLast? = some 93 := by
    rw [← List.cons_append, List.getLast?_append]; rfl
  have htr : trimL (91 :: (sec ++ [93])) = 91 :: (sec ++ [93]) := trimL_id (fun x hx => by simp at hx; subst hx; decide) (fun y hy => by rw [hlast] at hy; cases hy; decide)
  refine ⟨?_, ?_, ?_, htr, ?_⟩
  · intro hc
    rcases List.mem_cons.1 hc with e | hc
    · cases e
    rcases List.mem_append.1 hc with hc | hc
    · obtain ⟨f, hf⟩ := hm _ hc
      exact (badC_no hf).1 rfl
    · simp at hc
  · unfold commentL; rw [htr]; rfl
  · rw [hasSuffix_one, hlast]; rfl
  · rw [sectionL_ref]
    unfold refSec
    dsimp only
    have hl : 1 ≤ sec.length := List.length_pos_iff.2 h.1
    rw [if_pos]
    · rw [List.dropLast_concat]
    · refine ⟨rfl, by rw [List.length_append, List.length_singleton]; omega, by rw [List.getLast?_append]; rfl, ?_⟩
      rw [List.dropLast_concat, List.any_eq_false]
      intro c hc
      obtain ⟨f, hf⟩ := hm c hc
      have := badC_no hf
      simp [this.2.2.1, this.2.2.2.1]
def eqB (blanks : Bool) : List UInt8 := if blanks then [32, 9, 61, 32] else [61]
theorem key_last {key : List UInt8} (h : WordP key false) : ∀ y, key.getLast? = some y → isB y = false := by
  intro y hy
  obtain ⟨f, hf⟩ := h.mem y (List.mem_of_getLast? hy)
  exact (badC_no hf).2.1
theorem assign_of {key val mid tl : List UInt8} (hk : WordP key false) (hmid : rtrim (key ++ mid) = key) (hm61 : (61 : UInt8) ∉ mid) (htl : trimL tl = val) : assignL (key ++ mid ++ 61 :: tl) = (key, val, true) ∧ (sectionL (key ++ mid ++ 61 :: tl)).2 = false := by
  have h61 : (61 : UInt8) ∉ key ++ mid := by
    intro hc
    rcases List.mem_append.1 hc with hc | hc
    · obtain ⟨f, hf⟩ := hk.mem _ hc
      exact (badC_no hf).2.2.2.2.2.1 rfl rfl
    · exact hm61 hc
  obtain ⟨e1, e2⟩ := hd1_app h61 tl
  obtain ⟨x, r, hxr, hx⟩ := hk.head
  have hx91 : x ≠ 91 := (badC_no hx).2.2.1
  have hc : (key ++ mid ++ 61 :: tl).contains 61 = true := by simp
  have hp : Lib.hasPrefix (key ++ mid ++ 61 :: tl) [91] = false := by
    rw [hasPrefix_head, hxr]
    simp [hx91]
  constructor
  · unfold assignL
    rw [hc, hp, e1, e2, hmid, htl, if_neg (by simp), if_neg (by simp), if_neg hk.1, containsAny_blank, if_neg]
    intro ha
    obtain ⟨c, hcm, hcb⟩ := List.any_eq_true.1 ha
    obtain ⟨f, hf⟩ := hk.mem c hcm
    rw [(badC_no hf).2.1] at hcb
    cases hcb
  · unfold sectionL
    rw [hp, if_pos rfl]
theorem line_key {key val : List UInt8} {blanks : Bool} (hk : WordP key false) (hv : ValP val) : (10 : UInt8) ∉ (key ++ eqB blanks ++ val) ∧ commentL (key ++ eqB blanks ++ val) = false ∧ Lib.hasSuffix (key ++ eqB blanks ++ val) [92] = false ∧ trimL (key ++ eqB blanks ++ val) ≠ [] ∧
    assignL (trimL (key ++ eqB blanks ++ val)) = (key, val, true) ∧ (sectionL (trimL (key ++ eqB blanks ++ val))).2 = false := by
  obtain ⟨x, r, hxr, hx⟩ := hk.head
  obtain ⟨hx10, hxb, hx91, hx93, hx92, -, hx3⟩ := badC_no hx
  obtain ⟨hx35, hx59⟩ := hx3 rfl rfl
  obtain ⟨v1, v2, v3, v4⟩ := hv
  have hkl := key_last hk
  have hkr := rtrim_id hkl
  have hno : (10 : UInt8) ∉ (key ++ eqB blanks ++ val) := by
    intro hc
    rcases List.mem_append.1 hc with hc | hc
    · rcases List.mem_append.1 hc with hc | hc
      · obtain ⟨f, hf⟩ := hk.mem _ hc
        exact (badC_no hf).1 rfl
      · cases blanks <;> simp [eqB] at hc
    · exact v4 hc
  have key2 : ∃ T, trimL (key ++ eqB blanks ++ val) = T ∧ T.head? = some x ∧ T ≠ [] ∧ assignL T = (key, val, true) ∧ (sectionL T).2 = false := by
    cases blanks
    · refine ⟨key ++ [] ++ 61 :: val, ?_, by rw [hxr]; rfl, by rw [hxr]; simp, assign_of hk (by rw [List.append_nil]; exact hkr) (by simp) v2⟩
      have e : key ++ eqB false ++ val = key ++ [] ++ 61 :: val := by simp [eqB]
      rw [e]
      refine trimL_id (fun y hy => by rw [hxr] at hy; simp at hy; subst hy; exact hxb) (fun y hy => ?_)
      rw [List.getLast?_append] at hy
      cases hvl : val.getLast? with
      | none =>
        have : val = [] := List.getLast?_eq_none_iff.1 hvl
        subst this
        simp at hy
        subst hy; decide
      | some z =>
        have : (61 :: val).getLast? = some z := by
          rw [List.getLast?_cons, hvl]; rfl
        rw [this] at hy
        have hzy : z = y := by simpa using hy
        rw [← hzy]
        exact trimL_last v2 z hvl
    · have hmid : rtrim (key ++ [32, 9]) = key := by
        rw [show key ++ [32, 9] = (key ++ [32]) ++ [9] by simp, rtrim_snoc, if_pos (by decide), rtrim_snoc, if_pos (by decide), hkr]
      cases hvl : val.getLast? with
      | none =>
        have : val = [] := List.getLast?_eq_none_iff.1 hvl
        subst this
        refine ⟨key ++ [32, 9] ++ 61 :: [], ?_, by rw [hxr]; rfl, by rw [hxr]; simp, assign_of hk hmid (by decide) rfl⟩
        rw [show key ++ eqB true ++ [] = (key ++ [32, 9] ++ 61 :: []) ++ [32] by simp [eqB]]
        refine trimL_snoc (by decide) ⟨x, r ++ [32, 9] ++ [61], by rw [hxr]; simp, hxb⟩ (fun y hy => ?_)
        simp at hy
        subst hy; decide
      | some z =>
        refine ⟨key ++ [32, 9] ++ 61 :: (32 :: val), ?_, by rw [hxr]; rfl, by rw [hxr]; simp, assign_of hk hmid (by decide) (by rw [trimL_cons (by decide)]; exact v2)⟩
        rw [show key ++ eqB true ++ val = key ++ [32, 9] ++ 61 :: (32 :: val) by simp [eqB]]
        refine trimL_id (fun y hy => by rw [hxr] at hy; simp at hy; subst hy; exact hxb) (fun y hy => ?_)
        rw [List.getLast?_append] at hy
        have : (61 :: 32 :: val).getLast? = some z := by
          rw [List.getLast?_cons, List.getLast?_cons, hvl]; rfl
        rw [this] at hy
        have hzy : z = y := by simpa using hy
        rw [← hzy]
        exact trimL_last v2 z hvl
  obtain ⟨T, hT, hh, hne, ha, hs⟩ := key2
  refine ⟨hno, ?_, ?_, by rw [hT]; exact hne, by rw [hT]; exact ha, by rw [hT]; exact hs⟩
  · unfold commentL
    rw [hT]
    cases T with
    | nil => rfl
    | cons y t =>
      simp at hh
      subst hh
      simp [hx35, hx59]
  · rw [hasSuffix_one, decide_eq_false_iff_not]
    intro hc
    rw [List.getLast?_append] at hc
    cases hvl : val.getLast? with
    | none =>
      rw [hvl] at hc
      cases blanks <;> simp [eqB] at hc
    | some z =>
      rw [hvl] at hc
      exact v3 (by rw [hvl]; simpa using hc)
/-- what has been written so far, and what is read of it -/
def PW (S : List UInt8) (n : Nat) (al : List As) : Prop := ∃ ys sec inn, PL S n ys ∧ ys.foldl stepU ⟨[], false, [], []⟩ = ⟨sec, inn, al, []⟩
theorem PW.start : PW [] 0 [] := ⟨[], [], false, PL.start, rfl⟩
theorem PW.step {S sec key val : List UInt8} {n : Nat} {al : List As} (h : PW S n al) (hs : WordP sec true) (hk : WordP key false) (hv : ValP val) (blanks : Bool) :
    PW (S ++ [91] ++ sec ++ [93, 10] ++ key ++ eqB blanks ++ val ++ [10]) (n + 2) (al ++ [(n + 2, sec, key, val)]) := by
  obtain ⟨ys, s0, i0, hp, hf⟩ := h
  obtain ⟨a1, a2, a3, a4, a5⟩ := line_sec hs
  obtain ⟨b1, b2, b3, b4, b5, b6⟩ := line_key (blanks := blanks) hk hv
  have p1 := hp.text a1 a2 a3
  have p2 := p1.text b1 b2 b3
  refine ⟨endL (n + 1 + 1) (key ++ eqB blanks ++ val) (endL (n + 1) (91 :: (sec ++ [93])) ys), sec, true, ?_, ?_⟩
  · have e : S ++ [91] ++ sec ++ [93, 10] ++ key ++ eqB blanks ++ val ++ [10] = S ++ (91 :: (sec ++ [93]) ++ [10]) ++ (key ++ eqB blanks ++ val ++ [10]) := by simp
    rw [e]
    exact p2
  · unfold endL
    rw [if_neg b4, a4, if_neg (by simp), List.foldl_append, List.foldl_append, hf]
    simp only [List.foldl_cons, List.foldl_nil]
    have e1 : stepU ⟨s0, i0, al, []⟩ (n + 1, 91 :: (sec ++ [93])) = ⟨sec, true, al, []⟩ := by unfold stepU; rw [a5, if_pos rfl]
    rw [e1]
    unfold stepU
    dsimp only
    rw [b6, if_neg (by simp), b5, if_pos ⟨rfl, rfl⟩]
theorem PW.parse {S : List UInt8} {n : Nat} {al : List As} (h : PW S n al) (hS : S.length ≤ 65536) (hn : n ≤ 1000) : parseL S = (al, []) := by
  obtain ⟨ys, s0, i0, hp, hf⟩ := h
  have hl := hp.lines
  have hi := hp.is hS hn
  unfold isA at hi
  obtain ⟨h1, h2⟩ := of_decide_eq_true hi
  unfold parseL foldU
  rw [h1, h2, hf, if_neg (by simp), if_neg (by simp)]
end L12
end Go.Proofs.Yteheegkdcphapaa
