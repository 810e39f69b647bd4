import Derived.Test.YtkmhfjnjfghnjaaMq21
import Derived.Test.YtkmhfjnjfghnjaaMq7
/- Cut out of XTreeA by wip/tools/cutout.py: what all of XTreeA lean on. -/
namespace Go.Proofs.Ytkmhfjnjfghnjaa
open Go.RowKit V
namespace L24
open L23
structure Node where
  leaf : Bool
  way : Int
  at_ : Nat
  less : Int
  more : Int
structure OkN (n : Node) : Prop where
  w1 : -9223372036854775808 ≤ n.way
  w2 : n.way ≤ 9223372036854775807
  a : n.at_ < 4294967296
  l1 : -9223372036854775808 ≤ n.less
  l2 : n.less ≤ 9223372036854775807
  m1 : -9223372036854775808 ≤ n.more
  m2 : n.more ≤ 9223372036854775807
def encN (n : Node) : List Value := [.bool n.leaf, .int .i64 n.way, .int .u32 (n.at_ : Int), .int .i64 n.less, .int .i64 n.more]
theorem encN_len (n : Node) : (encN n).length = 5 := rfl
theorem encN_one (s : Node) : ∀ u ∈ encN s, u.oneCell' = true := by
  intro u hu; simp [encN] at hu; rcases hu with rfl | rfl | rfl | rfl | rfl <;> rfl
theorem rdN_cell {w : World} {v : Value} {xs : List Node} (h : Rd w 5 encN v xs) : ∃ a c, v = .slice a xs.length c ∧ xs.length ≤ c ∧ ∀ i, (hi : i < xs.length) → ∃ b o, a = some ⟨b, o, none⟩ ∧
    w.cell? ⟨b, o + i * 5, none⟩ = some (.bool xs[i].leaf) ∧ w.cell? ⟨b, o + i * 5 + 1, none⟩ = some (.int .i64 xs[i].way) ∧ w.cell? ⟨b, o + i * 5 + 2, none⟩ = some (.int .u32 (xs[i].at_ : Int)) ∧
    w.cell? ⟨b, o + i * 5 + 3, none⟩ = some (.int .i64 xs[i].less) ∧ w.cell? ⟨b, o + i * 5 + 4, none⟩ = some (.int .i64 xs[i].more) := by
  obtain ⟨a, c, h1, h2, h3, h4⟩ := h
  refine ⟨a, c, h1, h2, fun i hi => ?_⟩
  obtain ⟨b, o, e, k⟩ := h4 i hi
  exact ⟨b, o, e, k 0 (by simp [encN]), k 1 (by simp [encN]), k 2 (by simp [encN]), k 3 (by simp [encN]), k 4 (by simp [encN])⟩
def mayN (len i : Nat) (n : Node) : Bool := n.leaf || (decide ((i : Int) < n.less) && decide ((i : Int) < n.more) && decide (n.less < (len : Int)) && decide (n.more < (len : Int)))
def mayL (len : Nat) : List Node → Nat → Bool
  | [], _ => true
  | n :: r, i => mayN len i n && mayL len r (i + 1)
def may (t : List Node) : Bool := mayL t.length t 0 && decide (0 < t.length)
theorem mayL_step {t : List Node} {k : Nat} (len : Nat) (h : k < t.length) : mayL len (t.drop k) k = (mayN len k t[k] && mayL len (t.drop (k + 1)) (k + 1)) := by
  rw [List.drop_eq_getElem_cons h]; rfl
theorem mayL_end (len : Nat) (t : List Node) (i : Nat) : mayL len (t.drop t.length) i = true := by rw [List.drop_length]; rfl
theorem mayL_get : ∀ {r : List Node} {len i j : Nat}, mayL len r i = true → ∀ (h : j < r.length), mayN len (i + j) r[j] = true
  | n :: r, len, i, 0, hm, _ => by simp only [mayL, Bool.and_eq_true] at hm; exact hm.1
  | n :: r, len, i, j + 1, hm, h => by
    simp only [mayL, Bool.and_eq_true] at hm
    have := mayL_get hm.2 (j := j) (by simpa using h)
    simpa [Nat.add_assoc, Nat.add_comm 1 j] using this
theorem mayL_mk : ∀ {r : List Node} {len i : Nat}, (∀ j (h : j < r.length), mayN len (i + j) r[j] = true) → mayL len r i = true
  | [], _, _, _ => rfl
  | n :: r, len, i, h => by
    simp only [mayL, Bool.and_eq_true]
    refine ⟨h 0 (by simp), mayL_mk fun j hj => ?_⟩
    have := h (j + 1) (by simpa using hj)
    simpa [Nat.add_assoc, Nat.add_comm 1 j] using this
theorem may_pos {t : List Node} (h : may t = true) : 0 < t.length := by unfold may at h; simp at h; exact h.2
theorem may_get {t : List Node} (h : may t = true) {j : Nat} (hj : j < t.length) (hl : t[j].leaf = false) :
    (j : Int) < t[j].less ∧ (j : Int) < t[j].more ∧ t[j].less < (t.length : Int) ∧ t[j].more < (t.length : Int) := by
  unfold may at h
  rw [Bool.and_eq_true] at h
  have := mayL_get h.1 hj
  unfold mayN at this
  rw [hl, Nat.zero_add] at this
  simp at this
  exact ⟨this.1.1.1, this.1.1.2, this.1.2, this.2⟩
/-- where the search goes from a node -/
def goes (x : Node) (n : Nat) : Nat := if x.at_ ≤ n then x.more.toNat else x.less.toNat
def fnd (t : List Node) (n : Nat) : Nat → Nat → Nat → Int × Nat
  | 0, _, s => (0, s)
  | f + 1, i, s => match t[i]? with
    | some x => if x.leaf = true then (x.way, s) else fnd t n f (goes x n) (s + 1)
    | none => (0, s)
theorem goes_in {t : List Node} (h : may t = true) {j : Nat} (hj : j < t.length) (hl : t[j].leaf = false) (n : Nat) : j < goes t[j] n ∧ goes t[j] n < t.length := by
  obtain ⟨h1, h2, h3, h4⟩ := may_get h hj hl
  unfold goes; split <;> omega
theorem fnd_fuel {t : List Node} (h : may t = true) (n : Nat) : ∀ (f : Nat) {i s g : Nat}, i < t.length → t.length - i ≤ f → t.length - i ≤ g → fnd t n f i s = fnd t n g i s
  | 0, i, s, g, hi, hf, _ => by omega
  | f + 1, i, s, 0, hi, _, hg => by omega
  | f + 1, i, s, g + 1, hi, hf, hg => by
    unfold fnd
    rw [List.getElem?_eq_getElem hi]
    dsimp only
    split
    · rfl
    · rename_i hl
      have := goes_in h hi (by simpa using hl) n
      exact fnd_fuel h n f this.2 (by omega) (by omega)
theorem fnd_leaf {t : List Node} (n : Nat) {f i s : Nat} (hi : i < t.length) (hf : 0 < f) (hl : t[i].leaf = true) : fnd t n f i s = (t[i].way, s) := by
  obtain ⟨f, rfl⟩ : ∃ g, f = g + 1 := ⟨f - 1, by omega⟩
  unfold fnd
  rw [List.getElem?_eq_getElem hi]
  dsimp only
  rw [if_pos hl]
theorem fnd_step {t : List Node} (h : may t = true) (n : Nat) {f i s : Nat} (hi : i < t.length) (hf : t.length - i ≤ f) (hl : t[i].leaf = false) : fnd t n f i s = fnd t n (t.length - goes t[i] n) (goes t[i] n) (s + 1) := by
  obtain ⟨f, rfl⟩ : ∃ g, f = g + 1 := ⟨f - 1, by omega⟩
  have h2 := goes_in h hi hl n
  conv => lhs; unfold fnd
  rw [List.getElem?_eq_getElem hi]
  dsimp only
  rw [if_neg (by rw [hl]; simp)]
  exact fnd_fuel h n f h2.2 (by omega) (Nat.le_refl _)
/-- what Find answers: the way, the steps, whether the tree may be -/
def findA (t : List Node) (n : Nat) : Int × Nat := if may t = true then fnd t n t.length 0 0 else (0, 0)
def dep (t : List Node) : Nat → Nat → Nat
  | 0, _ => 0
  | f + 1, i => match t[i]? with
    | some x => if x.leaf = true then 0 else 1 + max (dep t f x.less.toNat) (dep t f x.more.toNat)
    | none => 0
theorem dep_fuel {t : List Node} (h : may t = true) : ∀ (f : Nat) {i g : Nat}, i < t.length → t.length - i ≤ f → t.length - i ≤ g → dep t f i = dep t g i
  | 0, i, g, hi, hf, _ => by omega
  | f + 1, i, 0, hi, _, hg => by omega
  | f + 1, i, g + 1, hi, hf, hg => by
    unfold dep
    rw [List.getElem?_eq_getElem hi]
    dsimp only
    split
    · rfl
    · rename_i hl
      obtain ⟨h1, h2, h3, h4⟩ := may_get h hi (by simpa using hl)
      rw [dep_fuel h f (i := t[i].less.toNat) (g := g) (by omega) (by omega) (by omega), dep_fuel h f (i := t[i].more.toNat) (g := g) (by omega) (by omega) (by omega)]
/-- how many nodes are asked at most, from a node on -/
def dpt (t : List Node) (i : Nat) : Nat := dep t (t.length - i) i
theorem dpt_leaf {t : List Node} {i : Nat} (hi : i < t.length) (hl : t[i].leaf = true) : dpt t i = 0 := by
  unfold dpt
  obtain ⟨f, hf⟩ : ∃ g, t.length - i = g + 1 := ⟨t.length - i - 1, by omega⟩
  rw [hf]
  unfold dep
  rw [List.getElem?_eq_getElem hi]
  dsimp only
  rw [if_pos hl]
theorem dpt_node {t : List Node} (h : may t = true) {i : Nat} (hi : i < t.length) (hl : t[i].leaf = false) : dpt t i = 1 + max (dpt t t[i].less.toNat) (dpt t t[i].more.toNat) := by
  obtain ⟨h1, h2, h3, h4⟩ := may_get h hi hl
  unfold dpt
  obtain ⟨f, hf⟩ : ∃ g, t.length - i = g + 1 := ⟨t.length - i - 1, by omega⟩
  rw [hf]
  conv => lhs; unfold dep
  rw [List.getElem?_eq_getElem hi]
  dsimp only
  rw [if_neg (by rw [hl]; simp)]
  rw [dep_fuel h f (i := t[i].less.toNat) (g := t.length - t[i].less.toNat) (by omega) (by omega) (by omega), dep_fuel h f (i := t[i].more.toNat) (g := t.length - t[i].more.toNat) (by omega) (by omega) (by omega)]
theorem dep_le (t : List Node) : ∀ f i, dep t f i ≤ f
  | 0, _ => Nat.le_refl _
  | f + 1, i => by
    unfold dep
    split
    · split
      · omega
      · have := dep_le t f; have h1 := this (Int.toNat (by assumption : Node).less); have h2 := this (Int.toNat (by assumption : Node).more); omega
    · omega
theorem dpt_le (t : List Node) (i : Nat) : dpt t i ≤ t.length - i := dep_le _ _ _
def depthA (t : List Node) : Nat := if may t = true then dpt t 0 else 0
/-- the first number of the one at a place -/
def loAt (xs : List Span) (i : Nat) : Nat := match xs[i]? with | some s => s.lo | none => 0
theorem loAt_get {xs : List Span} {i : Nat} (h : i < xs.length) : loAt xs i = xs[i].lo := by unfold loAt; rw [List.getElem?_eq_getElem h]
def grw : Nat → List Span → Nat → List Node
  | 0, _, _ => []
  | f + 1, l, a => if l.length / 2 = 0 then [⟨true, wy l 0, 0, 0, 0⟩] else
    let less := grw f (l.take (l.length / 2)) (a + 1)
    ⟨false, 0, loAt l (l.length / 2), (a : Int) + 1, (a : Int) + 1 + less.length⟩ :: (less ++ grw f (l.drop (l.length / 2)) (a + 1 + less.length))
theorem grw_fuel : ∀ (f : Nat) {l : List Span} {a g : Nat}, 0 < l.length → l.length ≤ f → l.length ≤ g → grw f l a = grw g l a
  | 0, l, a, g, h, hf, _ => by omega
  | f + 1, l, a, 0, h, _, hg => by omega
  | f + 1, l, a, g + 1, h, hf, hg => by
    unfold grw
    split
    · rfl
    · have h1 : grw f (l.take (l.length / 2)) (a + 1) = grw g (l.take (l.length / 2)) (a + 1) := grw_fuel f (by rw [List.length_take]; omega) (by rw [List.length_take]; omega) (by rw [List.length_take]; omega)
      rw [h1]
      dsimp only
      rw [grw_fuel f (g := g) (by rw [List.length_drop]; omega) (by rw [List.length_drop]; omega) (by rw [List.length_drop]; omega)]
/-- the tree of spans, whose first node has a place -/
def tre (l : List Span) (a : Nat) : List Node := grw l.length l a
theorem tre_one {l : List Span} {a : Nat} (h : l.length = 1) : tre l a = [⟨true, wy l 0, 0, 0, 0⟩] := by
  unfold tre; rw [h]; unfold grw; rw [if_pos (by rw [h])]
theorem tre_more {l : List Span} {a : Nat} (h : 2 ≤ l.length) : tre l a = ⟨false, 0, loAt l (l.length / 2), (a : Int) + 1, (a : Int) + 1 + (tre (l.take (l.length / 2)) (a + 1)).length⟩ ::
    (tre (l.take (l.length / 2)) (a + 1) ++ tre (l.drop (l.length / 2)) (a + 1 + (tre (l.take (l.length / 2)) (a + 1)).length)) := by
  unfold tre
  obtain ⟨f, hf⟩ : ∃ g, l.length = g + 1 := ⟨l.length - 1, by omega⟩
  conv => lhs; rw [hf]; unfold grw
  rw [if_neg (by omega)]
  dsimp only
  rw [grw_fuel f (l := l.take (l.length / 2)) (g := (l.take (l.length / 2)).length) (by rw [List.length_take]; omega) (by rw [List.length_take]; omega) (Nat.le_refl _),
    grw_fuel f (l := l.drop (l.length / 2)) (g := (l.drop (l.length / 2)).length) (by rw [List.length_drop]; omega) (by rw [List.length_drop]; omega) (Nat.le_refl _)]
theorem len_rec {P : List Span → Prop} (h1 : ∀ l, l.length = 1 → P l) (h2 : ∀ l, 2 ≤ l.length → P (l.take (l.length / 2)) → P (l.drop (l.length / 2)) → P l) : ∀ l, 0 < l.length → P l := by
  have : ∀ n l, l.length ≤ n → 0 < l.length → P l := by
    intro n
    induction n with
    | zero => intro l h h'; omega
    | succ n ih =>
      intro l h h'
      by_cases h3 : l.length = 1
      · exact h1 l h3
      · exact h2 l (by omega) (ih _ (by rw [List.length_take]; omega) (by rw [List.length_take]; omega)) (ih _ (by rw [List.length_drop]; omega) (by rw [List.length_drop]; omega))
  exact fun l h => this l.length l (Nat.le_refl _) h
theorem tre_len : ∀ l : List Span, 0 < l.length → ∀ a, (tre l a).length = 2 * l.length - 1 := by
  refine len_rec (fun l h a => ?_) (fun l h ih1 ih2 a => ?_)
  · rw [tre_one h, h]; rfl
  · rw [tre_more h, List.length_cons, List.length_append, ih1, ih2, List.length_take, List.length_drop]; omega
theorem tre_cons {l : List Span} {a : Nat} (h : 2 ≤ l.length) : tre l a = ⟨false, 0, loAt l (l.length / 2), (a : Int) + 1, (a : Int) + 1 + (2 * (l.length / 2) - 1 : Nat)⟩ ::
    (tre (l.take (l.length / 2)) (a + 1) ++ tre (l.drop (l.length / 2)) (a + 1 + (2 * (l.length / 2) - 1))) := by
  have := tre_len (l.take (l.length / 2)) (by rw [List.length_take]; omega) (a + 1)
  rw [List.length_take, Nat.min_eq_left (by omega)] at this
  rw [tre_more h, this]
theorem tre_ok : ∀ l : List Span, 0 < l.length → ∀ (a j : Nat) (hj : j < (tre l a).length), (tre l a)[j].leaf = true ∨ ((tre l a)[j].less = (a : Int) + j + 1 ∧ (a : Int) + j + 1 < (tre l a)[j].more ∧ (tre l a)[j].more < (a : Int) + (2 * l.length - 1 : Nat)) := by
  refine len_rec (fun l h a j hj => ?_) (fun l h ih1 ih2 a j hj => ?_)
  · have e := tre_one (a := a) h
    rw [tre_len l (by omega), h] at hj
    obtain rfl : j = 0 := by omega
    left; simp [e]
  · have e := tre_cons (a := a) h
    rw [tre_len l (by omega)] at hj
    have l1 := tre_len (l.take (l.length / 2)) (by rw [List.length_take]; omega) (a + 1)
    have l2 := tre_len (l.drop (l.length / 2)) (by rw [List.length_drop]; omega) (a + 1 + (2 * (l.length / 2) - 1))
    rw [List.length_take, Nat.min_eq_left (by omega)] at l1
    rw [List.length_drop] at l2
    simp only [e]
    cases j with
    | zero => right; simp only [List.getElem_cons_zero]; omega
    | succ j =>
      simp only [List.getElem_cons_succ]
      by_cases hjl : j < 2 * (l.length / 2) - 1
      · rw [List.getElem_append_left (by omega)]
        have := ih1 (a + 1) j (by omega)
        rw [List.length_take, Nat.min_eq_left (by omega)] at this
        rcases this with h | ⟨h1, h2, h3⟩
        · exact .inl h
        · right; omega
      · rw [List.getElem_append_right (by omega)]
        simp only [l1]
        have := ih2 (a + 1 + (2 * (l.length / 2) - 1)) (j - (2 * (l.length / 2) - 1)) (by omega)
        rw [List.length_drop] at this
        rcases this with h | ⟨h1, h2, h3⟩
        · exact .inl h
        · right; omega
theorem tre_may {l : List Span} (h : 0 < l.length) : may (tre l 0) = true := by
  have hl := tre_len l h 0
  unfold may
  rw [Bool.and_eq_true]
  refine ⟨mayL_mk fun j hj => ?_, by rw [decide_eq_true_eq, hl]; omega⟩
  have := tre_ok l h 0 j hj
  unfold mayN
  rcases this with h | ⟨h1, h2, h3⟩
  · rw [h]; rfl
  · simp; right; rw [hl]; omega
theorem way_out : ∀ {xs : List Span} {a m n : Nat}, chain xs a = some m → m ≤ n → way xs n = (0, false)
  | [], _, _, _, _, _ => rfl
  | s :: r, a, m, n, h, hn => by
    obtain ⟨e1, e2, h3⟩ := chain_cons h
    have hm : s.hi + 1 ≤ m := by
      clear hn e1 e2
      generalize s.hi + 1 = q at *
      clear h
      induction r generalizing q with
      | nil => simp [chain] at h3; omega
      | cons y r ih => obtain ⟨e1, e2, h4⟩ := chain_cons h3; have := ih _ h4; omega
    unfold way
    rw [if_neg (by omega)]
    exact way_out h3 hn
theorem chain_lo {xs : List Span} {a m : Nat} (h : chain xs a = some m) (hp : 0 < xs.length) : loAt xs 0 = a := by
  cases xs with
  | nil => simp at hp
  | cons s r => exact (chain_cons h).1
theorem way_one {l : List Span} {a m n : Nat} (h : chain l a = some m) (hl : l.length = 1) (h1 : a ≤ n) (h2 : n < m) : (way l n).1 = wy l 0 := by
  match l, hl with
  | [s], _ =>
    obtain ⟨e1, e2, h3⟩ := chain_cons h
    simp [chain] at h3
    unfold way wy
    rw [if_pos (by omega)]; rfl
/-- the tree of spans, wherever it lies in a greater one, leads each number of theirs its way, in few steps -/
theorem tre_find (n : Nat) : ∀ l : List Span, 0 < l.length → ∀ (pre post : List Node) (a m f s q : Nat), chain l a = some m → a ≤ n → n < m → 2 * l.length - 1 ≤ f → l.length ≤ 2 ^ q →
    ∃ d, d ≤ q ∧ fnd (pre ++ (tre l pre.length ++ post)) n f pre.length s = ((way l n).1, s + d) := by
  refine len_rec (fun l h pre post a m f s q hc h1 h2 hf _ => ?_) (fun l h ih1 ih2 pre post a m f s q hc h1 h2 hf hq => ?_)
  · refine ⟨0, Nat.zero_le _, ?_⟩
    rw [way_one hc h h1 h2, tre_one h, fnd_leaf n (by simp) (by omega) (by simp)]
    simp
  · obtain ⟨k, hk⟩ : ∃ k, k = l.length / 2 := ⟨_, rfl⟩
    have hsp : l = l.take k ++ l.drop k := (List.take_append_drop k l).symm
    have hc' := hc
    rw [hsp] at hc'
    obtain ⟨b, c1, c2⟩ := chain_split hc'
    have hlo : loAt l k = b := by
      have := chain_lo c2 (by rw [List.length_drop]; omega)
      rw [← this]; unfold loAt; rw [List.getElem?_drop, Nat.add_zero]
    have l1 := tre_len (l.take k) (by rw [List.length_take]; omega) (pre.length + 1)
    rw [List.length_take, Nat.min_eq_left (by omega)] at l1
    have e := tre_cons (a := pre.length) h
    rw [← hk] at ih1 ih2 e
    obtain ⟨f, rfl⟩ : ∃ g, f = g + 1 := ⟨f - 1, by omega⟩
    obtain ⟨q, rfl⟩ : ∃ g, q = g + 1 := ⟨q - 1, by
      cases q with
      | zero => simp at hq; omega
      | succ q => rfl⟩
    rw [Nat.pow_succ] at hq
    have hget : (pre ++ (tre l pre.length ++ post))[pre.length]? = some ⟨false, 0, loAt l k, (pre.length : Int) + 1, (pre.length : Int) + 1 + (2 * k - 1 : Nat)⟩ := by
      rw [List.getElem?_append_right (Nat.le_refl _), Nat.sub_self, e]; rfl
    unfold fnd
    rw [hget]
    dsimp only
    rw [if_neg (by simp)]
    unfold goes
    dsimp only
    by_cases hn : loAt l k ≤ n
    · rw [if_pos hn]
      obtain ⟨d, hd, he⟩ := ih2 (pre ++ (⟨false, 0, loAt l k, (pre.length : Int) + 1, (pre.length : Int) + 1 + (2 * k - 1 : Nat)⟩ :: tre (l.take k) (pre.length + 1))) post b m f (s + 1) q c2 (by omega) h2 (by rw [List.length_drop]; omega) (by rw [List.length_drop]; omega)
      refine ⟨d + 1, by omega, ?_⟩
      have hw : (way l n).1 = (way (l.drop k) n).1 := by
        conv => lhs; rw [hsp]
        rw [way_app, way_out c1 (by omega)]; rfl
      rw [hw]
      have ei : ((pre.length : Int) + 1 + (2 * k - 1 : Nat)).toNat = (pre ++ (⟨false, 0, loAt l k, (pre.length : Int) + 1, (pre.length : Int) + 1 + (2 * k - 1 : Nat)⟩ :: tre (l.take k) (pre.length + 1))).length := by
        rw [List.length_append, List.length_cons, l1]; omega
      have el : pre.length + 1 + (2 * k - 1) = (pre ++ (⟨false, 0, loAt l k, (pre.length : Int) + 1, (pre.length : Int) + 1 + (2 * k - 1 : Nat)⟩ :: tre (l.take k) (pre.length + 1))).length := by
        rw [List.length_append, List.length_cons, l1]; omega
      rw [ei, e, el]
      rw [show s + (d + 1) = s + 1 + d by omega, ← he]
      simp only [List.append_assoc, List.cons_append]
    · rw [if_neg hn]
      obtain ⟨d, hd, he⟩ := ih1 (pre ++ [⟨false, 0, loAt l k, (pre.length : Int) + 1, (pre.length : Int) + 1 + (2 * k - 1 : Nat)⟩]) (tre (l.drop k) (pre.length + 1 + (2 * k - 1)) ++ post) a b f (s + 1) q c1 h1 (by omega) (by rw [List.length_take]; omega) (by rw [List.length_take]; omega)
      refine ⟨d + 1, by omega, ?_⟩
      have hf := way_found c1 h1 (by omega : n < b)
      have hw : (way l n).1 = (way (l.take k) n).1 := by
        conv => lhs; rw [hsp]
        rw [way_app, if_pos hf]
      rw [hw]
      have ei : ((pre.length : Int) + 1).toNat = pre.length + 1 := by omega
      rw [ei, e]
      rw [List.length_append, List.length_singleton] at he
      rw [show s + (d + 1) = s + 1 + d by omega, ← he]
      simp only [List.append_assoc, List.cons_append, List.nil_append]
theorem tre_dep : ∀ l : List Span, 0 < l.length → ∀ (pre post : List Node) (f q : Nat), l.length ≤ 2 ^ q → dep (pre ++ (tre l pre.length ++ post)) f pre.length ≤ q := by
  refine len_rec (fun l h pre post f q _ => ?_) (fun l h ih1 ih2 pre post f q hq => ?_)
  · cases f with
    | zero => exact Nat.zero_le _
    | succ f =>
      unfold dep
      rw [List.getElem?_append_right (Nat.le_refl _), Nat.sub_self, tre_one h]
      simp
  · obtain ⟨k, hk⟩ : ∃ k, k = l.length / 2 := ⟨_, rfl⟩
    have l1 := tre_len (l.take k) (by rw [List.length_take]; omega) (pre.length + 1)
    rw [List.length_take, Nat.min_eq_left (by omega)] at l1
    have e := tre_cons (a := pre.length) h
    rw [← hk] at ih1 ih2 e
    cases f with
    | zero => exact Nat.zero_le _
    | succ f =>
      obtain ⟨q, rfl⟩ : ∃ g, q = g + 1 := ⟨q - 1, by
        cases q with
        | zero => simp at hq; omega
        | succ q => rfl⟩
      rw [Nat.pow_succ] at hq
      have hget : (pre ++ (tre l pre.length ++ post))[pre.length]? = some ⟨false, 0, loAt l k, (pre.length : Int) + 1, (pre.length : Int) + 1 + (2 * k - 1 : Nat)⟩ := by
        rw [List.getElem?_append_right (Nat.le_refl _), Nat.sub_self, e]; rfl
      unfold dep
      rw [hget]
      dsimp only
      rw [if_neg (by simp)]
      have d1 := ih1 (pre ++ [⟨false, 0, loAt l k, (pre.length : Int) + 1, (pre.length : Int) + 1 + (2 * k - 1 : Nat)⟩]) (tre (l.drop k) (pre.length + 1 + (2 * k - 1)) ++ post) f q (by rw [List.length_take]; omega)
      have d2 := ih2 (pre ++ (⟨false, 0, loAt l k, (pre.length : Int) + 1, (pre.length : Int) + 1 + (2 * k - 1 : Nat)⟩ :: tre (l.take k) (pre.length + 1))) post f q (by rw [List.length_drop]; omega)
      have el : pre.length + 1 + (2 * k - 1) = (pre ++ (⟨false, 0, loAt l k, (pre.length : Int) + 1, (pre.length : Int) + 1 + (2 * k - 1 : Nat)⟩ :: tre (l.take k) (pre.length + 1))).length := by
        rw [List.length_append, List.length_cons, l1]; omega
      have ei : ((pre.length : Int) + 1 + (2 * k - 1 : Nat)).toNat = pre.length + 1 + (2 * k - 1) := by omega
      have ej : ((pre.length : Int) + 1).toNat = pre.length + 1 := by omega
      rw [List.length_append, List.length_singleton] at d1
      rw [← el] at d2
      rw [ei, ej, e]
      simp only [List.append_assoc, List.cons_append, List.nil_append] at d1 d2 ⊢
      omega
/-- what Build answers -/
def buildA (l : List Span) : List Node × Int := if whole l = true then (tre l 0, 0) else ([], 240)
theorem whole_pos {l : List Span} (h : whole l = true) : 0 < l.length := by
  rcases l with _ | ⟨s, r⟩
  · rw [whole_nil] at h; cases h
  · simp
theorem build_find {l : List Span} (h : whole l = true) {n q : Nat} (hn : n < 4294967296) (hq : l.length ≤ 2 ^ q) : (findA (tre l 0) n).1 = (way l n).1 ∧ (findA (tre l 0) n).2 ≤ q := by
  have hp := whole_pos h
  obtain ⟨d, hd, he⟩ := tre_find n l hp [] [] 0 4294967296 (tre l 0).length 0 q ((whole_iff _).1 h) (Nat.zero_le _) hn (by rw [tre_len l hp]; exact Nat.le_refl _) hq
  unfold findA
  rw [if_pos (tre_may hp)]
  simp only [List.nil_append, List.append_nil, List.length_nil] at he
  rw [he]
  exact ⟨rfl, by simp only; omega⟩
theorem build_depth {l : List Span} (h : whole l = true) {q : Nat} (hq : l.length ≤ 2 ^ q) : depthA (tre l 0) ≤ q := by
  have hp := whole_pos h
  unfold depthA
  rw [if_pos (tre_may hp)]
  have := tre_dep l hp [] [] ((tre l 0).length) q hq
  simpa [dpt] using this
/-- the leaves' ways -/
def leaves (t : List Node) : List Int := (t.filter (·.leaf)).map (·.way)
theorem tre_leaves : ∀ l : List Span, 0 < l.length → ∀ a, leaves (tre l a) = wys l := by
  refine len_rec (fun l h a => ?_) (fun l h ih1 ih2 a => ?_)
  · rw [tre_one h]
    match l, h with
    | [s], _ => rfl
  · rw [tre_cons h]
    unfold leaves at *
    rw [List.filter_cons_of_neg (by simp), List.filter_append, List.map_append, ih1, ih2]
    unfold wys
    rw [← List.map_append, List.take_append_drop]
theorem way_first : ∀ {xs : List Span} {a m i n : Nat} (_ : chain xs a = some m) (hi : i < xs.length) (_ : xs[i].lo ≤ n) (_ : n ≤ xs[i].hi), way xs n = (xs[i].way, true)
  | s :: r, a, m, 0, n, h, _, h1, h2 => by unfold way; rw [if_pos ⟨h1, h2⟩]; rfl
  | s :: r, a, m, i + 1, n, h, hi, h1, h2 => by
    obtain ⟨e1, e2, h3⟩ := chain_cons h
    simp only [List.getElem_cons_succ] at h1 h2 ⊢
    have hb : ∀ {ys : List Span} {q m j : Nat}, chain ys q = some m → ∀ (hj : j < ys.length), q ≤ ys[j].lo := by
      intro ys
      induction ys with
      | nil => intro q m j _ hj; simp at hj
      | cons y ys ih =>
        intro q m j hc hj
        obtain ⟨f1, f2, f3⟩ := chain_cons hc
        cases j with
        | zero => simp; omega
        | succ j => have := ih f3 (by simpa using hj); simp; omega
    have := hb h3 (j := i) (by simpa using hi)
    unfold way
    rw [if_neg (by omega)]
    exact way_first h3 (by simpa using hi) h1 h2
theorem chain_next : ∀ {xs : List Span} {a m i : Nat} (_ : chain xs a = some m) (hi : i + 1 < xs.length), xs[i + 1].lo = xs[i].hi + 1 ∧ xs[i].lo ≤ xs[i].hi ∧ xs[i + 1].lo ≤ xs[i + 1].hi
  | s :: y :: r, a, m, 0, h, _ => by
    obtain ⟨e1, e2, h3⟩ := chain_cons h
    obtain ⟨e3, e4, _⟩ := chain_cons h3
    exact ⟨e3, e2, e4⟩
  | s :: r, a, m, i + 1, h, hi => by
    obtain ⟨e1, e2, h3⟩ := chain_cons h
    exact chain_next h3 (by simpa using hi)
theorem chain_le : ∀ {xs : List Span} {a m i : Nat} (_ : chain xs a = some m) (hi : i < xs.length), xs[i].lo ≤ xs[i].hi
  | s :: r, a, m, 0, h, _ => (chain_cons h).2.1
  | s :: r, a, m, i + 1, h, hi => chain_le (chain_cons h).2.2 (by simpa using hi)
end L24
end Go.Proofs.Ytkmhfjnjfghnjaa

/- Layer 21: the walk of the reference's Find. -/
namespace Go.Proofs.Ytkmhfjnjfghnjaa
open Go.RowKit V
namespace L21
set_option maxRecDepth 100000 in
set_option maxHeartbeats 400000 in
theorem refFind_calls (ar : Int) (df : Nat) (v : Value) (rs : List Rule) (nr : Nat) (hl : rs.length ≤ 140737488351232) (w : World) (hv : RdR w 3 (IsR w) v rs) :
    Calls Try.prog 23 #[.agg #[.int .i64 ar, v, .int .u32 (df : Int)], .int .u32 (nr : Int)] w fun e w' => e = .returned (.int .i64 (idxR nr rs 0)) ∧ Ext w w' := by
  obtain ⟨a, c, rfl, hac, hca⟩ := rdR_cell hv
  clear hv
  have Hhca := Lib.hid hca
  clear hca
  go_enter Try.func23, Try.ntmps23
  go_wp2_with fail
  obtain ⟨W1, hW1⟩ : ∃ W1, W1 = w.alloc (.cells #[.int .i64 ar, .slice a rs.length c, .int .u32 (df : Int)] 25) := ⟨_, rfl⟩
  have hx1 : Ext w W1 := by rw [hW1]; exact (Ext.refl _).alloc _
  have c1 : W1.cell? ⟨w.heap.size, 1, none⟩ = some (.slice a rs.length c) := by rw [hW1]; simp [go_sem]
  rw [← hW1]
  clear hW1
  have HX1 := Lib.hid hx1
  have HC1 := Lib.hid c1
  clear hx1 c1
  go_loopw [5] (fun i wr => ∃ k : Nat, k ≤ rs.length ∧ i = .int .i64 k ∧ Ext W1 wr ∧ idxR nr rs 0 = idxR nr (rs.drop k) k) (fun i _ => rs.length - (intOf i).toNat)
  case atStart => exact ⟨0, by omega, rfl, Ext.refl _, rfl⟩
  case round =>
    obtain ⟨k, hk, rfl, hx, heq⟩ := hrel
    have HX := Lib.hid hx
    have c1 := hx.cell HC1.out
    by_cases hlt : k < rs.length
    · obtain ⟨b, o, u, rfl, h1, -, -, -⟩ := Hhca.out k hlt
      replace h1 := (HX1.out.trans hx).cell h1
      rw [idxR_step hlt] at heq
      clear hx
      generalize rs[k]'hlt = t at *
      obtain ⟨rn, ts, ac⟩ := t
      dsimp only at *
      have hq : ((rn : Int) == (nr : Int)) = (rn == nr) := by rw [Bool.eq_iff_iff]; simp; omega
      cases hp : (rn == nr)
      all_goals
        rw [hp] at hq heq
        simp only [if_true, if_false, Bool.false_eq_true] at heq
        have Hheq := Lib.hid heq
        clear heq
        have Hhp := Lib.hid hp
        clear hp
        go_wp2_with (go_quiet (fail))
      · first
          | (go_roundw
             case rel => exact ⟨k + 1, by omega, by go_num, (by repeat (first | exact HX.out | apply Ext.drewN | apply Ext.alloc | apply Ext.drew)), Hheq.out⟩
             case measure => simp [intOf]; omega)
          | exact ⟨⟨k + 1, by omega, by go_num, (by repeat (first | exact HX.out | apply Ext.drewN | apply Ext.alloc | apply Ext.drew)), Hheq.out⟩, by simp [intOf]; omega⟩
      · go_ret
        exact ⟨by rw [Hheq.out]; rfl, HX1.out.trans (by repeat (first | exact HX.out | apply Ext.drewN | apply Ext.alloc | apply Ext.drew))⟩
    · obtain rfl : k = rs.length := by omega
      rw [idxR_end] at heq
      have Hheq := Lib.hid heq
      clear heq
      clear hx
      go_wp2
      go_ret
      exact ⟨by rw [Hheq.out]; rfl, HX1.out.trans HX.out⟩
end L21
end Go.Proofs.Ytkmhfjnjfghnjaa

