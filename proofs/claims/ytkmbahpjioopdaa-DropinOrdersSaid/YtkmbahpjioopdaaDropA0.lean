/- Layer 14, plain: which files count, in which order. -/
import Derived.Test.YtkmbahpjioopdaaLineA
import Derived.Sort.Walk0
namespace Go.Proofs.Ytkmbahpjioopdaa
namespace L12
/-- a file: its name, Dir, bytes -/
abbrev Fl := List UInt8 × Int × List UInt8
def lt (a b : List UInt8) : Bool := Op.bytesLess a b
theorem lt_iff (a b : List UInt8) : lt a b = true ↔ a < b := by unfold lt; rw [bytesLess_eq, decide_eq_true_iff]
theorem lt_irr (a : List UInt8) : lt a a = false := by
  cases h : lt a a
  · rfl
  · exact absurd ((lt_iff a a).1 h) (List.lt_irrefl a)
theorem lt_trans {a b c : List UInt8} (h : lt a b = true) (k : lt b c = true) : lt a c = true := (lt_iff a c).2 (List.lt_trans ((lt_iff a b).1 h) ((lt_iff b c).1 k))
theorem lt_asym {a b : List UInt8} (h : lt a b = true) : lt b a = false := by
  cases k : lt b a
  · rfl
  · have := lt_trans h k; rw [lt_irr] at this; cases this
theorem lt_tot {a b : List UInt8} (h : lt a b = false) (k : lt b a = false) : a = b := by
  have h1 : ¬ a < b := fun x => by rw [(lt_iff a b).2 x] at h; cases h
  have h2 : ¬ b < a := fun x => by rw [(lt_iff b a).2 x] at k; cases k
  exact List.le_antisymm (List.not_lt.1 h2) (List.not_lt.1 h1)
theorem lt_of {a b : List UInt8} (h : lt a b = false) (hne : a ≠ b) : lt b a = true := by
  cases k : lt b a
  · exact absurd (lt_tot h k) hne
  · rfl
def mayC (c : UInt8) : Bool := decide (33 ≤ c.toNat) && decide (c.toNat ≤ 126) && !(c == 47)
def mayN (l : List UInt8) : Bool := decide (6 ≤ l.length) && decide (l.length ≤ 60) && Lib.hasSuffix l [46, 99, 111, 110, 102] && l.all mayC
/-- of the first k files, the i-th counts: it's f -/
def WinK (fs : List Fl) (k i : Nat) (f : Fl) : Prop := i < k ∧ fs[i]? = some f ∧ ∀ j g, j < k → fs[j]? = some g → g.1 = f.1 → f.2.1 < g.2.1 ∨ f.2.1 = g.2.1 ∧ i ≤ j
abbrev Win (fs : List Fl) := WinK fs fs.length
abbrev Srt (L : List Fl) : Prop := L.Pairwise (fun a b => lt a.1 b.1 = true)
/-- L: what counts among the first i, in order -/
def OrdK (fs : List Fl) (i : Nat) (L : List Fl) : Prop := Srt L ∧ ∀ f, f ∈ L ↔ ∃ j, j < i ∧ Win fs j f
abbrev OrdOk (fs L : List Fl) : Prop := OrdK fs fs.length L
theorem srt_ext : ∀ {L M : List Fl}, Srt L → Srt M → (∀ f, f ∈ L ↔ f ∈ M) → L = M
  | [], [], _, _, _ => rfl
  | [], b :: M, _, _, h => by have := (h b).2 (by simp); cases this
  | a :: L, [], _, _, h => by have := (h a).1 (by simp); cases this
  | a :: L, b :: M, h1, h2, h => by
    obtain ⟨p1, q1⟩ := List.pairwise_cons.1 h1
    obtain ⟨p2, q2⟩ := List.pairwise_cons.1 h2
    have hab : a = b := by
      rcases List.mem_cons.1 ((h a).1 (by simp)) with e | e
      · exact e
      · rcases List.mem_cons.1 ((h b).2 (by simp)) with e' | e'
        · exact e'.symm
        · have x := p2 a e
          rw [lt_asym (p1 b e')] at x
          cases x
    subst hab
    rw [srt_ext q1 q2 (fun f => ⟨fun hf => by
      rcases List.mem_cons.1 ((h f).1 (List.mem_cons_of_mem _ hf)) with e | e
      · subst e; have := p1 f hf; rw [lt_irr] at this; cases this
      · exact e, fun hf => by
      rcases List.mem_cons.1 ((h f).2 (List.mem_cons_of_mem _ hf)) with e | e
      · subst e; have := p2 f hf; rw [lt_irr] at this; cases this
      · exact e⟩)]
theorem ord_uniq {fs L M : List Fl} {i : Nat} (h : OrdK fs i L) (k : OrdK fs i M) : L = M := srt_ext h.1 k.1 (fun f => (h.2 f).trans (k.2 f).symm)
/-- winners of one name are one -/
theorem win_inj {fs : List Fl} {k i j : Nat} {f g : Fl} (h : WinK fs k i f) (l : WinK fs k j g) (e : f.1 = g.1) : i = j ∧ f = g := by
  obtain ⟨h1, h2, h3⟩ := h
  obtain ⟨l1, l2, l3⟩ := l
  have a := h3 j g l1 l2 e.symm
  have b := l3 i f h1 h2 e
  have : i = j := by omega
  subst this
  rw [h2] at l2
  exact ⟨rfl, Option.some.inj l2⟩
theorem ord_step_no {fs L : List Fl} {i : Nat} (h : OrdK fs i L) (hn : ∀ f, ¬ Win fs i f) : OrdK fs (i + 1) L :=
  ⟨h.1, fun f => (h.2 f).trans ⟨fun ⟨j, a, b⟩ => ⟨j, by omega, b⟩, fun ⟨j, a, b⟩ => by
    by_cases e : j = i
    · subst e; exact absurd b (hn f)
    · exact ⟨j, by omega, b⟩⟩⟩
theorem ord_ne {fs L : List Fl} {i : Nat} (h : OrdK fs i L) {f : Fl} (hw : Win fs i f) : ∀ g ∈ L, g.1 ≠ f.1 := fun g hg e => by
  obtain ⟨j, a, b⟩ := (h.2 g).1 hg
  have := (win_inj b hw e).1
  omega
theorem ord_step_yes {fs A B : List Fl} {i : Nat} {f : Fl} (h : OrdK fs i (A ++ B)) (hw : Win fs i f) (hB : ∀ b ∈ B, lt f.1 b.1 = true) (hA : ∀ a, A.getLast? = some a → lt f.1 a.1 = false) : OrdK fs (i + 1) (A ++ f :: B) := by
  have hne := ord_ne h hw
  obtain ⟨p1, p2, p3⟩ := List.pairwise_append.1 h.1
  refine ⟨List.pairwise_append.2 ⟨p1, List.pairwise_cons.2 ⟨hB, p2⟩, ?_⟩, fun g => ?_⟩
  · have hAf : ∀ a ∈ A, lt a.1 f.1 = true := by
      intro a ha
      rcases List.eq_nil_or_concat A with e | ⟨A', z, e⟩
      · subst e; cases ha
      · subst e
        have hz : lt z.1 f.1 = true := lt_of (hA z (by simp)) (fun e => hne z (by simp) e.symm)
        rcases List.mem_append.1 (by simpa using ha : a ∈ A' ++ [z]) with q | q
        · simp only [List.concat_eq_append] at p1
          exact lt_trans ((List.pairwise_append.1 p1).2.2 a q z (by simp)) hz
        · simp at q; subst q; exact hz
    intro a ha b hb
    rcases List.mem_cons.1 hb with e | e
    · subst e; exact hAf a ha
    · exact p3 a ha b e
  · constructor
    · intro hg
      rcases List.mem_append.1 hg with q | q
      · obtain ⟨j, a, b⟩ := (h.2 g).1 (List.mem_append_left _ q)
        exact ⟨j, by omega, b⟩
      · rcases List.mem_cons.1 q with e | e
        · subst e; exact ⟨i, by omega, hw⟩
        · obtain ⟨j, a, b⟩ := (h.2 g).1 (List.mem_append_right _ e)
          exact ⟨j, by omega, b⟩
    · rintro ⟨j, a, b⟩
      by_cases e : j = i
      · subst e
        obtain ⟨-, q1, -⟩ := b
        obtain ⟨-, q2, -⟩ := hw
        rw [q1] at q2
        obtain rfl := Option.some.inj q2
        simp
      · rcases List.mem_append.1 ((h.2 g).2 ⟨j, by omega, b⟩) with q | q <;> simp [q]
theorem ord_start (fs : List Fl) : OrdK fs 0 [] := ⟨List.Pairwise.nil, fun f => ⟨fun h => (by cases h), fun ⟨j, a, _⟩ => (by omega)⟩⟩
/-- does the i-th count? -/
def winB (fs : List Fl) (i : Nat) (f : Fl) : Bool := (List.range fs.length).all fun j => match fs[j]? with | none => true | some g => !(g.1 == f.1) || decide (f.2.1 < g.2.1) || (decide (f.2.1 = g.2.1) && decide (i ≤ j))
theorem winB_iff {fs : List Fl} {i : Nat} {f : Fl} (hf : fs[i]? = some f) : winB fs i f = true ↔ Win fs i f := by
  have hi : i < fs.length := (List.getElem?_eq_some_iff.1 hf).1
  unfold winB Win WinK
  rw [List.all_eq_true]
  constructor
  · intro h
    refine ⟨hi, hf, fun j g hj hg e => ?_⟩
    have := h j (List.mem_range.2 hj)
    rw [hg] at this
    simpa [e] using this
  · rintro ⟨-, -, h⟩ j hj
    have hj' := List.mem_range.1 hj
    have hg : fs[j]? = some fs[j] := List.getElem?_eq_getElem hj'
    have := h j _ hj' hg
    rw [hg]
    by_cases e : fs[j].1 = f.1
    · simpa [e] using this e
    · simp [e]
def insL (f : Fl) : List Fl → List Fl
  | [] => [f]
  | g :: l => if lt f.1 g.1 = true then f :: g :: l else g :: insL f l
theorem insL_split (f : Fl) : ∀ L : List Fl, Srt L → ∃ A B, L = A ++ B ∧ insL f L = A ++ f :: B ∧ (∀ b ∈ B, lt f.1 b.1 = true) ∧ ∀ a, A.getLast? = some a → lt f.1 a.1 = false
  | [], _ => ⟨[], [], rfl, rfl, by simp, by simp⟩
  | g :: l, h => by
    obtain ⟨h1, h2⟩ := List.pairwise_cons.1 h
    unfold insL
    by_cases e : lt f.1 g.1 = true
    · rw [if_pos e]
      refine ⟨[], g :: l, rfl, rfl, fun b hb => ?_, by simp⟩
      rcases List.mem_cons.1 hb with q | q
      · subst q; exact e
      · exact lt_trans e (h1 b q)
    · rw [if_neg e]
      obtain ⟨A, B, q1, q2, q3, q4⟩ := insL_split f l h2
      refine ⟨g :: A, B, by rw [q1]; rfl, by rw [q2]; rfl, q3, fun a ha => ?_⟩
      rw [List.getLast?_cons] at ha
      cases hA : A.getLast? with
      | none =>
        rw [hA] at ha
        simp at ha
        subst ha
        simpa using e
      | some z =>
        rw [hA] at ha
        simp at ha
        subst ha
        exact q4 z hA
def ordStep (fs L : List Fl) (i : Nat) : List Fl := match fs[i]? with | none => L | some f => if winB fs i f = true then insL f L else L
def ordL (fs : List Fl) : List Fl := (List.range fs.length).foldl (ordStep fs) []
theorem ord_foldl (fs : List Fl) : ∀ i, i ≤ fs.length → OrdK fs i ((List.range i).foldl (ordStep fs) [])
  | 0, _ => ord_start fs
  | i + 1, hi => by
    have ih := ord_foldl fs i (by omega)
    rw [List.range_succ, List.foldl_append]
    generalize (List.range i).foldl (ordStep fs) [] = L at *
    have hf : fs[i]? = some fs[i] := List.getElem?_eq_getElem (by omega)
    show OrdK fs (i + 1) (ordStep fs L i)
    unfold ordStep
    rw [hf]
    show OrdK fs (i + 1) (if winB fs i fs[i] = true then insL fs[i] L else L)
    by_cases hw : winB fs i fs[i] = true
    · rw [if_pos hw]
      obtain ⟨A, B, rfl, q2, q3, q4⟩ := insL_split fs[i] L ih.1
      rw [q2]
      exact ord_step_yes ih ((winB_iff hf).1 hw) q3 q4
    · rw [if_neg hw]
      refine ord_step_no ih (fun f hW => ?_)
      have := hW.2.1
      rw [hf] at this
      obtain rfl := Option.some.inj this
      exact hw ((winB_iff hf).2 hW)
theorem ordL_ok (fs : List Fl) : OrdOk fs (ordL fs) := ord_foldl fs fs.length (Nat.le_refl _)
theorem ordL_eq {fs L : List Fl} (h : OrdOk fs L) : L = ordL fs := ord_uniq h (ordL_ok fs)
theorem ordL_len (fs : List Fl) : (ordL fs).length ≤ fs.length := by
  have : ∀ i, ((List.range i).foldl (ordStep fs) []).length ≤ i := by
    intro i
    induction i with
    | zero => simp
    | succ i ih =>
      rw [List.range_succ, List.foldl_append]
      generalize (List.range i).foldl (ordStep fs) [] = L at *
      show (ordStep fs L i).length ≤ i + 1
      have hin : ∀ (f : Fl) (L : List Fl), (insL f L).length = L.length + 1 := by
        intro f L
        induction L with
        | nil => rfl
        | cons g l ih => unfold insL; split <;> simp [ih]
      unfold ordStep
      split
      · omega
      · split
        · rw [hin]; omega
        · omega
  exact this _
/-- what the map holds after k files -/
def MapK (fs : List Fl) (k : Nat) (m : List UInt8 → Option Fl) : Prop :=
  ∀ x, match m x with
    | none => ∀ i f, i < k → fs[i]? = some f → f.1 ≠ x
    | some f => f.1 = x ∧ ∃ i, WinK fs k i f
theorem map_start (fs : List Fl) : MapK fs 0 (fun _ => none) := fun x i f h => by omega
theorem map_put {fs : List Fl} {k : Nat} {m : List UInt8 → Option Fl} {f : Fl} (h : MapK fs k m) (hf : fs[k]? = some f) (hd : ∀ g, m f.1 = some g → f.2.1 < g.2.1) : MapK fs (k + 1) (fun x => if x = f.1 then some f else m x) := by
  intro x
  have hx := h x
  by_cases e : x = f.1
  · subst e
    simp only [if_true]
    refine ⟨trivial, k, by omega, hf, fun j g hj hg e => ?_⟩
    by_cases ej : j = k
    · subst ej
      rw [hf] at hg
      obtain rfl := Option.some.inj hg
      exact .inr ⟨rfl, Nat.le_refl _⟩
    · left
      cases hm : m f.1 with
      | none => rw [hm] at hx; exact absurd e (hx j g (by omega) hg)
      | some z =>
        rw [hm] at hx
        obtain ⟨z1, i, w1, w2, w3⟩ := hx
        have a := hd z hm
        have b := w3 j g (by omega) hg (e.trans z1.symm)
        omega
  · simp only [if_neg e]
    cases hm : m x with
    | none =>
      rw [hm] at hx
      intro i g hi hg
      by_cases ei : i = k
      · subst ei
        rw [hf] at hg
        obtain rfl := Option.some.inj hg
        exact fun q => e q.symm
      · exact hx i g (by omega) hg
    | some z =>
      rw [hm] at hx
      obtain ⟨z1, i, w1, w2, w3⟩ := hx
      refine ⟨z1, i, by omega, w2, fun j g hj hg eg => ?_⟩
      by_cases ej : j = k
      · subst ej
        rw [hf] at hg
        obtain rfl := Option.some.inj hg
        exact absurd (eg.trans z1) (fun q => e q.symm)
      · exact w3 j g (by omega) hg eg
theorem map_skip {fs : List Fl} {k : Nat} {m : List UInt8 → Option Fl} {f g : Fl} (h : MapK fs k m) (hf : fs[k]? = some f) (hg : m f.1 = some g) (hd : ¬ f.2.1 < g.2.1) : MapK fs (k + 1) m := by
  intro x
  have hx := h x
  cases hm : m x with
  | none =>
    rw [hm] at hx
    intro i z hi hz
    by_cases ei : i = k
    · subst ei
      rw [hf] at hz
      obtain rfl := Option.some.inj hz
      intro q
      rw [← q, hg] at hm
      cases hm
    · exact hx i z (by omega) hz
  | some z =>
    rw [hm] at hx
    obtain ⟨z1, i, w1, w2, w3⟩ := hx
    refine ⟨z1, i, by omega, w2, fun j y hj hy ey => ?_⟩
    by_cases ej : j = k
    · subst ej
      rw [hf] at hy
      obtain rfl := Option.some.inj hy
      have : m f.1 = some z := by rw [ey, z1]; exact hm
      rw [hg] at this
      obtain rfl := Option.some.inj this
      omega
    · exact w3 j y (by omega) hy ey
/-- the map's values, sorted, are what counts, in order -/
theorem map_ord {fs L : List Fl} {m : List UInt8 → Option Fl} (h : MapK fs fs.length m) (hs : Srt L) (hm : ∀ f, f ∈ L ↔ m f.1 = some f) : OrdOk fs L := by
  refine ⟨hs, fun f => (hm f).trans ⟨fun e => ?_, fun ⟨i, hi, hw⟩ => ?_⟩⟩
  · have := h f.1
    rw [e] at this
    obtain ⟨-, i, hw⟩ := this
    exact ⟨i, hw.1, hw⟩
  · have := h f.1
    cases e : m f.1 with
    | none =>
      rw [e] at this
      exact absurd rfl (this i f hi hw.2.1)
    | some z =>
      rw [e] at this
      obtain ⟨z1, j, hz⟩ := this
      rw [(win_inj hz hw z1).2]
end L12
end Go.Proofs.Ytkmbahpjioopdaa
