/- Layer 21: rules as pairs of what they say and where their tests lie; rows of them in memory; plain laws on one rule set in place of another. -/
import Derived.Test.YtkmhfjnjfghnjaaIrR
import Derived.Test.YtkmhfjnjfghnjaaApp
namespace Go.Proofs.Ytkmhfjnjfghnjaa
open Go.RowKit V
namespace L21
open L25 (Dat datV OkD)
structure PR where
  r : Rule
  a : Option Addr
  c : Nat
def PR.v (p : PR) : Value := .slice p.a p.r.tests.length p.c
def encP (p : PR) : List Value := [.int .u32 (p.r.nr : Int), p.v, .int .u32 (p.r.action : Int)]
theorem encP_len (p : PR) : (encP p).length = 3 := rfl
theorem encP_one (p : PR) : ∀ u ∈ encP p, u.oneCell' = true := by
  intro u hu; simp [encP, PR.v] at hu; rcases hu with rfl | rfl | rfl <;> rfl
def GoodP (w : World) (p : PR) : Prop := Rd w 4 encT p.v p.r.tests
theorem GoodP.ext {a w : World} (h : Ext a w) {p : PR} (hp : GoodP a p) : GoodP w p := Rd.ext h hp
theorem infoR9 : (Try.prog.info? 34).map (fun i => (i.zero, i.size, i.bytes)) = some (some (.agg #[.int .u32 0, .slice none 0 0, .int .u32 0]), 3, 40) := by kernel_rfl
theorem rdRR_of {w : World} {v : Value} {ps : List PR} (h : Rd w 3 encP v ps) (hg : ∀ p ∈ ps, GoodP w p) : RdR w 3 (IsR w) v (ps.map PR.r) := by
  obtain ⟨a, c, h1, h2, h3, h4⟩ := h
  refine ⟨a, c, by rw [h1, List.length_map], by rw [List.length_map]; exact h2, h3, fun i hi => ?_⟩
  rw [List.length_map] at hi
  obtain ⟨b, o, e, hat⟩ := h4 i hi
  refine ⟨b, o, encP ps[i], e, rfl, hat, ps[i].v, ?_, ?_⟩
  · rw [List.getElem_map]; rfl
  · rw [List.getElem_map]; exact hg _ (List.getElem_mem hi)
theorem of_rdRR {w : World} {v : Value} {rs : List Rule} (h : RdR w 3 (IsR w) v rs) : ∃ ps : List PR, ps.map PR.r = rs ∧ Rd w 3 encP v ps ∧ ∀ p ∈ ps, GoodP w p := by
  obtain ⟨a, c, h1, h2, h3, h4⟩ := h
  have each : ∀ i, i < rs.length → ∃ p : PR, p.r = rs.getD i ⟨0, [], 0⟩ ∧ GoodP w p ∧ ∃ b o, a = some ⟨b, o, none⟩ ∧ At w b (o + i * 3) (encP p) := by
    intro i hi
    obtain ⟨b, o, cs, e, hl, hat, u, rfl, hu⟩ := h4 i hi
    have hu2 := hu
    obtain ⟨a', c', rfl, -⟩ := hu
    refine ⟨⟨rs[i], a', c'⟩, ?_, hu2, b, o, e, hat⟩
    rw [List.getD_eq_getElem?_getD, List.getElem?_eq_getElem hi]; rfl
  have pick : ∃ g : Nat → PR, ∀ i, i < rs.length → (g i).r = rs.getD i ⟨0, [], 0⟩ ∧ GoodP w (g i) ∧ ∃ b o, a = some ⟨b, o, none⟩ ∧ At w b (o + i * 3) (encP (g i)) := by
    classical
    refine ⟨fun i => if hi : i < rs.length then (each i hi).choose else ⟨⟨0, [], 0⟩, none, 0⟩, fun i hi => ?_⟩
    simp only [hi, dif_pos]
    exact (each i hi).choose_spec
  obtain ⟨g, hg⟩ := pick
  refine ⟨(List.range rs.length).map g, ?_, ⟨a, c, by simpa using h1, by simpa using h2, h3, fun i hi => ?_⟩, fun p hp => ?_⟩
  · apply List.ext_getElem (by simp)
    intro i hi hi'
    rw [List.getElem_map, List.getElem_map, List.getElem_range, (hg i hi').1, List.getD_eq_getElem?_getD, List.getElem?_eq_getElem hi']; rfl
  · simp only [List.length_map, List.length_range] at hi
    obtain ⟨-, -, b, o, e, hat⟩ := hg i hi
    refine ⟨b, o, e, ?_⟩
    rw [List.getElem_map, List.getElem_range]; exact hat
  · obtain ⟨i, hi, rfl⟩ := List.mem_map.1 hp
    exact (hg i (List.mem_range.1 hi)).2.1
/-- a slice of tests that lies in a block of its own, from some block on -/
def OwnT (w : World) (base : Nat) (p : PR) : Prop := (p.a = none ∧ p.r.tests = []) ∨ ∃ g cur, p.a = some ⟨g, 0, none⟩ ∧ base ≤ g ∧ w.heap[g]? = some (.cells cur 37 (0, 0))
theorem OwnT.base {w : World} {b b' : Nat} {p : PR} (h : OwnT w b p) (hb : b' ≤ b) : OwnT w b' p := by
  rcases h with h | ⟨g, cur, h1, h2, h3⟩
  · exact .inl h
  · exact .inr ⟨g, cur, h1, by omega, h3⟩
theorem OwnT.ext {a w : World} (h : Ext a w) {b : Nat} {p : PR} (hp : OwnT a b p) : OwnT w b p := by
  rcases hp with hp | ⟨g, cur, h1, h2, h3⟩
  · exact .inl hp
  · exact .inr ⟨g, cur, h1, h2, (h.block (Array.getElem?_eq_some_iff.1 h3).1).trans h3⟩
theorem denL_at {d : Dat} {df : Nat} : ∀ {rs : List Rule} {i : Nat} (hi : i < rs.length), rs[i].nr = d.nr → (∀ k (h : k < i), rs[k].nr ≠ d.nr) → denL d df rs = fstA d rs[i].tests rs[i].action
  | r :: l, 0, _, h, _ => by
    rw [denL_cons, if_pos (by simpa using h)]; rfl
  | r :: l, i + 1, hi, h, hk => by
    rw [denL_cons, if_neg (by have := hk 0 (by omega); simpa using this)]
    have hi' : i < l.length := by simpa using hi
    exact denL_at (rs := l) (i := i) hi' h (fun k hlt => hk (k + 1) (by omega))
theorem denL_set {d : Dat} {df : Nat} {r : Rule} : ∀ {rs : List Rule} {i : Nat} (hi : i < rs.length), r.nr = rs[i].nr → d.nr ≠ r.nr → denL d df (rs.set i r) = denL d df rs
  | s :: l, 0, _, h, hn => by
    have h' : r.nr = s.nr := h
    rw [List.set_cons_zero, denL_cons, denL_cons, if_neg (by simp; omega), if_neg (by simp; omega)]
  | s :: l, i + 1, hi, h, hn => by
    rw [List.set_cons_succ, denL_cons, denL_cons, denL_set (rs := l) (i := i) (by simpa using hi) h hn]
theorem fstA_behind {d : Dat} {t : Test} {x : Nat} : ∀ {ts : List Test}, (!holdP d t || ts.any (holdP d)) = true → fstA d (ts ++ [t]) x = fstA d ts x
  | [], h => by
    have h' : holdP d t = false := by simpa using h
    rw [List.nil_append, fstA_cons, h']; rfl
  | s :: l, h => by
    rw [List.cons_append, fstA_cons, fstA_cons]
    cases hs : holdP d s
    · rw [List.any_cons, hs, Bool.false_or] at h
      rw [fstA_behind h]
    · rfl
theorem great_len : ∀ {rs : List Rule} {n : Nat}, great n rs = false → n ≤ 1000 → n + rs.length ≤ 1000 ∧ ∀ r ∈ rs, r.tests.length ≤ 1000
  | [], n, _, h2 => ⟨by simpa using h2, fun r hr => by cases hr⟩
  | r :: l, n, h, h2 => by
    unfold great at h
    split at h
    · cases h
    · rename_i hlt
      obtain ⟨h3, h4⟩ := great_len h (by omega)
      refine ⟨by simp; omega, fun s hs => ?_⟩
      cases hs with
      | head => omega
      | tail _ hs => exact h4 s hs
theorem great_bd {rs : List Rule} (h : great 0 rs = false) : rs.length ≤ 1000 ∧ ∀ r ∈ rs, r.tests.length ≤ 1000 := by
  have := great_len h (by omega)
  exact ⟨by omega, this.2⟩
end L21
end Go.Proofs.Ytkmhfjnjfghnjaa
