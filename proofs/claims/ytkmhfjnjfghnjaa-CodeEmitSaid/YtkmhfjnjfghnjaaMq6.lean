import Derived.Test.YtkmhfjnjfghnjaaMq1
import Derived.Test.YtkmhfjnjfghnjaaMq4
/- Layer 21: tests, rules and filters as plain data; how values in memory read as them; when two are the same. -/
namespace Go.Proofs.Ytkmhfjnjfghnjaa
open Go.RowKit V
namespace L21
structure Test where
  arg : Int
  mask : Nat
  value : Nat
  action : Nat
structure Rule where
  nr : Nat
  tests : List Test
  action : Nat
structure Filter where
  arch : Int
  rules : List Rule
  dflt : Nat
structure OkT (t : Test) : Prop where
  a1 : -9223372036854775808 ≤ t.arg
  a2 : t.arg ≤ 9223372036854775807
  m : t.mask < 18446744073709551616
  v : t.value < 18446744073709551616
  x : t.action < 4294967296
structure OkR (r : Rule) : Prop where
  n : r.nr < 4294967296
  x : r.action < 4294967296
  l : r.tests.length ≤ 140737488351232
  t : ∀ t ∈ r.tests, OkT t
structure OkF (f : Filter) : Prop where
  a1 : -9223372036854775808 ≤ f.arch
  a2 : f.arch ≤ 9223372036854775807
  d : f.dflt < 4294967296
  l : f.rules.length ≤ 140737488351232
  r : ∀ r ∈ f.rules, OkR r
def encT (t : Test) : List Value := [.int .i64 t.arg, .int .u64 (t.mask : Int), .int .u64 (t.value : Int), .int .u32 (t.action : Int)]
theorem encT_len (t : Test) : (encT t).length = 4 := rfl
theorem encT_one (t : Test) : ∀ u ∈ encT t, u.oneCell' = true := by
  intro u hu; simp [encT] at hu; rcases hu with rfl | rfl | rfl | rfl <;> rfl
/-- a rule's three cells -/
def IsR (w : World) (cs : List Value) (r : Rule) : Prop := ∃ v, cs = [.int .u32 (r.nr : Int), v, .int .u32 (r.action : Int)] ∧ Rd w 4 encT v r.tests
/-- a filter's value -/
def IsF (w : World) (v : Value) (f : Filter) : Prop := ∃ u, v = .agg #[.int .i64 f.arch, u, .int .u32 (f.dflt : Int)] ∧ RdR w 3 (IsR w) u f.rules
theorem IsR.ext {a w : World} (h : Ext a w) {cs : List Value} {r : Rule} (hr : IsR a cs r) : IsR w cs r := by
  obtain ⟨v, e, k⟩ := hr
  exact ⟨v, e, k.ext h⟩
theorem rdRR_ext {a w : World} (h : Ext a w) {v : Value} {rs : List Rule} (hr : RdR a 3 (IsR a) v rs) : RdR w 3 (IsR w) v rs := by
  obtain ⟨ad, c, h1, h2, h3, h4⟩ := hr
  refine ⟨ad, c, h1, h2, h3, fun i hi => ?_⟩
  obtain ⟨b, o, cs, e, hl, hat, hx⟩ := h4 i hi
  exact ⟨b, o, cs, e, hl, hat.ext h, hx.ext h⟩
theorem IsF.ext {a w : World} (h : Ext a w) {v : Value} {f : Filter} (hf : IsF a v f) : IsF w v f := by
  obtain ⟨u, e, k⟩ := hf
  exact ⟨u, e, rdRR_ext h k⟩
theorem rdT_cell {w : World} {v : Value} {ts : List Test} (h : Rd w 4 encT v ts) : ∃ a c, v = .slice a ts.length c ∧ ts.length ≤ c ∧ ∀ i, (hi : i < ts.length) → ∃ b o, a = some ⟨b, o, none⟩ ∧
    w.cell? ⟨b, o + i * 4, none⟩ = some (.int .i64 ts[i].arg) ∧ w.cell? ⟨b, o + i * 4 + 1, none⟩ = some (.int .u64 (ts[i].mask : Int)) ∧
    w.cell? ⟨b, o + i * 4 + 2, none⟩ = some (.int .u64 (ts[i].value : Int)) ∧ w.cell? ⟨b, o + i * 4 + 3, none⟩ = some (.int .u32 (ts[i].action : Int)) := by
  obtain ⟨a, c, h1, h2, h3, h4⟩ := h
  refine ⟨a, c, h1, h2, fun i hi => ?_⟩
  obtain ⟨b, o, e, k⟩ := h4 i hi
  exact ⟨b, o, e, k 0 (by simp [encT]), k 1 (by simp [encT]), k 2 (by simp [encT]), k 3 (by simp [encT])⟩
theorem rdR_cell {w : World} {v : Value} {rs : List Rule} (h : RdR w 3 (IsR w) v rs) : ∃ a c, v = .slice a rs.length c ∧ rs.length ≤ c ∧ ∀ i, (hi : i < rs.length) → ∃ b o u, a = some ⟨b, o, none⟩ ∧
    w.cell? ⟨b, o + i * 3, none⟩ = some (.int .u32 (rs[i].nr : Int)) ∧ w.cell? ⟨b, o + i * 3 + 1, none⟩ = some u ∧
    w.cell? ⟨b, o + i * 3 + 2, none⟩ = some (.int .u32 (rs[i].action : Int)) ∧ Rd w 4 encT u rs[i].tests := by
  obtain ⟨a, c, h1, h2, h3, h4⟩ := h
  refine ⟨a, c, h1, h2, fun i hi => ?_⟩
  obtain ⟨b, o, cs, e, hl, hat, u, rfl, hu⟩ := h4 i hi
  exact ⟨b, o, u, e, hat 0 (by simp), hat 1 (by simp), hat 2 (by simp), hu⟩
def sameT (a b : Test) : Bool := a.arg == b.arg && a.mask == b.mask && a.value == b.value && a.action == b.action
/-- element by element -/
def sameL {α β : Type} (f : α → β → Bool) : List α → List β → Bool
  | [], [] => true
  | x :: xs, y :: ys => f x y && sameL f xs ys
  | _, _ => false
def sameR (a b : Rule) : Bool := a.nr == b.nr && (a.action == b.action && sameL sameT a.tests b.tests)
def sameF (a b : Filter) : Bool := a.arch == b.arch && (a.dflt == b.dflt && sameL sameR a.rules b.rules)
theorem sameL_len {α β : Type} {f : α → β → Bool} : ∀ {xs : List α} {ys : List β}, xs.length ≠ ys.length → sameL f xs ys = false
  | [], [], h => absurd rfl h
  | [], _ :: _, _ => rfl
  | _ :: _, [], _ => rfl
  | _ :: xs, _ :: ys, h => by simp only [sameL, sameL_len (xs := xs) (ys := ys) (fun e => h (by simp [e])), Bool.and_false]
theorem sameL_step {α β : Type} {f : α → β → Bool} {xs : List α} {ys : List β} {k : Nat} (h : k < xs.length) (h' : k < ys.length) :
    sameL f (xs.drop k) (ys.drop k) = (f xs[k] ys[k] && sameL f (xs.drop (k + 1)) (ys.drop (k + 1))) := by
  rw [List.drop_eq_getElem_cons h, List.drop_eq_getElem_cons h']; rfl
theorem sameL_end {α β : Type} {f : α → β → Bool} {xs : List α} {ys : List β} (h : xs.length = ys.length) : sameL f (xs.drop xs.length) (ys.drop xs.length) = true := by
  rw [List.drop_eq_nil_of_le (Nat.le_refl _), List.drop_eq_nil_of_le (by omega)]; rfl
theorem sameL_refl {α : Type} {f : α → α → Bool} (hf : ∀ x, f x x = true) : ∀ xs : List α, sameL f xs xs = true
  | [] => rfl
  | x :: xs => by simp [sameL, hf x, sameL_refl hf xs]
theorem sameT_refl (t : Test) : sameT t t = true := by simp [sameT]
theorem sameR_refl (r : Rule) : sameR r r = true := by simp [sameR, sameL_refl sameT_refl]
theorem sameF_refl (f : Filter) : sameF f f = true := by simp [sameF, sameL_refl sameR_refl]
/-- how many rules and tests there are, up to some rule -/
def size (rs : List Rule) : Nat := (rs.map fun r => 1 + r.tests.length).sum
def great : Nat → List Rule → Bool
  | _, [] => false
  | n, r :: rs => if 1000 < n + 1 + r.tests.length then true else great (n + 1 + r.tests.length) rs
end L21
end Go.Proofs.Ytkmhfjnjfghnjaa

