/- Layer 21: what the law IrNormal's own writes leave of a normal form in memory of its own. -/
import Derived.Test.YtkmhfjnjfghnjaaIsI
namespace Go.Proofs.Ytkmhfjnjfghnjaa
open Go.RowKit V
namespace L21
/-- a normal form in a box G, its rows in memory behind wb: a number at each place that is added to -/
structure WN (wb : World) (G : Nat) (a : Option Addr) (c : Nat) (ps : List PR) (W : World) : Prop where
  ext : Ext wb W
  hG : wb.heap.size ≤ G
  g1 : W.cell? ⟨G, 1, none⟩ = some (.slice a ps.length c)
  row : ∀ i (h : i < ps.length), ∃ gb, a = some ⟨gb, 0, none⟩ ∧ wb.heap.size ≤ gb ∧ gb ≠ G ∧ (∃ n : Int, W.cell? ⟨gb, i * 3, none⟩ = some (.int .u32 n)) ∧ W.cell? ⟨gb, i * 3 + 1, none⟩ = some (ps[i]).v ∧ W.frozen? ⟨gb, i * 3, none⟩ = false
  tst : ∀ i (h : i < ps.length) k (_ : k < (ps[i]).r.tests.length), ∃ tb, (ps[i]).a = some ⟨tb, 0, none⟩ ∧ wb.heap.size ≤ tb ∧ tb ≠ G ∧ a ≠ some ⟨tb, 0, none⟩ ∧ (∃ n : Int, W.cell? ⟨tb, k * 4 + 2, none⟩ = some (.int .u64 n)) ∧ W.frozen? ⟨tb, k * 4 + 2, none⟩ = false
theorem set_far {w : World} {B C i j : Nat} (u : Value) (h : B ≠ C) : (w.setCell ⟨B, i, none⟩ u).cell? ⟨C, j, none⟩ = w.cell? ⟨C, j, none⟩ := World.cell?_setCell_far _ _ _ _ h
theorem WN.nr {wb : World} {G : Nat} {a : Option Addr} {c : Nat} {ps : List PR} {W : World} (h : WN wb G a c ps W) {i gb : Nat} (hi : i < ps.length) (ha : a = some ⟨gb, 0, none⟩) (u : Int) : WN wb G a c ps (W.setCell ⟨gb, i * 3, none⟩ (.int .u32 u)) := by
  obtain ⟨gb', e, h1, h2, ⟨n0, h3⟩, h4, h5⟩ := h.row i hi
  rw [ha] at e
  simp only [Option.some.injEq, Addr.mk.injEq, and_true] at e
  subst e
  refine ⟨h.ext.setCell h1 _, h.hG, by rw [set_far _ h2]; exact h.g1, fun i' hi' => ?_, fun i' hi' k hk => ?_⟩
  · obtain ⟨gb', e, k1, k2, ⟨n, k3⟩, k4, k5⟩ := h.row i' hi'
    rw [ha] at e
    simp only [Option.some.injEq, Addr.mk.injEq, and_true] at e
    subst e
    refine ⟨gb, ha, k1, k2, ?_, by rw [set_ne _ (by omega)]; exact k4, (World.frozen?_setCell _ _ _ _).trans k5⟩
    by_cases hii : i = i'
    · subst hii; exact ⟨u, World.cell?_setCell_same' _ _ _ (by rw [h3]; rfl)⟩
    · exact ⟨n, by rw [set_ne _ (by omega)]; exact k3⟩
  · obtain ⟨tb, k1, k2, k3, k4, ⟨n, k5⟩, k6⟩ := h.tst i' hi' k hk
    have hne : gb ≠ tb := fun e => k4 (by rw [ha, e])
    exact ⟨tb, k1, k2, k3, k4, ⟨n, by rw [set_far _ hne]; exact k5⟩, (World.frozen?_setCell _ _ _ _).trans k6⟩
theorem WN.val {wb : World} {G : Nat} {a : Option Addr} {c : Nat} {ps : List PR} {W : World} (h : WN wb G a c ps W) {i k tb : Nat} (hi : i < ps.length) (hk : k < (ps[i]).r.tests.length) (ha : (ps[i]).a = some ⟨tb, 0, none⟩) (u : Int) :
    WN wb G a c ps (W.setCell ⟨tb, k * 4 + 2, none⟩ (.int .u64 u)) := by
  obtain ⟨tb', e, h1, h2, h3, ⟨n0, h4⟩, h5⟩ := h.tst i hi k hk
  rw [ha] at e
  simp only [Option.some.injEq, Addr.mk.injEq, and_true] at e
  subst e
  refine ⟨h.ext.setCell h1 _, h.hG, by rw [set_far _ h2]; exact h.g1, fun i' hi' => ?_, fun i' hi' k' hk' => ?_⟩
  · obtain ⟨gb, e, k1, k2, ⟨n, k3⟩, k4, k5⟩ := h.row i' hi'
    have hne : tb ≠ gb := fun e' => h3 (by rw [e, e'])
    exact ⟨gb, e, k1, k2, ⟨n, by rw [set_far _ hne]; exact k3⟩, by rw [set_far _ hne]; exact k4, (World.frozen?_setCell _ _ _ _).trans k5⟩
  · obtain ⟨tb', k1, k2, k3, k4, ⟨n, k5⟩, k6⟩ := h.tst i' hi' k' hk'
    refine ⟨tb', k1, k2, k3, k4, ?_, (World.frozen?_setCell _ _ _ _).trans k6⟩
    by_cases hb : tb = tb'
    · subst hb
      by_cases hii : k = k'
      · subst hii; exact ⟨u, World.cell?_setCell_same' _ _ _ (by rw [h4]; rfl)⟩
      · exact ⟨n, by rw [set_ne _ (by omega)]; exact k5⟩
    · exact ⟨n, by rw [set_far _ hb]; exact k5⟩
theorem WN.start {wb W W' : World} {G : Nat} {a : Option Addr} {c : Nat} {ps : List PR} (h : RF W wb.heap.size (.slice a ps.length c) ps) (hx : Ext wb W) (hG : G = W.heap.size) (hx' : Ext W W') (g1 : W'.cell? ⟨G, 1, none⟩ = some (.slice a ps.length c)) : WN wb G a c ps W' := by
  have hown : ∀ i (_ : i < ps.length), ∃ gb, a = some ⟨gb, 0, none⟩ ∧ wb.heap.size ≤ gb ∧ gb < W.heap.size ∧ (∀ j, W.frozen? ⟨gb, j, none⟩ = false) ∧ (∃ n : Int, W.cell? ⟨gb, i * 3, none⟩ = some (.int .u32 n)) ∧ W.cell? ⟨gb, i * 3 + 1, none⟩ = some (ps[i]).v := fun i hi => by
    obtain ⟨gb, c', e, h1, h2, h3⟩ := own_parts h.1 (by omega)
    simp only [Value.slice.injEq] at e
    obtain ⟨rfl, -, rfl⟩ := e
    obtain ⟨a', c', e, -, -, hc⟩ := rd_of_own encP_len h.1
    simp only [Value.slice.injEq] at e
    obtain ⟨rfl, -, rfl⟩ := e
    obtain ⟨b, o, e, kc⟩ := hc i hi
    simp only [Option.some.injEq, Addr.mk.injEq, and_true] at e
    obtain ⟨rfl, rfl⟩ := e
    have k0 := kc 0 (by rw [encP_len]; decide)
    have k1 := kc 1 (by rw [encP_len]; decide)
    rw [Nat.zero_add] at k0 k1
    exact ⟨gb, rfl, h1, h2, h3, ⟨_, k0⟩, k1⟩
  refine ⟨hx.trans hx', by have := hx.size; omega, g1, fun i hi => ?_, fun i hi k hk => ?_⟩
  · obtain ⟨gb, e, h1, h2, h3, ⟨n, h4⟩, h5⟩ := hown i hi
    exact ⟨gb, e, h1, by omega, ⟨n, hx'.cell h4⟩, hx'.cell h5, (World.frozen?_of_block (a := ⟨gb, i * 3, none⟩) (hx'.block h2)).trans (h3 _)⟩
  · obtain ⟨gb, e, -⟩ := hown i hi
    obtain ⟨hg, ho⟩ := h.2 _ (List.getElem_mem hi)
    rcases ho with ⟨-, h2⟩ | ⟨tb, cur, h1, h2, h3⟩
    · rw [h2] at hk; cases hk
    · have hlt := (Array.getElem?_eq_some_iff.1 h3).1
      obtain ⟨cur', ht⟩ := own_typed h.1 gb (by rw [e]; rfl)
      obtain ⟨a', c', e', -, hc⟩ := rdT_cell hg
      simp only [PR.v, Value.slice.injEq] at e'
      obtain ⟨e1, -, -⟩ := e'
      obtain ⟨b, o, e2, -, -, k2, -⟩ := hc k hk
      rw [← e1, h1] at e2
      simp only [Option.some.injEq, Addr.mk.injEq, and_true] at e2
      obtain ⟨rfl, rfl⟩ := e2
      rw [Nat.zero_add] at k2
      refine ⟨tb, h1, h2, by omega, fun e3 => ?_, ⟨_, hx'.cell k2⟩, (World.frozen?_of_block (a := ⟨tb, k * 4 + 2, none⟩) (hx'.block hlt)).trans (by simp [World.frozen?, h3])⟩
      rw [e] at e3
      simp only [Option.some.injEq, Addr.mk.injEq, and_true] at e3
      subst e3
      rw [h3] at ht
      simp at ht
end L21
end Go.Proofs.Ytkmhfjnjfghnjaa
