/- Layer 14: files that are spoilt. -/
import Derived.Test.YtkmbahpjioopdaaDropW
import Derived.Test.YtkmbahpjioopdaaDropX
namespace Go.Proofs.Ytkmbahpjioopdaa
open Go.RowKit V
attribute [local go_sem] Oper.semAt_some Option.isSome_some
namespace L12
/-- the row's block and the files' bytes: in blocks from B on; each cell holds a value of its kind -/
structure SP (W : World) (B : Nat) (a : Option Addr) (qs : List PF) : Prop where
  row : qs = [] ∨ ∃ G cs, a = some ⟨G, 0, none⟩ ∧ B ≤ G ∧ W.heap[G]? = some (.cells cs 24 (0, 0)) ∧ ∀ i (h : i < qs.length), cs[i * 3 + 2]? = some (qs[i].v) ∧ ∃ s : ByteArray, cs[i * 3]? = some (.string s)
  byt : ∀ q ∈ qs, q.bs.length = 0 ∨ ∃ g cs, q.a = some ⟨g, 0, none⟩ ∧ B ≤ g ∧ W.heap[g]? = some (.cells cs 5 (0, 0)) ∧ ∀ j, j < q.bs.length → ∃ x : Int, cs[j]? = some (.int .u8 x)
theorem SP.start {W : World} {B c : Nat} {a : Option Addr} {qs : List PF} (hr : W.ownsRow B 24 3 (.slice a qs.length c) qs.length (qs.flatMap encF)) (hb : ∀ q ∈ qs, OwnB W B q) : SP W B a qs := by
  refine ⟨?_, fun q hq => ?_⟩
  · obtain ⟨a1, c1, e1, -, hc⟩ := rdF_cell (rd_of_own encF_len hr)
    simp only [Value.slice.injEq, true_and] at e1
    obtain ⟨rfl, rfl⟩ := e1
    rcases hr.2 with ⟨-, h0⟩ | ⟨g, cap, cur, e, hg, hh, -⟩
    · exact .inl (List.eq_nil_of_length_eq_zero h0)
    · simp only [Value.slice.injEq, true_and] at e
      obtain ⟨rfl, -⟩ := e
      refine .inr ⟨g, cur, rfl, hg, hh, fun i hi => ?_⟩
      obtain ⟨b, o, e, c0, -, c2⟩ := hc i hi
      simp only [Option.some.injEq, Addr.mk.injEq, and_true] at e
      obtain ⟨rfl, rfl⟩ := e
      rw [blk_cell hh] at c0 c2
      rw [Nat.zero_add] at c0 c2
      exact ⟨c2, _, c0⟩
  · have h := hb q hq
    obtain ⟨a1, c1, e1, -, hc⟩ := rdB_cell h.good
    unfold PF.v at e1
    simp only [Value.slice.injEq, true_and] at e1
    obtain ⟨e1, rfl⟩ := e1
    rcases h.2 with ⟨-, h0⟩ | ⟨g, cap, cur, e, hg, hh, -⟩
    · exact .inl h0
    · unfold PF.v at e
      simp only [Value.slice.injEq, true_and] at e
      obtain ⟨e, -⟩ := e
      refine .inr ⟨g, cur, e, hg, hh, fun i hi => ?_⟩
      obtain ⟨b, o, e2, c0⟩ := hc i hi
      rw [← e1, e] at e2
      simp only [Option.some.injEq, Addr.mk.injEq, and_true] at e2
      obtain ⟨rfl, rfl⟩ := e2
      rw [blk_cell hh] at c0
      rw [Nat.zero_add] at c0
      exact ⟨_, c0⟩
theorem SP.ext {W W' : World} {B : Nat} {a : Option Addr} {qs : List PF} (h : SP W B a qs) (hx : Ext W W') : SP W' B a qs := by
  refine ⟨?_, fun q hq => ?_⟩
  · rcases h.row with h0 | ⟨G, cs, e, hB, hh, hc⟩
    · exact .inl h0
    · exact .inr ⟨G, cs, e, hB, blk_ext hh hx, hc⟩
  · rcases h.byt q hq with h0 | ⟨g, cs, e, hB, hh, hc⟩
    · exact .inl h0
    · exact .inr ⟨g, cs, e, hB, blk_ext hh hx, hc⟩
theorem SP.poke {W : World} {B : Nat} {a : Option Addr} {qs : List PF} (h : SP W B a qs) {g : Nat} {cs : Array Value} (hg : W.heap[g]? = some (.cells cs 5 (0, 0))) (j : Nat) (x : Int) : SP (W.setCell ⟨g, j, none⟩ (.int .u8 x)) B a qs := by
  refine ⟨?_, fun q hq => ?_⟩
  · rcases h.row with h0 | ⟨G, cs', e, hB, hh, hc⟩
    · exact .inl h0
    · refine .inr ⟨G, cs', e, hB, ?_, hc⟩
      have hne : G ≠ g := by
        rintro rfl
        rw [hh] at hg
        simp at hg
      rw [heap_setCell_other _ _ _ _ hne]
      exact hh
  · rcases h.byt q hq with h0 | ⟨G, cs', e, hB, hh, hc⟩
    · exact .inl h0
    · by_cases hne : G = g
      · subst hne
        refine .inr ⟨G, _, e, hB, Go.Joins.block_setCell hh _, fun i hi => ?_⟩
        obtain ⟨y, hy⟩ := hc i hi
        by_cases hij : j = i
        · subst hij
          have hlt := (Array.getElem?_eq_some_iff.1 hy).1
          exact ⟨x, by rw [Array.getElem?_setIfInBounds, if_pos rfl, if_pos hlt]⟩
        · exact ⟨y, by rw [Array.getElem?_setIfInBounds, if_neg hij]; exact hy⟩
      · exact .inr ⟨G, cs', e, hB, by rw [heap_setCell_other _ _ _ _ hne]; exact hh, hc⟩
theorem SP.name {W : World} {B : Nat} {a : Option Addr} {qs : List PF} (h : SP W B a qs) {g : Nat} {cs : Array Value} (hg : W.heap[g]? = some (.cells cs 24 (0, 0))) (i : Nat) (s : ByteArray) : SP (W.setCell ⟨g, i * 3, none⟩ (.string s)) B a qs := by
  refine ⟨?_, fun q hq => ?_⟩
  · rcases h.row with h0 | ⟨G, cs', e, hB, hh, hc⟩
    · exact .inl h0
    · by_cases hne : G = g
      · subst hne
        refine .inr ⟨G, _, e, hB, Go.Joins.block_setCell hh _, fun j hj => ?_⟩
        obtain ⟨h2, t, ht⟩ := hc j hj
        refine ⟨by rw [Array.getElem?_setIfInBounds, if_neg (by omega)]; exact h2, ?_⟩
        by_cases hij : i = j
        · subst hij
          have hlt := (Array.getElem?_eq_some_iff.1 ht).1
          exact ⟨s, by rw [Array.getElem?_setIfInBounds, if_pos rfl, if_pos hlt]⟩
        · exact ⟨t, by rw [Array.getElem?_setIfInBounds, if_neg (by omega)]; exact ht⟩
      · exact .inr ⟨G, cs', e, hB, by rw [heap_setCell_other _ _ _ _ hne]; exact hh, hc⟩
  · rcases h.byt q hq with h0 | ⟨G, cs', e, hB, hh, hc⟩
    · exact .inl h0
    · refine .inr ⟨G, cs', e, hB, ?_, hc⟩
      have hne : G ≠ g := by
        rintro rfl
        rw [hh] at hg
        simp at hg
      rw [heap_setCell_other _ _ _ _ hne]
      exact hh
end L12
end Go.Proofs.Ytkmbahpjioopdaa
