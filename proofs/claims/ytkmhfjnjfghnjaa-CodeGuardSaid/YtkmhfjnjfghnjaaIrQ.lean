/- Layer 21: a filter that a call builds in a box of its own: its rules in memory of its own, each rule's tests in memory of their own. -/
import Derived.Test.YtkmhfjnjfghnjaaIrY
namespace Go.Proofs.Ytkmhfjnjfghnjaa
open Go.RowKit V
namespace L21
theorem own_ext {W W' : World} {base e n k : Nat} {v : Value} {zs : List Value} (h : W.ownsRow base e n v k zs) (hx : Ext W W') : W'.ownsRow base e n v k zs :=
  ownsRow_keep (S := fun b => b < W.heap.size) h (Keep.of_below hx (fun _ h => h)) (fun b hb => (h.lt b hb).2)
theorem own_typed {W : World} {base e n k : Nat} {v : Value} {zs : List Value} (h : W.ownsRow base e n v k zs) : ∀ g, v.ownBlock = some g → ∃ cur, W.heap[g]? = some (.cells cur e (0, 0)) := fun g hg => by
  rcases h.2 with ⟨rfl, -⟩ | ⟨g', cap, cur, rfl, -, hh, -⟩
  · cases hg
  · simp only [Value.ownBlock, Option.some.injEq] at hg
    subst hg
    exact ⟨cur, hh⟩
theorem good_grown {W w' : World} {row : Option Nat} {base : Nat} {p : PR} (hg : W.grownBy w' row) (hrow : ∀ k, row = some k → ∃ cur, W.heap[k]? = some (.cells cur 34 (0, 0))) (hp : GoodP W p) (ho : OwnT W base p) : GoodP w' p ∧ OwnT w' base p := by
  have hne : ∀ g cur, W.heap[g]? = some (.cells cur 37 (0, 0)) → some g ≠ row := fun g cur h e => by
    obtain ⟨cur', h'⟩ := hrow g e.symm
    rw [h] at h'
    simp at h'
  constructor
  · obtain ⟨a, c, e, h1, h2, h3⟩ := hp
    refine ⟨a, c, e, h1, h2, fun i hi => ?_⟩
    obtain ⟨b, o, ea, hat⟩ := h3 i hi
    refine ⟨b, o, ea, fun j hj => ?_⟩
    rcases ho with ⟨-, hn⟩ | ⟨g, cur, e1, -, hh⟩
    · rw [hn] at hi; cases hi
    · have e2 : p.a = a := by unfold PR.v at e; simp only [Value.slice.injEq] at e; exact e.1
      rw [← e2, e1] at ea
      simp only [Option.some.injEq, Addr.mk.injEq] at ea
      obtain ⟨rfl, -⟩ := ea
      exact hg.cell (hat j hj) (hne _ cur hh)
  · rcases ho with ho | ⟨g, cur, e1, hb, hh⟩
    · exact .inl ho
    · exact .inr ⟨g, cur, e1, hb, (hg.block g (Array.getElem?_eq_some_iff.1 hh).1 (hne _ cur hh)).trans hh⟩
theorem good_set {W : World} {base : Nat} {p : PR} (hp : GoodP W p) (ho : OwnT W base p) {q : Addr} (hq : q.block < base) (u : Value) : GoodP (W.setCell q u) p ∧ OwnT (W.setCell q u) base p := by
  refine ⟨Rd.setCell hp (fun b o e => ?_) u, OwnT.setCell ho hq u⟩
  rcases ho with ⟨h1, -⟩ | ⟨g, cur, h1, h2, -⟩
  · rw [h1] at e; cases e
  · rw [h1] at e
    simp only [Option.some.injEq, Addr.mk.injEq] at e
    omega
structure OS (w : World) (ar : Int) (df : Nat) (v : Value) (ps : List PR) (W : World) : Prop where
  ext : Ext w W
  b0 : W.cell? ⟨w.heap.size, 0, none⟩ = some (.int .i64 ar)
  b1 : W.cell? ⟨w.heap.size, 1, none⟩ = some v
  b2 : W.cell? ⟨w.heap.size, 2, none⟩ = some (.int .u32 (df : Int))
  f : ∀ j, W.frozen? ⟨w.heap.size, j, none⟩ = false
  own : W.ownsRow (w.heap.size + 1) 34 3 v ps.length (ps.flatMap encP)
  good : ∀ p ∈ ps, GoodP W p ∧ OwnT W (w.heap.size + 1) p
theorem OS.start (w : World) (ar : Int) (df : Nat) (t : TypeId) : OS w ar df (.slice none 0 0) [] (w.alloc (.cells #[.int .i64 ar, .slice none 0 0, .int .u32 (df : Int)] t)) :=
  ⟨(Ext.refl _).alloc _, by simp [go_sem], by simp [go_sem], by simp [go_sem], fun j => by simp [go_sem], World.ownsRow_nil _ _ _ _, fun p hp => by cases hp⟩
theorem OS.lt {w W : World} {ar : Int} {df : Nat} {v : Value} {ps : List PR} (h : OS w ar df v ps W) : w.heap.size < W.heap.size := World.block_lt_of_cell? _ ⟨w.heap.size, 0, none⟩ h.b0
theorem OS.kept {w W W' : World} {ar : Int} {df : Nat} {v : Value} {ps : List PR} (h : OS w ar df v ps W) (hx : Ext W W') : OS w ar df v ps W' :=
  ⟨h.ext.trans hx, hx.cell h.b0, hx.cell h.b1, hx.cell h.b2, fun j => (World.frozen?_of_block (a := ⟨w.heap.size, j, none⟩) (hx.block h.lt)).trans (h.f j), own_ext h.own hx, fun p hp => ⟨(h.good p hp).1.ext hx, (h.good p hp).2.ext hx⟩⟩
theorem OS.size {w W w' : World} {ar : Int} {df : Nat} {v : Value} {ps : List PR} (h : OS w ar df v ps W) (hg : W.grownBy w' v.ownBlock) (j : Nat) (u : Value) (hu : W.cell? ⟨w.heap.size, j, none⟩ = some u) : w'.cell? ⟨w.heap.size, j, none⟩ = some u :=
  hg.cell hu (fun e => by have := (h.own.lt _ e.symm).1; dsimp only at this; omega)
theorem OS.frz {w W w' : World} {ar : Int} {df : Nat} {v : Value} {ps : List PR} (h : OS w ar df v ps W) (hg : W.grownBy w' v.ownBlock) (j : Nat) : w'.frozen? ⟨w.heap.size, j, none⟩ = false :=
  (World.frozen?_of_block (a := ⟨w.heap.size, j, none⟩) (hg.block w.heap.size h.lt (fun e => by have := (h.own.lt _ e.symm).1; omega))).trans (h.f j)
theorem OS.grown {w W w' : World} {ar : Int} {df : Nat} {v v' : Value} {ps : List PR} {p : PR} (h : OS w ar df v ps W) (hp : GoodP W p) (ho : OwnT W (w.heap.size + 1) p) (hg : W.grownBy w' v.ownBlock)
    (hown : w'.ownsRow (w.heap.size + 1) 34 3 v' (ps.length + 1) ((ps ++ [p]).flatMap encP)) : OS w ar df v' (ps ++ [p]) (w'.setCell ⟨w.heap.size, 1, none⟩ v') := by
  have hx : Ext w w' := h.ext.grown hg (fun k e => by have := (h.own.lt k e).1; omega)
  refine ⟨hx.setCell (Nat.le_refl _) _, ?_, ?_, ?_, fun j => (World.frozen?_setCell _ _ _ _).trans (h.frz hg j), by rw [List.length_append]; exact own_set hown (by dsimp only; omega) _, fun q hq => ?_⟩
  · rw [set_ne _ (by omega)]; exact h.size hg 0 _ h.b0
  · exact World.cell?_setCell_same' _ _ _ (by rw [h.size hg 1 _ h.b1]; rfl)
  · rw [set_ne _ (by omega)]; exact h.size hg 2 _ h.b2
  · have hh : GoodP w' q ∧ OwnT w' (w.heap.size + 1) q := by
      rcases List.mem_append.1 hq with hq | hq
      · exact good_grown hg (own_typed h.own) (h.good q hq).1 (h.good q hq).2
      · rw [List.mem_singleton] at hq
        subst hq
        exact good_grown hg (own_typed h.own) hp ho
    exact good_set hh.1 hh.2 (by dsimp only; omega) _
/-- rules in memory of a call's own -/
def RF (W : World) (base : Nat) (v : Value) (ps : List PR) : Prop := W.ownsRow base 34 3 v ps.length (ps.flatMap encP) ∧ ∀ p ∈ ps, GoodP W p ∧ OwnT W base p
theorem RF.set {W : World} {base : Nat} {v : Value} {ps : List PR} (h : RF W base v ps) {q : Addr} (hq : q.block < base) (u : Value) : RF (W.setCell q u) base v ps :=
  ⟨own_set h.1 hq u, fun p hp => good_set (h.2 p hp).1 (h.2 p hp).2 hq u⟩
theorem RF.base {W : World} {b b' : Nat} {v : Value} {ps : List PR} (h : RF W b v ps) (hb : b' ≤ b) : RF W b' v ps := ⟨own_base h.1 hb, fun p hp => ⟨(h.2 p hp).1, (h.2 p hp).2.base hb⟩⟩
theorem RF.ext {W W' : World} {b : Nat} {v : Value} {ps : List PR} (h : RF W b v ps) (hx : Ext W W') : RF W' b v ps := ⟨own_ext h.1 hx, fun p hp => ⟨(h.2 p hp).1.ext hx, (h.2 p hp).2.ext hx⟩⟩
theorem RF.rd {W : World} {b : Nat} {v : Value} {ps : List PR} (h : RF W b v ps) : RdR W 3 (IsR W) v (ps.map PR.r) := rdRR_of (rd_of_own encP_len h.1) (fun p hp => (h.2 p hp).1)
theorem OS.rf {w W : World} {ar : Int} {df : Nat} {v : Value} {ps : List PR} (h : OS w ar df v ps W) : RF W (w.heap.size + 1) v ps := ⟨h.own, h.good⟩
end L21
end Go.Proofs.Ytkmhfjnjfghnjaa
