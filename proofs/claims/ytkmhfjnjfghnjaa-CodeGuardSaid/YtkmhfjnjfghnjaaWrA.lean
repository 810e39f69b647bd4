/- Layer 25: a row that is being written: the writer's box, its row, what is done later, labels. -/
import Derived.RangeFuncBox
import Derived.Test.YtkmhfjnjfghnjaaCodeC
import Derived.Test.YtkmhfjnjfghnjaaIrQ
namespace Go.Proofs.Ytkmhfjnjfghnjaa
open Go.RowKit V
namespace L25W
open L25 (Sy encY encY_len encY_one)
open L21 (own_set own_ext own_typed set_ne)
/-- what is done later: a jump's place, its code, the labels' blocks, the blocks of what the closure holds -/
structure Jm where
  at_ : Nat
  code : Nat
  th : Nat
  el : Option Nat
  bt : Nat
  bw : Nat
  ba : Nat
  bc : Nat
  bo : Nat
def pv (b : Nat) : Value := .pointer (some ⟨b, 0, none⟩)
def Jm.val (j : Jm) : Value := .func (.func 98) #[] #[pv j.bt, pv j.bw, pv j.ba, pv j.bc, pv j.bo]
def encJ (j : Jm) : List Value := [j.val]
theorem encJ_len (j : Jm) : (encJ j).length = 1 := rfl
theorem encJ_one (j : Jm) : ∀ u ∈ encJ j, u.oneCell' = true := by
  intro u hu; simp [encJ] at hu; rw [hu]; rfl
theorem infoY9 : (Try.prog.info? 70).map (fun i => (i.zero, i.size, i.bytes)) = some (some (.agg #[.int .u16 0, .int .u32 0, .int .i64 0, .int .i64 0]), 4, 24) := by kernel_rfl
theorem infoJ9 : (Try.prog.info? 1).map (fun i => (i.zero, i.size, i.bytes)) = some (some (.nilFunc), 1, 8) := by kernel_rfl
structure JOk (W : World) (B : Nat) (j : Jm) : Prop where
  t : Boxed W j.bt 96 (pv j.th)
  w : Boxed W j.bw 92 (pv B)
  a : Boxed W j.ba 3 (.int .i64 (j.at_ : Int))
  c : Boxed W j.bc 68 (.int .u16 (j.code : Int))
  o : Boxed W j.bo 96 (.pointer (j.el.map fun b => ⟨b, 0, none⟩))
/-- what lay there in other types than the writer's own lies as it lay, but for X -/
structure WK (X : Nat → Prop) (W W' : World) : Prop where
  size : W.heap.size ≤ W'.heap.size
  kept : ∀ k cs t fr, ¬ X k → W.heap[k]? = some (.cells cs t fr) → t ≠ 70 → t ≠ 1 → t ≠ 95 → W'.heap[k]? = some (.cells cs t fr)
theorem WK.refl (X : Nat → Prop) (W : World) : WK X W W := ⟨Nat.le_refl _, fun _ _ _ _ _ h _ _ _ => h⟩
theorem WK.trans {X : Nat → Prop} {a b c : World} (h : WK X a b) (k : WK X b c) : WK X a c := ⟨Nat.le_trans h.size k.size, fun i cs t fr hx h0 h1 h2 h3 => k.kept i cs t fr hx (h.kept i cs t fr hx h0 h1 h2 h3) h1 h2 h3⟩
theorem WK.mono {X Y : Nat → Prop} {a b : World} (h : WK X a b) (hxy : ∀ k, X k → Y k) : WK Y a b := ⟨h.size, fun i cs t fr hx => h.kept i cs t fr (fun hh => hx (hxy i hh))⟩
theorem WK.ext {X : Nat → Prop} {a b : World} (h : Ext a b) : WK X a b := ⟨h.size, fun _ _ _ _ _ h0 _ _ _ => (h.block (Array.getElem?_eq_some_iff.1 h0).1).trans h0⟩
theorem WK.boxed {X : Nat → Prop} {a b : World} (h : WK X a b) {k t : Nat} {v : Value} (hb : Boxed a k t v) (hx : ¬ X k) (h1 : t ≠ 70) (h2 : t ≠ 1) (h3 : t ≠ 95) : Boxed b k t v := h.kept k _ _ _ hx hb h1 h2 h3
theorem JOk.kept {X : Nat → Prop} {a b : World} (h : WK X a b) {B : Nat} {j : Jm} (hj : JOk a B j) (hX : ∀ k, X k → ∃ v, Boxed a k 98 v) : JOk b B j := by
  have hn : ∀ (k t : Nat) (v : Value), Boxed a k t v → t ≠ 98 → ¬ X k := fun k t v hb ht hx => by
    obtain ⟨u, hu⟩ := hX k hx
    have e := Option.some.inj (hb.symm.trans hu)
    simp only [Obj.cells.injEq] at e
    exact ht e.2.1
  exact ⟨h.boxed hj.t (hn _ _ _ hj.t (by decide)) (by decide) (by decide) (by decide), h.boxed hj.w (hn _ _ _ hj.w (by decide)) (by decide) (by decide) (by decide), h.boxed hj.a (hn _ _ _ hj.a (by decide)) (by decide) (by decide) (by decide),
    h.boxed hj.c (hn _ _ _ hj.c (by decide)) (by decide) (by decide) (by decide), h.boxed hj.o (hn _ _ _ hj.o (by decide)) (by decide) (by decide) (by decide)⟩
/-- the writer in box B: its row, what is done later -/
structure WS (w0 : World) (B : Nat) (v v2 : Value) (ls : List Sy) (js : List Jm) (W : World) : Prop where
  ext : Ext w0 W
  hB : w0.heap.size ≤ B
  box : W.heap[B]? = some (.cells #[v, v2] 95 (0, 0))
  own : W.ownsRow (B + 1) 70 4 v ls.length (ls.flatMap encY)
  late : W.ownsRow (B + 1) 1 1 v2 js.length (js.flatMap encJ)
  jok : ∀ j ∈ js, JOk W B j ∧ j.at_ < ls.length
theorem WS.lt {w0 W : World} {B : Nat} {v v2 : Value} {ls : List Sy} {js : List Jm} (h : WS w0 B v v2 ls js W) : B < W.heap.size := (Array.getElem?_eq_some_iff.1 h.box).1
theorem WS.b0 {w0 W : World} {B : Nat} {v v2 : Value} {ls : List Sy} {js : List Jm} (h : WS w0 B v v2 ls js W) : W.cell? ⟨B, 0, none⟩ = some v := by simp [World.cell?, h.box]
theorem WS.b1 {w0 W : World} {B : Nat} {v v2 : Value} {ls : List Sy} {js : List Jm} (h : WS w0 B v v2 ls js W) : W.cell? ⟨B, 1, none⟩ = some v2 := by simp [World.cell?, h.box]
theorem WS.f {w0 W : World} {B : Nat} {v v2 : Value} {ls : List Sy} {js : List Jm} (h : WS w0 B v v2 ls js W) (j : Nat) : W.frozen? ⟨B, j, none⟩ = false := by simp [World.frozen?, h.box]
/-- two rows of unlike types share no block -/
theorem rows_ne {W : World} {b1 b2 e1 e2 n1 n2 k1 k2 : Nat} {v1 v2 : Value} {z1 z2 : List Value} (h1 : W.ownsRow b1 e1 n1 v1 k1 z1) (h2 : W.ownsRow b2 e2 n2 v2 k2 z2) (he : e1 ≠ e2) (g : Nat) (hg : v1.ownBlock = some g) : some g ≠ v2.ownBlock := fun e => by
  obtain ⟨c1, h3⟩ := own_typed h1 g hg
  obtain ⟨c2, h4⟩ := own_typed h2 g e.symm
  have := Option.some.inj (h3.symm.trans h4)
  simp only [Obj.cells.injEq] at this
  exact he this.2.1
theorem own_other {W w' : World} {row : Option Nat} {base e n k : Nat} {v : Value} {zs : List Value} (h : W.ownsRow base e n v k zs) (hg : W.grownBy w' row) (hne : ∀ g, v.ownBlock = some g → some g ≠ row) : w'.ownsRow base e n v k zs := by
  refine ⟨h.1, ?_⟩
  rcases h.2 with h2 | ⟨g, cap, cur, rfl, h3, h4, r⟩
  · exact .inl h2
  · exact .inr ⟨g, cap, cur, rfl, h3, (hg.block g (Array.getElem?_eq_some_iff.1 h4).1 (hne g rfl)).trans h4, r⟩
theorem box_set0 {W : World} {B t : Nat} {v v2 : Value} (h : W.heap[B]? = some (.cells #[v, v2] t (0, 0))) (u : Value) : (W.setCell ⟨B, 0, none⟩ u).heap[B]? = some (.cells #[u, v2] t (0, 0)) := by
  obtain ⟨hlt, hk⟩ := Array.getElem?_eq_some_iff.1 h
  show (W.heap.modify B _)[B]? = _
  rw [Array.getElem?_eq_getElem (by rw [Array.size_modify]; exact hlt), Array.getElem_modify_self, hk]
  rfl
theorem box_set1 {W : World} {B t : Nat} {v v2 : Value} (h : W.heap[B]? = some (.cells #[v, v2] t (0, 0))) (u : Value) : (W.setCell ⟨B, 1, none⟩ u).heap[B]? = some (.cells #[v, u] t (0, 0)) := by
  obtain ⟨hlt, hk⟩ := Array.getElem?_eq_some_iff.1 h
  show (W.heap.modify B _)[B]? = _
  rw [Array.getElem?_eq_getElem (by rw [Array.size_modify]; exact hlt), Array.getElem_modify_self, hk]
  rfl
theorem size_set (W : World) (p : Addr) (u : Value) : (W.setCell p u).heap.size = W.heap.size := by simp
/-- growth of one of the writer's rows, then a store into its box -/
theorem WK.step {W w' : World} {B t : Nat} {row : Option Nat} {cur : Array Value} (hB : W.heap[B]? = some (.cells cur 95 (0, 0))) (hg : W.grownBy w' row)
    (hrow : ∀ g, row = some g → ∃ c, W.heap[g]? = some (.cells c t (0, 0))) (ht : t = 70 ∨ t = 1) (i : Nat) (u : Value) : WK (fun _ => False) W (w'.setCell ⟨B, i, none⟩ u) := by
  refine ⟨by rw [size_set]; exact hg.size, fun k cs t' fr _ h0 h1 h2 h3 => ?_⟩
  have hkB : k ≠ B := fun e => by
    rw [e, hB] at h0
    have := Option.some.inj h0
    simp only [Obj.cells.injEq] at this
    exact h3 this.2.1.symm
  have hkr : some k ≠ row := fun e => by
    obtain ⟨c, h4⟩ := hrow k e.symm
    rw [h4] at h0
    have := Option.some.inj h0
    simp only [Obj.cells.injEq] at this
    rcases ht with ht | ht
    · exact h1 (by rw [← this.2.1, ht])
    · exact h2 (by rw [← this.2.1, ht])
  exact (Below.heap_setCell _ _ _ k (fun e => hkB e)).trans ((hg.block k (Array.getElem?_eq_some_iff.1 h0).1 hkr).trans h0)
theorem WS.put {w0 W w' : World} {B : Nat} {v v2 v' : Value} {ls ys : List Sy} {js : List Jm} (h : WS w0 B v v2 ls js W) (hg : W.grownBy w' v.ownBlock)
    (hown : w'.ownsRow (B + 1) 70 4 v' (ls.length + ys.length) ((ls ++ ys).flatMap encY)) :
    WS w0 B v' v2 (ls ++ ys) js (w'.setCell ⟨B, 0, none⟩ v') ∧ WK (fun _ => False) W (w'.setCell ⟨B, 0, none⟩ v') := by
  have hk := WK.step h.box hg (fun g e => own_typed h.own g e) (.inl rfl) 0 v'
  have hb : w'.heap[B]? = some (.cells #[v, v2] 95 (0, 0)) := (hg.block B h.lt (fun e => by have := (h.own.lt _ e.symm).1; omega)).trans h.box
  refine ⟨⟨(h.ext.grown hg (fun k e => by have := (h.own.lt k e).1; have := h.hB; omega)).setCell h.hB _, h.hB, box_set0 hb v', by rw [List.length_append]; exact own_set hown (by dsimp only; omega) _, own_set (own_other h.late hg (rows_ne h.late h.own (by decide))) (by dsimp only; omega) _, fun j hj => ?_⟩, hk⟩
  obtain ⟨h1, h2⟩ := h.jok j hj
  exact ⟨h1.kept hk (fun k hk => hk.elim), by rw [List.length_append]; omega⟩
theorem WS.later {w0 W w' : World} {B : Nat} {v v2 v' : Value} {ls : List Sy} {js : List Jm} {j : Jm} (h : WS w0 B v v2 ls js W) (hg : W.grownBy w' v2.ownBlock) (hj : JOk W B j) (hjl : j.at_ < ls.length)
    (hown : w'.ownsRow (B + 1) 1 1 v' (js.length + 1) ((js ++ [j]).flatMap encJ)) :
    WS w0 B v v' ls (js ++ [j]) (w'.setCell ⟨B, 1, none⟩ v') ∧ WK (fun _ => False) W (w'.setCell ⟨B, 1, none⟩ v') := by
  have hk := WK.step h.box hg (fun g e => own_typed h.late g e) (.inr rfl) 1 v'
  have hb : w'.heap[B]? = some (.cells #[v, v2] 95 (0, 0)) := (hg.block B h.lt (fun e => by have := (h.late.lt _ e.symm).1; omega)).trans h.box
  refine ⟨⟨(h.ext.grown hg (fun k e => by have := (h.late.lt k e).1; have := h.hB; omega)).setCell h.hB _, h.hB, box_set1 hb v', own_set (own_other h.own hg (rows_ne h.own h.late (by decide))) (by dsimp only; omega) _, by rw [List.length_append]; exact own_set hown (by dsimp only; omega) _, fun i hi => ?_⟩, hk⟩
  rcases List.mem_append.1 hi with hi | hi
  · obtain ⟨h1, h2⟩ := h.jok i hi
    exact ⟨h1.kept hk (fun k hk => hk.elim), h2⟩
  · rw [List.mem_singleton] at hi
    subst hi
    exact ⟨hj.kept hk (fun k hk => hk.elim), hjl⟩
theorem WS.kept {w0 W W' : World} {B : Nat} {v v2 : Value} {ls : List Sy} {js : List Jm} (h : WS w0 B v v2 ls js W) (hx : Ext W W') : WS w0 B v v2 ls js W' :=
  ⟨h.ext.trans hx, h.hB, (hx.block h.lt).trans h.box, own_ext h.own hx, own_ext h.late hx, fun j hj => ⟨(h.jok j hj).1.kept (WK.ext (X := fun _ => False) hx) (fun _ hk => hk.elim), (h.jok j hj).2⟩⟩
/-- a label's place -/
theorem WS.here {w0 W : World} {B lb : Nat} {v v2 u : Value} {ls : List Sy} {js : List Jm} (h : WS w0 B v v2 ls js W) (hl : Boxed W lb 98 u) (hlb : w0.heap.size ≤ lb) (u' : Value) :
    WS w0 B v v2 ls js (W.setCell ⟨lb, 0, none⟩ u') ∧ WK (fun k => k = lb) W (W.setCell ⟨lb, 0, none⟩ u') ∧ Boxed (W.setCell ⟨lb, 0, none⟩ u') lb 98 u' := by
  have hk : WK (fun k => k = lb) W (W.setCell ⟨lb, 0, none⟩ u') := ⟨by rw [size_set]; exact Nat.le_refl _, fun k cs t fr hx h0 _ _ _ => (Below.heap_setCell _ _ _ k (fun e => hx e)).trans h0⟩
  have hne : ∀ (k t : Nat) (cs : Array Value) (fr : Nat × Nat), W.heap[k]? = some (.cells cs t fr) → t ≠ 98 → k ≠ lb := fun k t cs fr h0 ht e => by
    rw [e] at h0
    have := Option.some.inj (h0.symm.trans hl)
    simp only [Obj.cells.injEq] at this
    exact ht this.2.1
  have hrow : ∀ {base e n k : Nat} {v : Value} {zs : List Value}, W.ownsRow base e n v k zs → e ≠ 98 → (W.setCell ⟨lb, 0, none⟩ u').ownsRow base e n v k zs := fun hr he => by
    refine own_other hr (grownBy_setCell' W lb u') (fun g hg e => ?_)
    obtain ⟨cur, h0⟩ := own_typed hr g hg
    exact hne g _ _ _ h0 he (Option.some.inj e)
  refine ⟨⟨h.ext.setCell hlb _, h.hB, (Below.heap_setCell _ _ _ B (fun e => hne B _ _ _ h.box (by decide) e)).trans h.box, hrow h.own (by decide), hrow h.late (by decide), fun j hj => ⟨(h.jok j hj).1.kept hk (fun k e => ⟨u, by rw [e]; exact hl⟩), (h.jok j hj).2⟩⟩, hk, hl.set u'⟩
theorem WS.start (w : World) : WS w w.heap.size (.slice none 0 0) (.slice none 0 0) [] [] (w.alloc (.cells #[.slice none 0 0, .slice none 0 0] 95)) :=
  ⟨(Ext.refl _).alloc _, Nat.le_refl _, World.alloc_heap_new w _, World.ownsRow_nil _ _ _ _, World.ownsRow_nil _ _ _ _, fun j hj => by cases hj⟩
end L25W
end Go.Proofs.Ytkmhfjnjfghnjaa
