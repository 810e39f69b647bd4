/- A function that runs through a range over a function in each round of a loop: the marks that it leaves among its deferred calls are taken at its return. -/
import Derived.RangeFuncBox
import Derived.RangeFuncNested
import Derived.RangeFuncBound
import Derived.RangeFuncCalls
import Derived.RangeFuncLeaves
import Derived.OwnWalkIn
import Derived.Test.YtbpmokffhmiacaaGreatDoorApp
namespace Go.Proofs.YtbpmokffhmiacaaGreatDoor
open Go Go.RowKit
namespace V
variable {F : Fence} {n : Nat} {P : Program}
def markD (D : Nat) : Deferred := { target := .collected D, args := #[] }
/-- the marks stand for blocks that are there, each once, none below B -/
structure Marks (B : Nat) (Ds : List Nat) (W : World) : Prop where
  nodup : Ds.Nodup
  lies : ∀ D ∈ Ds, W.heap[D]? = some (.deferred (some [])) ∧ B ≤ D
theorem Marks.nil (B : Nat) (W : World) : Marks B [] W := ⟨List.nodup_nil, fun _ h => by cases h⟩
theorem Marks.lt {B : Nat} {Ds : List Nat} {W : World} (h : Marks B Ds W) : ∀ D ∈ Ds, D < W.heap.size := fun D hD => (Array.getElem?_eq_some_iff.1 (h.lies D hD).1).1
theorem Marks.cons {B : Nat} {Ds : List Nat} {W : World} (h : Marks B Ds W) {D : Nat} (hn : D ∉ Ds) (hl : W.heap[D]? = some (.deferred (some []))) (hB : B ≤ D) : Marks B (D :: Ds) W :=
  ⟨List.nodup_cons.2 ⟨hn, h.nodup⟩, fun E hE => by
    rcases List.mem_cons.1 hE with rfl | h2
    · exact ⟨hl, hB⟩
    · exact h.lies E h2⟩
theorem Marks.kept {B : Nat} {Ds : List Nat} {W W' : World} (h : Marks B Ds W) (hk : ∀ D ∈ Ds, W'.heap[D]? = W.heap[D]?) : Marks B Ds W' :=
  ⟨h.nodup, fun D hD => ⟨(hk D hD).trans (h.lies D hD).1, (h.lies D hD).2⟩⟩
theorem Marks.alloc {B : Nat} {Ds : List Nat} {W : World} (h : Marks B Ds W) (o : Obj) : Marks B Ds (W.alloc o) := h.kept fun D hD => Below.heap_alloc _ _ _ (h.lt D hD)
theorem Marks.grown {B : Nat} {Ds : List Nat} {W W' : World} {row : Option Nat} (h : Marks B Ds W) (hg : W.grownBy W' row) (hr : ∀ r, row = some r → r ∉ Ds) : Marks B Ds W' :=
  h.kept fun D hD => hg.block D (h.lt D hD) (fun e => hr D e.symm hD)
theorem Marks.ext {B : Nat} {Ds : List Nat} {W W' : World} (h : Marks B Ds W) (hx : Ext W W') : Marks B Ds W' := h.kept fun D hD => hx.block (h.lt D hD)
theorem Marks.setCell {B : Nat} {Ds : List Nat} {W : World} (h : Marks B Ds W) {p : Addr} (hp : p.block < B) (u : Value) : Marks B Ds (W.setCell p u) :=
  h.kept fun D hD => Below.heap_setCell W p u D (fun e => by have := (h.lies D hD).2; omega)
/-- all marks taken: the world is as it was but for their blocks -/
theorem leaves_marks {fn : Func} {tmps : Array Value} {R : Ending → World → Prop} {B : Nat} : ∀ (Ds : List Nat) (W : World), Marks B Ds W →
    (∀ W', W'.os = W.os → W'.tape = W.tape → W'.output = W.output → W'.heap.size = W.heap.size → (∀ k, k < B → W'.heap[k]? = W.heap[k]?) → (∀ k, k ∉ Ds → W'.heap[k]? = W.heap[k]?) → LeavesInM F n P fn tmps R [] .returning W') →
    LeavesInM F n P fn tmps R (Ds.map markD) .returning W
  | [], W, _, h => h W rfl rfl rfl rfl (fun _ _ => rfl) (fun _ _ => rfl)
  | D :: Ds, W, hm, h => by
    refine ⟨by simp, .inl ⟨D, _, rfl, run_takeDeferred (hm.lies D (by simp)).1, ?_⟩⟩
    have hnd := List.nodup_cons.1 hm.nodup
    refine leaves_marks Ds _ ⟨hnd.2, fun E hE => ⟨(World.putObj_heap_other (show E ≠ D from fun e => hnd.1 (e ▸ hE))).trans (hm.lies E (by simp [hE])).1, (hm.lies E (by simp [hE])).2⟩⟩ ?_
    intro W' h1 h2 h3 h4 h5 h6
    refine h W' h1 h2 h3 (by rw [h4]; simp) (fun k hk => (h5 k hk).trans (World.putObj_heap_other (fun e => ?_))) (fun k hk => (h6 k (fun e => hk (by simp [e]))).trans (World.putObj_heap_other (fun e => hk (by simp [e]))))
    have := (hm.lies D (by simp)).2
    omega
theorem Keep.putObj {S : Nat → Prop} (W : World) {l : Nat} (hl : ¬ S l) (o : Obj) : Keep S W (W.putObj l o) :=
  ⟨rfl, rfl, rfl, by simp, fun k hk => World.putObj_heap_other (fun e => hl (e ▸ hk))⟩
theorem keepK_b {S : Nat → Prop} {w : World} (hS : ∀ k, S k → k < w.heap.size) (W : World) (l : Nat) (o o' : Obj) (hl : w.heap.size ≤ l) (_ : W.heap[l]? = some o) (_ : o.isCells = false) (_ : o.isWalk = false) : Keep S W (W.putObj l o') :=
  Keep.putObj W (fun h => by have := hS l h; omega) o'
/-- append inside a region that draws its order, within a fence -/
theorem stepIn_app_g {α : Type} {W : World} {ops : Array Oper} {o : Oper} {a : Act} {K : Act → World → Prop} {Q : Exit → Act → World → Prop} {E : Prop} (hgd : o.guard = none) (s x : Operand) (t : TypeId)
    (ho : o.op = .call { callee := .builtin .append, args := #[s, x], argTypes := #[t, t] }) {e : TypeId} {m bytes : Nat} {z : Value} (hu : P.underlying t = some (.slice e)) (hinfo : (P.info? e).map (fun i => (i.zero, i.size, i.bytes)) = some (some z, m, bytes)) (hzs : z.cells.size = m) (hn : 0 < m)
    {enc : α → List Value} (henc : ∀ x, (enc x).length = m) (hone : ∀ x, ∀ u ∈ enc x, u.oneCell' = true) (base : Nat) (u v : Value) (xs ys : List α) (hs : a.eval s = u) (hx : a.eval x = v) (hown : W.ownsRow base e m u xs.length (xs.flatMap enc)) (hrd : Rd W m enc v ys)
    (h63 : xs.length + ys.length ≤ 100000000) (hbytes : bytes ≤ 1000000) (hbase : base ≤ W.heap.size)
    (h : ∀ au cu w', w'.ownsRow base e m (.slice au (xs.length + ys.length) cu) (xs.length + ys.length) ((xs ++ ys).flatMap enc) → W.grownBy w' u.ownBlock → K (a.put o.dst (.slice au (xs.length + ys.length) cu)) w') :
    if Region.wanted o (yielded ops a.tmps) = true then Oper.wpIn F n P o a W K Q else E := by
  have hw : Region.wanted o (yielded ops a.tmps) = true := by simp [Region.wanted, hgd]
  rw [if_pos hw]
  obtain ⟨au, cu, w', hr, h2, h3⟩ := run_app_rd (P := P) (ty := o.type) hu hinfo hzs hn henc hone hown hrd h63 hbytes hbase
  unfold Oper.wpIn
  refine ⟨?_, ?_⟩
  · simp [Oper.about, ho, resolve, Target.leads, Sem.run_pure]
  · rw [Oper.semAt_plain F _ _ (by rw [ho]; intro c hc'; cases hc')]
    simp [execOp, ho, resolve, invoke, builtin, hs, hx, hr, Result.andThen]
    exact h au cu w' h2 h3
end V
end Go.Proofs.YtbpmokffhmiacaaGreatDoor
