/- Small words on worlds that all walks of this seat use: what lay there when a call began lies as it lay. -/
import Derived.Test.YtbpmokffhmiacaaGreatDoorRows
import Derived.WalkKit
import Derived.WalkSpells
import Derived.WalkLawsBesides
import Derived.Lib.Hide
import Derived.BigQuiet
import Derived.Deep.QuietTactic
import Derived.Deep.RegionHeld3
import Derived.ProofKit
import Derived.SizedLaws
namespace Go.Proofs.YtbpmokffhmiacaaGreatDoor
open Go.RowKit
namespace V
/-- all that lay in w lies in w' as it lay -/
def Ext (w w' : World) : Prop := Below w.heap.size w w'
theorem Ext.refl (w : World) : Ext w w := Below.refl _ _
theorem Ext.trans {a b c : World} (h : Ext a b) (k : Ext b c) : Ext a c := Below.trans h (Below.mono k h.size)
theorem Ext.alloc {a w : World} (h : Ext a w) (o : Obj) : Ext a (w.alloc o) := Below.alloc h h.size o
theorem Ext.drew {a w : World} (h : Ext a w) : Ext a w.drew := Below.drew h
theorem Ext.drewN {a w : World} (h : Ext a w) (n : Nat) : Ext a (w.drewN n) := below_drewN h n
theorem Ext.size {a w : World} (h : Ext a w) : a.heap.size ≤ w.heap.size := Below.size h
theorem Ext.setCell {a w : World} (h : Ext a w) {p : Addr} (hp : a.heap.size ≤ p.block) (u : Value) : Ext a (w.setCell p u) := Below.setCell h hp u
theorem Ext.cell {a w : World} (h : Ext a w) {p : Addr} {v : Value} (hv : a.cell? p = some v) : w.cell? p = some v :=
  (Below.cell h (World.block_lt_of_cell? _ _ hv)).trans hv
theorem Ext.grown {a w w' : World} {row : Option Nat} (h : Ext a w) (hg : w.grownBy w' row) (hr : ∀ k, row = some k → a.heap.size ≤ k) : Ext a w' :=
  Below.grown h hg h.size hr
theorem Ext.frozen {a w : World} (h : Ext a w) {p : Addr} {v : Value} (hv : a.cell? p = some v) {b : Bool} (hf : a.frozen? p = b) : w.frozen? p = b :=
  (Below.frozen h (World.block_lt_of_cell? _ _ hv)).trans hf
theorem Ext.block {a w : World} (h : Ext a w) {k : Nat} (hk : k < a.heap.size) : w.heap[k]? = a.heap[k]? := Below.block h k hk
theorem heap_drewN (w : World) (n : Nat) : (w.drewN n).heap = w.heap := by induction n with
  | zero => rfl
  | succ n ih => exact ih
/-- the blocks of S lie as they lay -/
structure Keep (S : Nat → Prop) (w w' : World) : Prop where
  os : w'.os = w.os
  tape : w'.tape = w.tape
  output : w'.output = w.output
  size : w.heap.size ≤ w'.heap.size
  block : ∀ k, S k → w'.heap[k]? = w.heap[k]?
theorem Keep.refl (S : Nat → Prop) (w : World) : Keep S w w := ⟨rfl, rfl, rfl, Nat.le_refl _, fun _ _ => rfl⟩
theorem Keep.trans {S : Nat → Prop} {a b c : World} (h : Keep S a b) (k : Keep S b c) : Keep S a c :=
  ⟨k.os.trans h.os, k.tape.trans h.tape, k.output.trans h.output, Nat.le_trans h.size k.size, fun i hi => (k.block i hi).trans (h.block i hi)⟩
theorem Keep.mono {S S' : Nat → Prop} {w w' : World} (h : Keep S w w') (hs : ∀ k, S' k → S k) : Keep S' w w' := ⟨h.os, h.tape, h.output, h.size, fun k hk => h.block k (hs k hk)⟩
theorem Keep.of_below {B : Nat} {S : Nat → Prop} {w w' : World} (h : Below B w w') (hs : ∀ k, S k → k < B) : Keep S w w' := ⟨h.os, h.tape, h.output, h.size, fun k hk => h.block k (hs k hk)⟩
theorem Keep.below {B : Nat} {S : Nat → Prop} {w w' : World} (h : Keep S w w') (hs : ∀ k, k < B → S k) : Below B w w' := ⟨h.os, h.tape, h.output, h.size, fun k hk => h.block k (hs k hk)⟩
theorem Keep.cell {S : Nat → Prop} {w w' : World} (h : Keep S w w') {p : Addr} (hp : S p.block) : w'.cell? p = w.cell? p := World.cell?_of_block (w := w) (h.block p.block hp)
theorem Keep.setCell {S : Nat → Prop} (w : World) {p : Addr} (hp : ¬ S p.block) (u : Value) : Keep S w (w.setCell p u) :=
  ⟨rfl, rfl, rfl, by simp [World.setCell], fun k hk => Below.heap_setCell _ _ _ _ (fun e => hp (e ▸ hk))⟩
theorem Keep.alloc {S : Nat → Prop} (w : World) (hs : ∀ k, S k → k < w.heap.size) (o : Obj) : Keep S w (w.alloc o) :=
  ⟨rfl, rfl, rfl, by simp, fun k hk => Below.heap_alloc _ _ _ (hs k hk)⟩
theorem keepK_t {S : Nat → Prop} {A B C : World} (h : Keep S A B) (k : Keep S B C) : Keep S A C := h.trans k
/-- cells cs stand in block b from offset o on -/
def At (w : World) (b o : Nat) (cs : List Value) : Prop := ∀ i, (h : i < cs.length) → w.cell? ⟨b, o + i, none⟩ = some cs[i]
theorem At.ext {a w : World} (h : Ext a w) {b o : Nat} {cs : List Value} (hc : At a b o cs) : At w b o cs := fun i hi => h.cell (hc i hi)
/-- a slice value whose elements, of n cells each, hold what enc says of xs -/
def Rd {α : Type} (w : World) (n : Nat) (enc : α → List Value) (v : Value) (xs : List α) : Prop :=
  ∃ (a : Option Addr) (c : Nat), v = .slice a xs.length c ∧ xs.length ≤ c ∧ (a = none → c = 0) ∧ ∀ i, (h : i < xs.length) → ∃ b o, a = some ⟨b, o, none⟩ ∧ At w b (o + i * n) (enc xs[i])
theorem Rd.ext {α : Type} {a w : World} (h : Ext a w) {n : Nat} {enc : α → List Value} {v : Value} {xs : List α} (hv : Rd a n enc v xs) : Rd w n enc v xs := by
  obtain ⟨ad, c, h1, h2, h3, h4⟩ := hv
  exact ⟨ad, c, h1, h2, h3, fun i hi => let ⟨b, o, e, k⟩ := h4 i hi; ⟨b, o, e, k.ext h⟩⟩
theorem wf_u32 {x : Int} (h : (Lit.int .u32 x).wf = true) : ∃ n : Nat, x = (n : Int) ∧ n < 4294967296 := by
  simp [Lit.wf, IntKind.min, IntKind.max, IntKind.signed, IntKind.bits] at h
  exact ⟨x.toNat, by omega, by omega⟩
theorem wf_u64 {x : Int} (h : (Lit.int .u64 x).wf = true) : ∃ n : Nat, x = (n : Int) ∧ n < 18446744073709551616 := by
  simp [Lit.wf, IntKind.min, IntKind.max, IntKind.signed, IntKind.bits] at h
  exact ⟨x.toNat, by omega, by omega⟩
theorem wf_i64 {x : Int} (h : (Lit.int .i64 x).wf = true) : -9223372036854775808 ≤ x ∧ x ≤ 9223372036854775807 := by
  simp [Lit.wf, IntKind.min, IntKind.max, IntKind.signed, IntKind.bits] at h
  exact ⟨by omega, by omega⟩
/-- an array of structs, indexed -/
theorem run_index_arr {P : Program} {t e : TypeId} {n sz : Nat} {fs : Array Field} (ht : P.underlying t = some (.array n e)) (he : P.underlying e = some (.struct fs))
    (hi : (P.info? e).map (·.size) = some sz) (cs : Array Value) (i : Nat) (h : i < n) (w : World) :
    (Instr.index t (.agg cs) (.int .i64 (i : Int))).run P w = .ok (.agg (cs.extract (i * sz) (i * sz + sz))) w := by
  obtain ⟨inf, hinf, hs⟩ : ∃ inf, P.info? e = some inf ∧ inf.size = sz := by
    cases hh : P.info? e with
    | none => rw [hh] at hi; cases hi
    | some inf => rw [hh] at hi; exact ⟨inf, rfl, by simpa using hi⟩
  have h1 : (0 : Int) ≤ (i : Int) ∧ (i : Int) < (n : Int) := by omega
  simp [Instr.index, asIntOf, run_underlying ht, run_underlying he, part, isAgg, sizeOf, typeInfo, hinf, hs, h]
end V
end Go.Proofs.YtbpmokffhmiacaaGreatDoor
