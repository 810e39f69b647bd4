/- Small words on worlds that all walks of this seat use: what lay there when a call began lies as it lay. -/
import Derived.Test.YtjgglocabjpmeaaRows
import Derived.WalkKit
import Derived.WalkSpells
import Derived.WalkLawsBesides
import Derived.Lib.Hide
import Derived.BigQuiet
import Derived.Deep.QuietTactic
import Derived.Deep.RegionHeld3
import Derived.ProofKit
import Derived.SizedLaws
namespace Go.Proofs.Ytjgglocabjpmeaa
open Go.RowKit
namespace V
/-- all that lay in w lies in w' as it lay -/
def Ext (w w' : World) : Prop := Below w.heap.size w w'
theorem Ext.refl (w : World) : Ext w w := Below.refl _ _
theorem Ext.trans {a b c : World} (h : Ext a b) (k : Ext b c) : Ext a c := Below.trans h (Below.mono k h.size)
theorem Ext.alloc {a w : World} (h : Ext a w) (o : Obj) : Ext a (w.alloc o) := Below.alloc h h.size o
theorem Ext.drew {a w : World} (h : Ext a w) : Ext a w.drew := Below.drew h
theorem Ext.drewN {a w : World} (h : Ext a w) (n : Nat) : Ext a (w.drewN n) := below_drewN h n
theorem Ext.size {a w : World} (h : Ext a w) : a.heap.size ≤ w.heap.size := Below.size h
theorem Ext.setCell {a w : World} (h : Ext a w) {p : Addr} (hp : a.heap.size ≤ p.block) (u : Value) : Ext a (w.setCell p u) := Below.setCell h hp u
theorem Ext.cell {a w : World} (h : Ext a w) {p : Addr} {v : Value} (hv : a.cell? p = some v) : w.cell? p = some v :=
  (Below.cell h (World.block_lt_of_cell? _ _ hv)).trans hv
theorem Ext.grown {a w w' : World} {row : Option Nat} (h : Ext a w) (hg : w.grownBy w' row) (hr : ∀ k, row = some k → a.heap.size ≤ k) : Ext a w' :=
  Below.grown h hg h.size hr
theorem Ext.block {a w : World} (h : Ext a w) {k : Nat} (hk : k < a.heap.size) : w.heap[k]? = a.heap[k]? := Below.block h k hk
/-- cells cs stand in block b from offset o on -/
def At (w : World) (b o : Nat) (cs : List Value) : Prop := ∀ i, (h : i < cs.length) → w.cell? ⟨b, o + i, none⟩ = some cs[i]
theorem At.ext {a w : World} (h : Ext a w) {b o : Nat} {cs : List Value} (hc : At a b o cs) : At w b o cs := fun i hi => h.cell (hc i hi)
/-- a slice value whose elements, of n cells each, hold what enc says of xs -/
def Rd {α : Type} (w : World) (n : Nat) (enc : α → List Value) (v : Value) (xs : List α) : Prop :=
  ∃ (a : Option Addr) (c : Nat), v = .slice a xs.length c ∧ xs.length ≤ c ∧ (a = none → c = 0) ∧ ∀ i, (h : i < xs.length) → ∃ b o, a = some ⟨b, o, none⟩ ∧ At w b (o + i * n) (enc xs[i])
theorem Rd.ext {α : Type} {a w : World} (h : Ext a w) {n : Nat} {enc : α → List Value} {v : Value} {xs : List α} (hv : Rd a n enc v xs) : Rd w n enc v xs := by
  obtain ⟨ad, c, h1, h2, h3, h4⟩ := hv
  exact ⟨ad, c, h1, h2, h3, fun i hi => let ⟨b, o, e, k⟩ := h4 i hi; ⟨b, o, e, k.ext h⟩⟩
theorem wf_u32 {x : Int} (h : (Lit.int .u32 x).wf = true) : ∃ n : Nat, x = (n : Int) ∧ n < 4294967296 := by
  simp [Lit.wf, IntKind.min, IntKind.max, IntKind.signed, IntKind.bits] at h
  exact ⟨x.toNat, by omega, by omega⟩
theorem wf_u64 {x : Int} (h : (Lit.int .u64 x).wf = true) : ∃ n : Nat, x = (n : Int) ∧ n < 18446744073709551616 := by
  simp [Lit.wf, IntKind.min, IntKind.max, IntKind.signed, IntKind.bits] at h
  exact ⟨x.toNat, by omega, by omega⟩
theorem wf_i64 {x : Int} (h : (Lit.int .i64 x).wf = true) : -9223372036854775808 ≤ x ∧ x ≤ 9223372036854775807 := by
  simp [Lit.wf, IntKind.min, IntKind.max, IntKind.signed, IntKind.bits] at h
  exact ⟨by omega, by omega⟩
/-- an array of structs, indexed -/
theorem run_index_arr {P : Program} {t e : TypeId} {n sz : Nat} {fs : Array Field} (ht : P.underlying t = some (.array n e)) (he : P.underlying e = some (.struct fs))
    (hi : (P.info? e).map (·.size) = some sz) (cs : Array Value) (i : Nat) (h : i < n) (w : World) :
    (Instr.index t (.agg cs) (.int .i64 (i : Int))).run P w = .ok (.agg (cs.extract (i * sz) (i * sz + sz))) w := by
  obtain ⟨inf, hinf, hs⟩ : ∃ inf, P.info? e = some inf ∧ inf.size = sz := by
    cases hh : P.info? e with
    | none => rw [hh] at hi; cases hi
    | some inf => rw [hh] at hi; exact ⟨inf, rfl, by simpa using hi⟩
  have h1 : (0 : Int) ≤ (i : Int) ∧ (i : Int) < (n : Int) := by omega
  simp [Instr.index, asIntOf, run_underlying ht, run_underlying he, part, isAgg, sizeOf, typeInfo, hinf, hs, h]
end V
end Go.Proofs.Ytjgglocabjpmeaa
