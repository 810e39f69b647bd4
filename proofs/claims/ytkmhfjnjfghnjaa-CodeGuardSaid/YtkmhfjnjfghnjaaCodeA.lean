/- Layers 1, 3 and 25: data and rows of instructions as plain data; the walks of the words of data. -/
import Derived.Test.YtkmhfjnjfghnjaaApp
namespace Go.Proofs.Ytkmhfjnjfghnjaa
open Go.RowKit V
namespace L25
structure Dat where
  nr : Nat
  ar : Nat
  ip : Nat
  a0 : Nat
  a1 : Nat
  a2 : Nat
  a3 : Nat
  a4 : Nat
  a5 : Nat
structure OkD (d : Dat) : Prop where
  nr : d.nr < 4294967296
  ar : d.ar < 4294967296
  ip : d.ip < 18446744073709551616
  a0 : d.a0 < 18446744073709551616
  a1 : d.a1 < 18446744073709551616
  a2 : d.a2 < 18446744073709551616
  a3 : d.a3 < 18446744073709551616
  a4 : d.a4 < 18446744073709551616
  a5 : d.a5 < 18446744073709551616
def datV (d : Dat) : Value := .agg #[.int .u32 (d.nr : Int), .int .u32 (d.ar : Int), .int .u64 (d.ip : Int), .int .u64 (d.a0 : Int), .int .u64 (d.a1 : Int), .int .u64 (d.a2 : Int), .int .u64 (d.a3 : Int), .int .u64 (d.a4 : Int), .int .u64 (d.a5 : Int)]
def encU (n : Nat) : List Value := [.int .u64 (n : Int)]
theorem encU_len (n : Nat) : (encU n).length = 1 := rfl
theorem encU_one (s : Nat) : ∀ u ∈ encU s, u.oneCell' = true := by intro u hu; simp [encU] at hu; subst hu; rfl
theorem infoU : (Try.prog.info? 35).map (fun i => (i.zero, i.size, i.bytes)) = some (some (.int .u64 0), 1, 8) := by kernel_rfl
def lo (x : Nat) : Nat := x % 4294967296
def hi (x : Nat) : Nat := x / 4294967296
def wide (d : Dat) : List Nat := [d.ip, d.a0, d.a1, d.a2, d.a3, d.a4, d.a5]
def wds (d : Dat) : List Nat := [d.nr, d.ar, lo d.ip, hi d.ip, lo d.a0, hi d.a0, lo d.a1, hi d.a1, lo d.a2, hi d.a2, lo d.a3, hi d.a3, lo d.a4, hi d.a4, lo d.a5, hi d.a5]
theorem wide_len (d : Dat) : (wide d).length = 7 := rfl
theorem Halves_calls (x : Nat) (hx : x < 18446744073709551616) (w : World) :
    Calls Try.prog 108 #[.int .u64 (x : Int)] w fun e w' => e = .returned (.tuple #[.int .u32 (lo x : Nat), .int .u32 (hi x : Nat)]) ∧ Ext w w' := by
  have hw1 : IntKind.u32.wrap (x : Int) = ((lo x : Nat) : Int) := by unfold lo; simp [go_sem, IntKind.wrap, IntKind.signed, IntKind.bits]
  have hw2 : IntKind.u32.wrap ((x : Int) / 4294967296) = ((hi x : Nat) : Int) := by unfold hi; simp [go_sem, IntKind.wrap, IntKind.signed, IntKind.bits]; omega
  go_enter Try.func108, Try.ntmps108
  go_wp2
  go_ret2
  exact ⟨rfl, Ext.refl _⟩
theorem own_new {w : World} {base e n k c m : Nat} {a : Option Addr} {zs : List Value} (h : w.ownsRow base e n (.slice a k c) m zs) (b o : Nat) (he : a = some ⟨b, o, none⟩) : base ≤ b := by
  subst he
  rcases h.2 with ⟨h1, -⟩ | ⟨g, cap, cur, hv, hg, -⟩
  · cases h1
  · simp only [Value.slice.injEq, Option.some.injEq, Addr.mk.injEq] at hv
    omega
theorem wide_calls (x : Nat) (v : Value) (xs : List Nat) (hl : xs.length ≤ 1000) (w : World) (hv : Rd w 1 encU v xs) :
    Calls Try.prog 107 #[.int .u64 (x : Int), v] w fun e w' => ∃ a c, e = .returned (.slice a (xs.length + 1) c) ∧ Rd w' 1 encU (.slice a (xs.length + 1) c) (x :: xs) ∧ (∀ b o, a = some ⟨b, o, none⟩ → w.heap.size ≤ b) ∧ Ext w w' := by
  have HV := Lib.hid hv
  have hlx : [x].length + xs.length = (x :: xs).length := by simp; omega
  have hl1 : (x :: xs).length = xs.length + 1 := rfl
  have HL := Lib.hid hlx
  go_enter Try.func107, Try.ntmps107
  go_wp2_with (at_builtin; refine wpList_app_rd rfl (.tmp 6) (.tmp 7) _ rfl Try.underlying157 infoU rfl (by decide) encU_len encU_one w _ _ [x] xs rfl rfl (own_lit encU_len w [x] _ _ w.heap.size rfl (Nat.le_refl _) (by unfold maxLen; simp)) (HV.out.ext ((Ext.refl _).alloc _)) (by simp; omega) (by decide) ((Ext.refl _).alloc _) ?_; intro au1 cu1 w1 ho1 hx1; rw [HL.out] at ho1 ⊢; have HO1 := Lib.hid (rd_of_own (n := 1) (enc := encU) (xs := x :: xs) encU_len ho1); have HN1 := Lib.hid (own_new ho1); have HX1 := Lib.hid hx1; clear ho1 hx1)
  go_ret
  exact ⟨_, _, rfl, HO1.out, HN1.out, HX1.out⟩
/-- a word of data -/
def wd (d : Dat) (k : Nat) : Nat := (wds d).getD (k / 4) 0
def okW (k : Nat) : Bool := (k % 4 == 0) && decide (k < 64)
def wordA (d : Dat) (k : Nat) : Nat × Int := if okW k = true then (wd d k, 0) else (0, 41)
theorem wds_bd {d : Dat} (hd : OkD d) : ∀ x ∈ wds d, x < 4294967296 := by
  intro x hx
  have h1 := hd.nr; have h2 := hd.ar; have h3 := hd.ip; have h4 := hd.a0; have h5 := hd.a1; have h6 := hd.a2; have h7 := hd.a3; have h8 := hd.a4; have h9 := hd.a5
  simp only [wds, List.mem_cons, List.not_mem_nil, or_false] at hx
  unfold lo hi at hx
  rcases hx with rfl | rfl | rfl | rfl | rfl | rfl | rfl | rfl | rfl | rfl | rfl | rfl | rfl | rfl | rfl | rfl <;> omega
theorem wd_bd {d : Dat} (hd : OkD d) (k : Nat) : wd d k < 4294967296 := by
  unfold wd
  rw [List.getD_eq_getElem?_getD]
  by_cases h : k / 4 < (wds d).length
  · rw [List.getElem?_eq_getElem h]; exact wds_bd hd _ (List.getElem_mem h)
  · rw [List.getElem?_eq_none (by omega)]; decide
def Fz (w : World) (B : Nat) : Prop := ∀ j, w.frozen? ⟨B, j, none⟩ = false
theorem Fz.ext {a w : World} (h : Ext a w) {B : Nat} (hB : B < a.heap.size) (hf : Fz a B) : Fz w B := fun j => (World.frozen?_of_block (h.block hB)).trans (hf j)
theorem Fz.keep {S : Nat → Prop} {a w : World} (h : Keep S a w) {B : Nat} (hB : S B) (hf : Fz a B) : Fz w B := fun j => (World.frozen?_of_block (h.block B hB)).trans (hf j)
theorem Fz.set {w : World} {B : Nat} (hf : Fz w B) (p : Addr) (v : Value) : Fz (w.setCell p v) B := fun j => (World.frozen?_setCell _ _ _ _).trans (hf j)
theorem named_world {P : Program} {C : Code} {Q : Exit → Act → World → Prop} {a : Act} {W : World} (p : World → Prop) (hp : p W) (h : ∀ W1, p W1 → C.wp P Q a W1) : C.wp P Q a W := h W hp
end L25
end Go.Proofs.Ytkmhfjnjfghnjaa
