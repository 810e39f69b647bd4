/- Layer 21: the walks of first over tests by Denote's closure, over rules by Find's and Denote's. -/
import Derived.Test.YtkmhfjnjfghnjaaIrJ
import Derived.Test.YtkmhfjnjfghnjaaIrK
import Derived.Test.YtkmhfjnjfghnjaaIrL
namespace Go.Proofs.Ytkmhfjnjfghnjaa
open Go.RowKit V
namespace L21
open L25 (Dat datV OkD)
theorem idxH_cases (p : Test → Bool) : ∀ (ts : List Test) (k : Nat), (idxA p ts k = -1 ∧ ts.any p = false ∧ ts.find? p = none) ∨ ∃ i, ∃ h : i < ts.length, idxA p ts k = ((k + i : Nat) : Int) ∧ ts.find? p = some (ts[i]'h) ∧ ts.any p = true
  | [], k => .inl ⟨rfl, rfl, rfl⟩
  | t :: r, k => by
    cases hp : p t
    · rcases idxH_cases p r (k + 1) with ⟨h1, h2, h4⟩ | ⟨i, h, h1, h2, h3⟩
      · exact .inl ⟨by simp only [idxA, hp]; exact h1, by rw [List.any_cons, hp, h2]; rfl, by rw [List.find?_cons, hp]; exact h4⟩
      · refine .inr ⟨i + 1, by simp; omega, ?_, by rw [List.find?_cons, hp]; simpa using h2, by rw [List.any_cons, h3]; simp⟩
        simp only [idxA, hp]
        have e : ((k + 1 + i : Nat) : Int) = ((k + (i + 1) : Nat) : Int) := by omega
        rw [← e]; exact h1
    · exact .inr ⟨0, by simp, by simp [idxA, hp], by rw [List.find?_cons, hp]; rfl, by rw [List.any_cons, hp]; rfl⟩
/-- what is told of the first test that holds -/
def FndT (d : Dat) (ts : List Test) (t : Test) : Prop := ts.find? (holdP d) = if ts.any (holdP d) = true then some t else none
theorem FndT.no {d : Dat} {ts : List Test} (h1 : ts.any (holdP d) = false) (h2 : ts.find? (holdP d) = none) (t : Test) : FndT d ts t := by unfold FndT; rw [h1, h2]; rfl
theorem FndT.yes {d : Dat} {ts : List Test} {t : Test} (h1 : ts.any (holdP d) = true) (h2 : ts.find? (holdP d) = some t) : FndT d ts t := by unfold FndT; rw [h1, h2]; rfl
set_option maxRecDepth 100000 in
set_option maxHeartbeats 400000 in
theorem firstHold_calls (d : Dat) (hd : OkD d) (B : Nat) (v : Value) (ts : List Test) (hl : ts.length ≤ 140737488351232) (hok : ∀ t ∈ ts, OkT t) (w : World) (hB : Cda w B d) (hv : Rd w 4 encT v ts) :
    Calls Try.prog 53 #[v, .func (.func 54) #[] #[.pointer (some ⟨B, 0, none⟩)]] w fun e w' =>
      ∃ t : Test, e = .returned (.tuple #[.agg #[.int .i64 t.arg, .int .u64 (t.mask : Int), .int .u64 (t.value : Int), .int .u32 (t.action : Int)], .bool (ts.any (holdP d))]) ∧ Ext w w' ∧ FndT d ts t := by
  have hI := fun W (hx : Ext w W) => idxHold_calls d hd B v ts hl hok W (hB.ext hx) (hv.ext hx)
  obtain ⟨a, c, rfl, hac, hca⟩ := rdT_cell hv
  clear hv
  have Hhok := Lib.hid hok
  clear hok
  have HhB := Lib.hid hB
  clear hB
  rcases idxH_cases (holdP d) ts 0 with ⟨h1, h2, hf0⟩ | ⟨i, hi, h1, hf0, h2⟩
  · rw [h1] at hI
    rw [h2]
    have HhI := Lib.hid hI
    clear hI
    have Hh1 := Lib.hid h1
    clear h1
    have Hh2 := Lib.hid h2
    clear h2
    have Hhf0 := Lib.hid hf0
    clear hf0
    clear hca
    go_enter Try.func53, Try.ntmps53
    go_wp2_with fail
    refine (HhI.out _ ((Ext.refl _).alloc _)).mono ?_
    rintro e w1 ⟨rfl, hx1⟩
    have z0 := hx1.cell (p := ⟨w.heap.size, 0, none⟩) (by simp [go_sem]; rfl)
    have z1 := hx1.cell (p := ⟨w.heap.size, 1, none⟩) (by simp [go_sem]; rfl)
    have z2 := hx1.cell (p := ⟨w.heap.size, 2, none⟩) (by simp [go_sem]; rfl)
    have z3 := hx1.cell (p := ⟨w.heap.size, 3, none⟩) (by simp [go_sem]; rfl)
    have hsz : w.heap.size < w1.heap.size := World.block_lt_of_cell? _ _ z0
    have hf : ∀ j, w1.frozen? ⟨w.heap.size, j, none⟩ = false := fun j => (World.frozen?_of_block (hx1.block (by simp))).trans (by simp [go_sem])
    have f0 := hf 0
    have f1 := hf 1
    have f2 := hf 2
    have f3 := hf 3
    have HX1 := Lib.hid (((Ext.refl w).alloc _).trans hx1)
    clear hx1 hf
    go_wp2_with fail
    have hne : ¬ w.heap.size = w1.heap.size := by omega
    refine bodyPost_ret (v := .tuple #[.agg #[.int .i64 0, .int .u64 0, .int .u64 0, .int .u32 0], .bool false]) (by first | (simp [results, Try.results53, go_sem, World.cell?_alloc_old, hne, z0, z1, z2, z3]; done) | (simp [results, Try.results53, go_sem, World.cell?_alloc_old, hne, z0, z1, z2, z3]; rfl)) rfl ⟨⟨0, 0, 0, 0⟩, rfl, ?_, FndT.no Hh2.out Hhf0.out _⟩
    repeat (first | exact HX1.out | refine Ext.alloc ?_ _ | refine Ext.setCell ?_ (by simp) _)
  · have hi0 : (((0 + i : Nat) : Int)) = (i : Int) := by omega
    rw [h1, hi0] at hI
    rw [h2]
    obtain ⟨b, o, rfl, g0, g1, g2, g3⟩ := hca i hi
    generalize ts[i]'hi = t at *
    have HhI := Lib.hid hI
    clear hI
    have Hh1 := Lib.hid h1
    clear h1
    have Hh2 := Lib.hid h2
    clear h2
    have Hhf0 := Lib.hid hf0
    clear hf0
    clear hca hi0
    have d0 : decide ((0 : Int) ≤ (i : Int)) = true := decide_eq_true (by omega)
    go_enter Try.func53, Try.ntmps53
    go_wp2_with fail
    refine (HhI.out _ ((Ext.refl _).alloc _)).mono ?_
    rintro e w1 ⟨rfl, hx1⟩
    have z0 := hx1.cell (p := ⟨w.heap.size, 0, none⟩) (by simp [go_sem]; rfl)
    have z1 := hx1.cell (p := ⟨w.heap.size, 1, none⟩) (by simp [go_sem]; rfl)
    have z2 := hx1.cell (p := ⟨w.heap.size, 2, none⟩) (by simp [go_sem]; rfl)
    have z3 := hx1.cell (p := ⟨w.heap.size, 3, none⟩) (by simp [go_sem]; rfl)
    have hsz : w.heap.size < w1.heap.size := World.block_lt_of_cell? _ _ z0
    have hf : ∀ j, w1.frozen? ⟨w.heap.size, j, none⟩ = false := fun j => (World.frozen?_of_block (hx1.block (by simp))).trans (by simp [go_sem])
    have f0 := hf 0
    have f1 := hf 1
    have f2 := hf 2
    have f3 := hf 3
    have hxx := ((Ext.refl w).alloc (.cells #[.int .i64 0, .int .u64 0, .int .u64 0, .int .u32 0] 37)).trans hx1
    replace g0 := hxx.cell g0
    replace g1 := hxx.cell g1
    replace g2 := hxx.cell g2
    replace g3 := hxx.cell g3
    have HX1 := Lib.hid hxx
    clear hx1 hf hxx
    go_wp2_with fail
    refine bodyPost_ret (v := .tuple #[.agg #[.int .i64 t.arg, .int .u64 (t.mask : Int), .int .u64 (t.value : Int), .int .u32 (t.action : Int)], .bool true]) (by first | (simp [results, Try.results53, go_sem, z0, z1, z2, z3]; done) | (simp [results, Try.results53, go_sem, z0, z1, z2, z3]; rfl)) rfl ⟨t, rfl, ?_, FndT.yes Hh2.out Hhf0.out⟩
    repeat (first | exact HX1.out | refine Ext.alloc ?_ _ | refine Ext.setCell ?_ (by simp) _)
end L21
end Go.Proofs.Ytkmhfjnjfghnjaa
