import Derived.Test.YtkmhfjnjfghnjaaMp11
/- Layer 21: the walks of first over rules by Find's and Denote's closures. -/
namespace Go.Proofs.Ytkmhfjnjfghnjaa
open Go.RowKit V
namespace L21
/-- what is told of the first rule of a number: its cells, its tests -/
def FndR (w : World) (nr : Nat) (rs : List Rule) (r : Rule) (u : Value) : Prop :=
  (idxR nr rs 0 = -1 ∧ r = ⟨0, [], 0⟩ ∧ u = .slice none 0 0) ∨ ∃ i, ∃ h : i < rs.length, idxR nr rs 0 = (i : Int) ∧ r = rs[i]'h ∧ Rd w 4 encT u r.tests
set_option maxRecDepth 100000 in
set_option maxHeartbeats 400000 in
theorem findFirst_calls (v : Value) (rs : List Rule) (nr B : Nat) (hl : rs.length ≤ 140737488351232) (w : World) (hB : w.cell? ⟨B, 0, none⟩ = some (.int .u32 (nr : Int))) (hv : RdR w 3 (IsR w) v rs) :
    Calls Try.prog 46 #[v, .func (.func 47) #[] #[.pointer (some ⟨B, 0, none⟩)]] w fun e w' =>
      ∃ (r : Rule) (u : Value), e = .returned (.tuple #[.agg #[.int .u32 (r.nr : Int), u, .int .u32 (r.action : Int)], .bool (decide (0 ≤ idxR nr rs 0))]) ∧ Ext w w' ∧ FndR w nr rs r u := by
  have hI := fun W (hx : Ext w W) => findIdx_calls v rs nr B hl W (hx.cell hB) (rdRR_ext hx hv)
  obtain ⟨a, c, rfl, hac, hca⟩ := rdR_cell hv
  clear hv hB
  rcases idxR_cases nr rs 0 with ⟨h1, -⟩ | ⟨i, hi, h1, -⟩
  · rw [h1] at hI
    rw [h1]
    have HhI := Lib.hid hI
    clear hI
    have Hh1 := Lib.hid h1
    clear h1
    clear hca
    go_enter Try.func46, Try.ntmps46
    go_wp2_with fail
    refine (HhI.out _ ((Ext.refl _).alloc _)).mono ?_
    rintro e w1 ⟨rfl, hx1⟩
    have z0 := hx1.cell (p := ⟨w.heap.size, 0, none⟩) (by simp [go_sem]; rfl)
    have z1 := hx1.cell (p := ⟨w.heap.size, 1, none⟩) (by simp [go_sem]; rfl)
    have z2 := hx1.cell (p := ⟨w.heap.size, 2, none⟩) (by simp [go_sem]; rfl)
    have hsz : w.heap.size < w1.heap.size := World.block_lt_of_cell? _ _ z0
    have hf : ∀ j, w1.frozen? ⟨w.heap.size, j, none⟩ = false := fun j => (World.frozen?_of_block (hx1.block (by simp))).trans (by simp [go_sem])
    have f0 := hf 0
    have f1 := hf 1
    have f2 := hf 2
    have HX1 := Lib.hid (((Ext.refl w).alloc _).trans hx1)
    clear hx1 hf
    go_wp2_with fail
    have hne : ¬ w.heap.size = w1.heap.size := by omega
    refine bodyPost_ret (v := .tuple #[.agg #[.int .u32 0, .slice none 0 0, .int .u32 0], .bool false]) (by first | (simp [results, Try.results46, go_sem, World.cell?_alloc_old, hne, z0, z1, z2]; done) | (simp [results, Try.results46, go_sem, World.cell?_alloc_old, hne, z0, z1, z2]; rfl)) rfl ⟨⟨0, [], 0⟩, _, rfl, ?_, .inl ⟨Hh1.out, rfl, rfl⟩⟩
    repeat (first | exact HX1.out | refine Ext.alloc ?_ _ | refine Ext.setCell ?_ (by simp) _)
  · have hi0 : (((0 + i : Nat) : Int)) = (i : Int) := by omega
    rw [hi0] at h1
    rw [h1] at hI
    rw [h1]
    obtain ⟨b, o, u, rfl, g0, g1, g2, g3⟩ := hca i hi
    have g3b := g3
    obtain ⟨au, cu, rfl, -, -⟩ := rdT_cell g3b
    clear g3b
    have hF : FndR w nr rs (rs[i]'hi) (.slice au (rs[i]'hi).tests.length cu) := .inr ⟨i, hi, h1, rfl, g3⟩
    generalize rs[i]'hi = t at *
    have HhI := Lib.hid hI
    clear hI
    have Hh1 := Lib.hid h1
    clear h1
    have HhF := Lib.hid hF
    clear hF
    have Hg3 := Lib.hid g3
    clear g3
    clear hca hi0
    have d0 : decide ((0 : Int) ≤ (i : Int)) = true := decide_eq_true (by omega)
    go_enter Try.func46, Try.ntmps46
    go_wp2_with fail
    refine (HhI.out _ ((Ext.refl _).alloc _)).mono ?_
    rintro e w1 ⟨rfl, hx1⟩
    have z0 := hx1.cell (p := ⟨w.heap.size, 0, none⟩) (by simp [go_sem]; rfl)
    have z1 := hx1.cell (p := ⟨w.heap.size, 1, none⟩) (by simp [go_sem]; rfl)
    have z2 := hx1.cell (p := ⟨w.heap.size, 2, none⟩) (by simp [go_sem]; rfl)
    have hsz : w.heap.size < w1.heap.size := World.block_lt_of_cell? _ _ z0
    have hf : ∀ j, w1.frozen? ⟨w.heap.size, j, none⟩ = false := fun j => (World.frozen?_of_block (hx1.block (by simp))).trans (by simp [go_sem])
    have f0 := hf 0
    have f1 := hf 1
    have f2 := hf 2
    have hxx := ((Ext.refl w).alloc (.cells #[.int .u32 0, .slice none 0 0, .int .u32 0] 34)).trans hx1
    replace g0 := hxx.cell g0
    replace g1 := hxx.cell g1
    replace g2 := hxx.cell g2
    have HX1 := Lib.hid hxx
    clear hx1 hf hxx
    go_wp2_with fail
    refine bodyPost_ret (v := .tuple #[.agg #[.int .u32 (t.nr : Int), .slice au t.tests.length cu, .int .u32 (t.action : Int)], .bool true]) (by first | (simp [results, Try.results46, go_sem, z0, z1, z2]; done) | (simp [results, Try.results46, go_sem, z0, z1, z2]; rfl)) rfl ⟨t, _, rfl, ?_, HhF.out⟩
    repeat (first | exact HX1.out | refine Ext.alloc ?_ _ | refine Ext.setCell ?_ (by simp) _)
set_option maxRecDepth 100000 in
set_option maxHeartbeats 400000 in
theorem denoteFirst_calls (v : Value) (rs : List Rule) (nr B : Nat) (hl : rs.length ≤ 140737488351232) (w : World) (hB : w.cell? ⟨B, 0, none⟩ = some (.int .u32 (nr : Int))) (hv : RdR w 3 (IsR w) v rs) :
    Calls Try.prog 46 #[v, .func (.func 52) #[] #[.pointer (some ⟨B, 0, none⟩)]] w fun e w' =>
      ∃ (r : Rule) (u : Value), e = .returned (.tuple #[.agg #[.int .u32 (r.nr : Int), u, .int .u32 (r.action : Int)], .bool (decide (0 ≤ idxR nr rs 0))]) ∧ Ext w w' ∧ FndR w nr rs r u := by
  have hI := fun W (hx : Ext w W) => denoteIdx_calls v rs nr B hl W (hx.cell hB) (rdRR_ext hx hv)
  obtain ⟨a, c, rfl, hac, hca⟩ := rdR_cell hv
  clear hv hB
  rcases idxR_cases nr rs 0 with ⟨h1, -⟩ | ⟨i, hi, h1, -⟩
  · rw [h1] at hI
    rw [h1]
    have HhI := Lib.hid hI
    clear hI
    have Hh1 := Lib.hid h1
    clear h1
    clear hca
    go_enter Try.func46, Try.ntmps46
    go_wp2_with fail
    refine (HhI.out _ ((Ext.refl _).alloc _)).mono ?_
    rintro e w1 ⟨rfl, hx1⟩
    have z0 := hx1.cell (p := ⟨w.heap.size, 0, none⟩) (by simp [go_sem]; rfl)
    have z1 := hx1.cell (p := ⟨w.heap.size, 1, none⟩) (by simp [go_sem]; rfl)
    have z2 := hx1.cell (p := ⟨w.heap.size, 2, none⟩) (by simp [go_sem]; rfl)
    have hsz : w.heap.size < w1.heap.size := World.block_lt_of_cell? _ _ z0
    have hf : ∀ j, w1.frozen? ⟨w.heap.size, j, none⟩ = false := fun j => (World.frozen?_of_block (hx1.block (by simp))).trans (by simp [go_sem])
    have f0 := hf 0
    have f1 := hf 1
    have f2 := hf 2
    have HX1 := Lib.hid (((Ext.refl w).alloc _).trans hx1)
    clear hx1 hf
    go_wp2_with fail
    have hne : ¬ w.heap.size = w1.heap.size := by omega
    refine bodyPost_ret (v := .tuple #[.agg #[.int .u32 0, .slice none 0 0, .int .u32 0], .bool false]) (by first | (simp [results, Try.results46, go_sem, World.cell?_alloc_old, hne, z0, z1, z2]; done) | (simp [results, Try.results46, go_sem, World.cell?_alloc_old, hne, z0, z1, z2]; rfl)) rfl ⟨⟨0, [], 0⟩, _, rfl, ?_, .inl ⟨Hh1.out, rfl, rfl⟩⟩
    repeat (first | exact HX1.out | refine Ext.alloc ?_ _ | refine Ext.setCell ?_ (by simp) _)
  · have hi0 : (((0 + i : Nat) : Int)) = (i : Int) := by omega
    rw [hi0] at h1
    rw [h1] at hI
    rw [h1]
    obtain ⟨b, o, u, rfl, g0, g1, g2, g3⟩ := hca i hi
    have g3b := g3
    obtain ⟨au, cu, rfl, -, -⟩ := rdT_cell g3b
    clear g3b
    have hF : FndR w nr rs (rs[i]'hi) (.slice au (rs[i]'hi).tests.length cu) := .inr ⟨i, hi, h1, rfl, g3⟩
    generalize rs[i]'hi = t at *
    have HhI := Lib.hid hI
    clear hI
    have Hh1 := Lib.hid h1
    clear h1
    have HhF := Lib.hid hF
    clear hF
    have Hg3 := Lib.hid g3
    clear g3
    clear hca hi0
    have d0 : decide ((0 : Int) ≤ (i : Int)) = true := decide_eq_true (by omega)
    go_enter Try.func46, Try.ntmps46
    go_wp2_with fail
    refine (HhI.out _ ((Ext.refl _).alloc _)).mono ?_
    rintro e w1 ⟨rfl, hx1⟩
    have z0 := hx1.cell (p := ⟨w.heap.size, 0, none⟩) (by simp [go_sem]; rfl)
    have z1 := hx1.cell (p := ⟨w.heap.size, 1, none⟩) (by simp [go_sem]; rfl)
    have z2 := hx1.cell (p := ⟨w.heap.size, 2, none⟩) (by simp [go_sem]; rfl)
    have hsz : w.heap.size < w1.heap.size := World.block_lt_of_cell? _ _ z0
    have hf : ∀ j, w1.frozen? ⟨w.heap.size, j, none⟩ = false := fun j => (World.frozen?_of_block (hx1.block (by simp))).trans (by simp [go_sem])
    have f0 := hf 0
    have f1 := hf 1
    have f2 := hf 2
    have hxx := ((Ext.refl w).alloc (.cells #[.int .u32 0, .slice none 0 0, .int .u32 0] 34)).trans hx1
    replace g0 := hxx.cell g0
    replace g1 := hxx.cell g1
    replace g2 := hxx.cell g2
    have HX1 := Lib.hid hxx
    clear hx1 hf hxx
    go_wp2_with fail
    refine bodyPost_ret (v := .tuple #[.agg #[.int .u32 (t.nr : Int), .slice au t.tests.length cu, .int .u32 (t.action : Int)], .bool true]) (by first | (simp [results, Try.results46, go_sem, z0, z1, z2]; done) | (simp [results, Try.results46, go_sem, z0, z1, z2]; rfl)) rfl ⟨t, _, rfl, ?_, HhF.out⟩
    repeat (first | exact HX1.out | refine Ext.alloc ?_ _ | refine Ext.setCell ?_ (by simp) _)
end L21
end Go.Proofs.Ytkmhfjnjfghnjaa

