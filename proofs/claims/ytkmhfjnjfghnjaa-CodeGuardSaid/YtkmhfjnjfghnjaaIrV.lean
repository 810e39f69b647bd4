/- Layer 21: the walks of twin and Find. -/
import Derived.Test.YtkmhfjnjfghnjaaIrS
import Derived.Test.YtkmhfjnjfghnjaaIrP
namespace Go.Proofs.Ytkmhfjnjfghnjaa
open Go.RowKit V
namespace L21
theorem own_set {w : World} {base e n k : Nat} {v : Value} {zs : List Value} (h : w.ownsRow base e n v k zs) {p : Addr} (hp : p.block < base) (u : Value) : (w.setCell p u).ownsRow base e n v k zs :=
  ownsRow_keep (S := fun b => base ≤ b) h (Keep.setCell w (by omega) u) (fun b hb => (h.lt b hb).1)
theorem own_base {w : World} {b b' e n k : Nat} {v : Value} {zs : List Value} (h : w.ownsRow b e n v k zs) (hb : b' ≤ b) : w.ownsRow b' e n v k zs := by
  refine ⟨h.1, ?_⟩
  rcases h.2 with h2 | ⟨g, cap, cur, rfl, hg, r⟩
  · exact .inl h2
  · exact .inr ⟨g, cap, cur, rfl, by omega, r⟩
set_option maxRecDepth 100000 in
set_option maxHeartbeats 400000 in
theorem twin_calls (r : Rule) (v : Value) (hl : r.tests.length ≤ 1000000) (w : World) (hv : Rd w 4 encT v r.tests) :
    Calls Try.prog 48 #[.agg #[.int .u32 (r.nr : Int), v, .int .u32 (r.action : Int)]] w fun e w' =>
      ∃ a c, e = .returned (.agg #[.int .u32 (r.nr : Int), .slice a r.tests.length c, .int .u32 (r.action : Int)]) ∧ w'.ownsRow w.heap.size 37 4 (.slice a r.tests.length c) r.tests.length (r.tests.flatMap encT) ∧ Ext w w' := by
  obtain ⟨rn, ts, ra⟩ := r
  dsimp only at *
  have hC := fun W (hx : Ext w W) => Clone_calls v ts hl W (hv.ext hx)
  obtain ⟨av, cv, rfl, -, -⟩ := rdT_cell hv
  have HhC := Lib.hid hC
  clear hC
  go_enter Try.func48, Try.ntmps48
  go_wp2_with fail
  refine (HhC.out _ (((Ext.refl _).alloc _).alloc _)).mono ?_
  rintro e w1 ⟨u, rfl, ho, hx1⟩
  obtain ⟨au, cu, rfl⟩ := own_form ho
  have z0 := hx1.cell (p := ⟨w.heap.size, 0, none⟩) (by simp [go_sem]; rfl)
  have z1 := hx1.cell (p := ⟨w.heap.size, 1, none⟩) (by simp [go_sem]; rfl)
  have z2 := hx1.cell (p := ⟨w.heap.size, 2, none⟩) (by simp [go_sem]; rfl)
  have y0 := hx1.cell (p := ⟨w.heap.size + 1, 0, none⟩) (by simp [go_sem]; rfl)
  have y1 := hx1.cell (p := ⟨w.heap.size + 1, 1, none⟩) (by simp [go_sem]; rfl)
  have y2 := hx1.cell (p := ⟨w.heap.size + 1, 2, none⟩) (by simp [go_sem]; rfl)
  have f0 : w1.frozen? ⟨w.heap.size, 1, none⟩ = false := (World.frozen?_of_block (hx1.block (by simp; omega))).trans (by simp [go_sem])
  have f1 : ∀ j, w1.frozen? ⟨w.heap.size + 1, j, none⟩ = false := fun j => (World.frozen?_of_block (hx1.block (by simp))).trans (by simp [go_sem])
  have f10 := f1 0
  have f11 := f1 1
  have f12 := f1 2
  have hb1 : w.heap.size < w1.heap.size := World.block_lt_of_cell? _ _ z0
  have hb2 : w.heap.size + 1 < w1.heap.size := World.block_lt_of_cell? _ _ y0
  have HO := Lib.hid (own_base (b' := w.heap.size + 2) ho (by simp))
  have HX1 := Lib.hid ((((Ext.refl w).alloc _).alloc _).trans hx1)
  clear hx1 ho f1
  go_wp2_with fail
  refine bodyPost_ret (v := .agg #[.int .u32 (rn : Int), .slice au ts.length cu, .int .u32 (ra : Int)]) (by first | (simp [results, Try.results48, go_sem, y0, y1, y2]; done) | (simp [results, Try.results48, go_sem, y0, y1, y2]; rfl)) rfl ⟨_, _, rfl, ?_, ?_⟩
  · refine own_base (b := w.heap.size + 2) ?_ (by omega)
    repeat (first | exact HO.out | refine own_set ?_ (by first | (simp; done) | (simp; omega)) _)
  · repeat (first | exact HX1.out | refine Ext.setCell ?_ (by first | (simp; done) | (simp; omega)) _)
/-- which rule is told of a number -/
def FndI (nr : Nat) (rs : List Rule) (r : Rule) : Prop := (idxR nr rs 0 = -1 ∧ r = ⟨0, [], 0⟩) ∨ ∃ i, ∃ h : i < rs.length, idxR nr rs 0 = (i : Int) ∧ r = rs[i]'h
set_option maxRecDepth 100000 in
set_option maxHeartbeats 1000000 in
theorem Find_calls (f : Filter) (u : Value) (nr : Nat) (hl : f.rules.length ≤ 1000) (hlr : ∀ r ∈ f.rules, r.tests.length ≤ 1000) (w : World) (hu : RdR w 3 (IsR w) u f.rules) :
    Calls Try.prog 22 #[.agg #[.int .i64 f.arch, u, .int .u32 (f.dflt : Int)], .int .u32 (nr : Int)] w fun e w' =>
      ∃ (r : Rule) (a : Option Addr) (c : Nat), e = .returned (.tuple #[.agg #[.int .u32 (r.nr : Int), .slice a r.tests.length c, .int .u32 (r.action : Int)], .bool (decide (0 ≤ idxR nr f.rules 0))]) ∧
        w'.ownsRow w.heap.size 37 4 (.slice a r.tests.length c) r.tests.length (r.tests.flatMap encT) ∧ Ext w w' ∧ FndI nr f.rules r := by
  obtain ⟨ar, rs, df⟩ := f
  dsimp only at *
  have hF := fun W (hx : Ext w W) B (hB : W.cell? ⟨B, 0, none⟩ = some (.int .u32 (nr : Int))) => findFirst_calls u rs nr B (by omega) W hB (rdRR_ext hx hu)
  obtain ⟨av, cv, rfl, -, -⟩ := rdR_cell hu
  generalize hbb : decide (0 ≤ idxR nr rs 0) = bb at *
  have Hhbb := Lib.hid hbb
  clear hbb
  have HhF := Lib.hid hF
  clear hF
  clear hu
  go_enter Try.func22, Try.ntmps22
  go_wp2_with fail
  refine (HhF.out _ ((((Ext.refl _).alloc _).alloc _).alloc _) _ (by simp [go_sem])).mono ?_
  rintro e w1 ⟨r, v, rfl, hx1, hfnd⟩
  have hr1 : Rd w1 4 encT v r.tests ∧ r.tests.length ≤ 1000000 ∧ FndI nr rs r := by
    rcases hfnd with ⟨h1, rfl, rfl⟩ | ⟨i, h, h1, rfl, h3⟩
    · exact ⟨rd_none _ _ _, by simp, .inl ⟨h1, rfl⟩⟩
    · exact ⟨h3.ext hx1, by have := hlr _ (List.getElem_mem h); omega, .inr ⟨i, h, h1, rfl⟩⟩
  obtain ⟨hrd, hrl, hfi⟩ := hr1
  have y0 := hx1.cell (p := ⟨w.heap.size + 2, 0, none⟩) (by simp [go_sem]; rfl)
  have y1 := hx1.cell (p := ⟨w.heap.size + 2, 1, none⟩) (by simp [go_sem]; rfl)
  have y2 := hx1.cell (p := ⟨w.heap.size + 2, 2, none⟩) (by simp [go_sem]; rfl)
  have f1 : ∀ j, w1.frozen? ⟨w.heap.size + 2, j, none⟩ = false := fun j => (World.frozen?_of_block (hx1.block (by simp))).trans (by simp [go_sem])
  have hb2 : w.heap.size + 2 < w1.heap.size := World.block_lt_of_cell? _ _ y0
  have HX1 := Lib.hid (((((Ext.refl w).alloc _).alloc _).alloc _).trans hx1)
  obtain ⟨rn, ts, ra⟩ := r
  dsimp only at *
  obtain ⟨avv, cvv, rfl, -, -⟩ := rdT_cell hrd
  have hT := fun W (hx : Ext w1 W) => twin_calls ⟨rn, ts, ra⟩ (.slice avv ts.length cvv) hrl W (hrd.ext hx)
  dsimp only at hT
  have HXA := Lib.hid hx1
  have HhT := Lib.hid hT
  clear hT
  have Hhfi := Lib.hid hfi
  clear hfi
  clear hx1 hrd hfnd
  go_wp2_with fail
  refine (HhT.out _ ((Ext.refl _).alloc _)).mono ?_
  rintro e w2 ⟨a2, c2, rfl, ho, hx2⟩
  have hxx := ((Ext.refl w1).alloc (.cells #[.int .u32 (rn : Int), .slice avv ts.length cvv, .int .u32 (ra : Int)] 34)).trans hx2
  replace y0 := hxx.cell y0
  replace y1 := hxx.cell y1
  replace y2 := hxx.cell y2
  have f2 : ∀ j, w2.frozen? ⟨w.heap.size + 2, j, none⟩ = false := fun j => (World.frozen?_of_block (hxx.block hb2)).trans (f1 j)
  have f20 := f2 0
  have f21 := f2 1
  have f22 := f2 2
  have hb3 : w.heap.size + 2 < w2.heap.size := World.block_lt_of_cell? _ _ y0
  have HO := Lib.hid (own_base (b' := w.heap.size + 3) ho (by simp; omega))
  have HX2 := Lib.hid (HX1.out.trans hxx)
  clear hx2 ho f1 f2 hxx
  go_wp2_with fail
  refine bodyPost_ret (v := .tuple #[.agg #[.int .u32 (rn : Int), .slice a2 ts.length c2, .int .u32 (ra : Int)], .bool bb]) (by first | (simp [results, Try.results22, go_sem, y0, y1, y2]; done) | (simp [results, Try.results22, go_sem, y0, y1, y2]; rfl)) rfl ⟨⟨rn, ts, ra⟩, _, _, rfl, ?_, ?_, Hhfi.out⟩
  · refine own_base (b := w.heap.size + 3) ?_ (by omega)
    repeat (first | exact HO.out | refine own_set ?_ (by first | (simp; done) | (simp; omega)) _)
  · repeat (first | exact HX2.out | refine Ext.setCell ?_ (by first | (simp; done) | (simp; omega)) _)
end L21
end Go.Proofs.Ytkmhfjnjfghnjaa
