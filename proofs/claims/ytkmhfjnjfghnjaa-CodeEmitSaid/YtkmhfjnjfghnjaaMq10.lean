import Derived.Test.YtkmhfjnjfghnjaaMq9
/- Layer 21: the walks of first over tests by the closure of mayRule, and of mayRule. -/
namespace Go.Proofs.Ytkmhfjnjfghnjaa
open Go.RowKit V
namespace L21
theorem idxA_cases (p : Test → Bool) : ∀ (ts : List Test) (k : Nat), (idxA p ts k = -1 ∧ ts.any p = false) ∨ ∃ i, ∃ h : i < ts.length, idxA p ts k = ((k + i : Nat) : Int) ∧ p (ts[i]'h) = true ∧ ts.any p = true
  | [], k => .inl ⟨rfl, rfl⟩
  | t :: r, k => by
    cases hp : p t
    · rcases idxA_cases p r (k + 1) with ⟨h1, h2⟩ | ⟨i, h, h1, h2, h3⟩
      · exact .inl ⟨by simp only [idxA, hp]; exact h1, by rw [List.any_cons, hp, h2]; rfl⟩
      · refine .inr ⟨i + 1, by simp; omega, ?_, by simpa using h2, by rw [List.any_cons, h3]; simp⟩
        simp only [idxA, hp]
        have e : ((k + 1 + i : Nat) : Int) = ((k + (i + 1) : Nat) : Int) := by omega
        rw [← e]; exact h1
    · exact .inr ⟨0, by simp, by simp [idxA, hp], by simpa using hp, by rw [List.any_cons, hp]; rfl⟩
set_option maxRecDepth 100000 in
set_option maxHeartbeats 400000 in
theorem firstBad_calls (v : Value) (ts : List Test) (hl : ts.length ≤ 140737488351232) (hok : ∀ t ∈ ts, OkT t) (w : World) (hv : Rd w 4 encT v ts) :
    Calls Try.prog 53 #[v, .func (.func 84) #[] #[]] w fun e w' =>
      ∃ t : Test, e = .returned (.tuple #[.agg #[.int .i64 t.arg, .int .u64 (t.mask : Int), .int .u64 (t.value : Int), .int .u32 (t.action : Int)], .bool (ts.any badT)]) ∧ Ext w w' := by
  have hI := fun W (hx : Ext w W) => idxBad_calls v ts hl hok W (hv.ext hx)
  obtain ⟨a, c, rfl, hac, hca⟩ := rdT_cell hv
  clear hv
  have Hhok := Lib.hid hok
  clear hok
  rcases idxA_cases badT ts 0 with ⟨h1, h2⟩ | ⟨i, hi, h1, -, h2⟩
  · rw [h1] at hI
    rw [h2]
    have HhI := Lib.hid hI
    clear hI
    have Hh1 := Lib.hid h1
    clear h1
    have Hh2 := Lib.hid h2
    clear h2
    clear hca
    go_enter Try.func53, Try.ntmps53
    go_wp2_with fail
    refine (HhI.out _ ((Ext.refl _).alloc _)).mono ?_
    rintro e w1 ⟨rfl, hx1⟩
    have z0 := hx1.cell (p := ⟨w.heap.size, 0, none⟩) (by simp [go_sem]; rfl)
    have z1 := hx1.cell (p := ⟨w.heap.size, 1, none⟩) (by simp [go_sem]; rfl)
    have z2 := hx1.cell (p := ⟨w.heap.size, 2, none⟩) (by simp [go_sem]; rfl)
    have z3 := hx1.cell (p := ⟨w.heap.size, 3, none⟩) (by simp [go_sem]; rfl)
    have hsz : w.heap.size < w1.heap.size := World.block_lt_of_cell? _ _ z0
    have hf : ∀ j, w1.frozen? ⟨w.heap.size, j, none⟩ = false := fun j => (World.frozen?_of_block (hx1.block (by simp))).trans (by simp [go_sem])
    have f0 := hf 0
    have f1 := hf 1
    have f2 := hf 2
    have f3 := hf 3
    have HX1 := Lib.hid (((Ext.refl w).alloc _).trans hx1)
    clear hx1 hf
    go_wp2_with fail
    have hne : ¬ w.heap.size = w1.heap.size := by omega
    refine bodyPost_ret (v := .tuple #[.agg #[.int .i64 0, .int .u64 0, .int .u64 0, .int .u32 0], .bool false]) (by first | (simp [results, Try.results53, go_sem, World.cell?_alloc_old, hne, z0, z1, z2, z3]; done) | (simp [results, Try.results53, go_sem, World.cell?_alloc_old, hne, z0, z1, z2, z3]; rfl)) rfl ⟨⟨0, 0, 0, 0⟩, rfl, ?_⟩
    repeat (first | exact HX1.out | refine Ext.alloc ?_ _ | refine Ext.setCell ?_ (by simp) _)
  · have hi0 : (((0 + i : Nat) : Int)) = (i : Int) := by omega
    rw [h1, hi0] at hI
    rw [h2]
    obtain ⟨b, o, rfl, g0, g1, g2, g3⟩ := hca i hi
    generalize ts[i]'hi = t at *
    have HhI := Lib.hid hI
    clear hI
    have Hh1 := Lib.hid h1
    clear h1
    have Hh2 := Lib.hid h2
    clear h2
    clear hca hi0
    have d0 : decide ((0 : Int) ≤ (i : Int)) = true := decide_eq_true (by omega)
    go_enter Try.func53, Try.ntmps53
    go_wp2_with fail
    refine (HhI.out _ ((Ext.refl _).alloc _)).mono ?_
    rintro e w1 ⟨rfl, hx1⟩
    have z0 := hx1.cell (p := ⟨w.heap.size, 0, none⟩) (by simp [go_sem]; rfl)
    have z1 := hx1.cell (p := ⟨w.heap.size, 1, none⟩) (by simp [go_sem]; rfl)
    have z2 := hx1.cell (p := ⟨w.heap.size, 2, none⟩) (by simp [go_sem]; rfl)
    have z3 := hx1.cell (p := ⟨w.heap.size, 3, none⟩) (by simp [go_sem]; rfl)
    have hsz : w.heap.size < w1.heap.size := World.block_lt_of_cell? _ _ z0
    have hf : ∀ j, w1.frozen? ⟨w.heap.size, j, none⟩ = false := fun j => (World.frozen?_of_block (hx1.block (by simp))).trans (by simp [go_sem])
    have f0 := hf 0
    have f1 := hf 1
    have f2 := hf 2
    have f3 := hf 3
    have hxx := ((Ext.refl w).alloc (.cells #[.int .i64 0, .int .u64 0, .int .u64 0, .int .u32 0] 37)).trans hx1
    replace g0 := hxx.cell g0
    replace g1 := hxx.cell g1
    replace g2 := hxx.cell g2
    replace g3 := hxx.cell g3
    have HX1 := Lib.hid hxx
    clear hx1 hf hxx
    go_wp2_with fail
    refine bodyPost_ret (v := .tuple #[.agg #[.int .i64 t.arg, .int .u64 (t.mask : Int), .int .u64 (t.value : Int), .int .u32 (t.action : Int)], .bool true]) (by first | (simp [results, Try.results53, go_sem, z0, z1, z2, z3]; done) | (simp [results, Try.results53, go_sem, z0, z1, z2, z3]; rfl)) rfl ⟨t, rfl, ?_⟩
    repeat (first | exact HX1.out | refine Ext.alloc ?_ _ | refine Ext.setCell ?_ (by simp) _)
/-- may a rule be, its number aside -/
def mayR (r : Rule) : Bool := decide (r.tests.length ≤ 32) && (!r.tests.any badT && L20.kn r.action)
set_option maxRecDepth 100000 in
set_option maxHeartbeats 400000 in
theorem mayRule_calls (r : Rule) (v : Value) (hr : OkR r) (w : World) (hv : Rd w 4 encT v r.tests) :
    Calls Try.prog 50 #[.agg #[.int .u32 (r.nr : Int), v, .int .u32 (r.action : Int)]] w fun e w' => e = .returned (.bool (mayR r)) ∧ Ext w w' := by
  obtain ⟨nr, ts, ac⟩ := r
  have hF := fun W (hx : Ext w W) => firstBad_calls v ts hr.l hr.t W (hv.ext hx)
  have hK := fun W => L20.Known_calls ac hr.x W
  have hA : mayR ⟨nr, ts, ac⟩ = (decide (ts.length ≤ 32) && (!ts.any badT && L20.kn ac)) := rfl
  dsimp only at hv ⊢
  obtain ⟨a, c, rfl, hac, -⟩ := rdT_cell hv
  rw [hA]
  generalize ts.any badT = bb at *
  have e1 : decide ((ts.length : Int) ≤ 32) = decide (ts.length ≤ 32) := by rw [Bool.eq_iff_iff]; simp; omega
  clear hv
  have HhA := Lib.hid hA
  clear hA
  have HhF := Lib.hid hF
  clear hF
  have HhK := Lib.hid hK
  clear hK
  cases hd : decide (ts.length ≤ 32)
  all_goals rw [hd] at e1
  all_goals cases bb
  all_goals
    go_enter Try.func50, Try.ntmps50
    go_wp2_with fail
    refine (HhF.out _ ((Ext.refl _).alloc _)).mono ?_
    rintro e w1 ⟨t, rfl, hx1⟩
    have q1 := fun o => (((hx1).trans ((Ext.refl _).alloc o))).cell (p := ⟨w.heap.size, 1, none⟩) (by simp [go_sem]; rfl)
    have q2 := fun o => (((hx1).trans ((Ext.refl _).alloc o))).cell (p := ⟨w.heap.size, 2, none⟩) (by simp [go_sem]; rfl)
    have HX1 := Lib.hid (((Ext.refl w).alloc _).trans hx1)
    clear hx1
    go_wp2_with ((go_at_call 49; refine (HhK.out _).mono ?_; rintro e w2 ⟨rfl, hx2⟩))
    go_ret
    first
      | exact ⟨by simp, HX1.out.alloc _⟩
      | exact ⟨by simp, (HX1.out.alloc _).trans hx2⟩
end L21
end Go.Proofs.Ytkmhfjnjfghnjaa

