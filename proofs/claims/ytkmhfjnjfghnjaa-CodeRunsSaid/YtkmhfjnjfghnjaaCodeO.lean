/- Layer 25: the law CodeRuns. -/
import Derived.Test.YtkmhfjnjfghnjaaCodeE
import Derived.Test.YtkmhfjnjfghnjaaCodeM
import Derived.Test.YtkmhfjnjfghnjaaCodeN
namespace Go.Proofs.Ytkmhfjnjfghnjaa
open Go.RowKit V
namespace L25
set_option maxRecDepth 100000 in
set_option maxHeartbeats 1000000 in
theorem CodeRuns_calls (v : Value) (xs : List Sy) (hok : ∀ s ∈ xs, OkY s) (d : Dat) (hd : OkD d) (hnl : xs.length ≤ maxLen) (w : World) (hv : Rd w 4 encY v xs) :
    Calls Try.prog 9 #[v, datV d] w fun e w' => e = .returned (.bool true) ∧ Ext w w' := by
  have hrd0 := hv
  obtain ⟨a, c, rfl, hac, -⟩ := rdY_cell hv
  clear hv
  have Hhrd0 := Lib.hid hrd0
  clear hrd0
  unfold maxLen at hnl
  by_cases hlen : 1000 < xs.length
  · have h1 : decide (1000 < xs.length) = true := decide_eq_true hlen
    have h1' : decide (1000 < (xs.length : Int)) = true := decide_eq_true (by omega)
    have Hhlen := Lib.hid hlen
    clear hlen
    have Hhok := Lib.hid hok
    clear hok
    unfold datV
    go_enter Try.func9, Try.ntmps9
    go_wp2
    go_ret
    exact ⟨rfl, (Ext.refl _).alloc _⟩
  have h1 : decide (1000 < xs.length) = false := decide_eq_false hlen
  have h1' : decide (1000 < (xs.length : Int)) = false := decide_eq_false (by omega)
  have hCp := fun w1 (hx : Ext w w1) => refCopy_calls _ xs (by omega) w1 (Hhrd0.out.ext hx)
  have hR := fun u w1 (h : Rd w1 4 encY u xs) => Run_calls (fun s i len w => mayOne_calls s i len w) u xs hok d hd (by omega) w1 h
  have hrR := fun w1 (hx : Ext w w1) => refRun_calls _ xs hok d hd (by omega) w1 (Hhrd0.out.ext hx)
  have hM := fun u w1 (h : Rd w1 4 encY u xs) => May_calls (fun s i len w => mayOne_calls s i len w) u xs (by omega) w1 h
  have hrM := fun w1 (hx : Ext w w1) => refMay_calls _ xs (by omega) w1 (Hhrd0.out.ext hx)
  have hS := fun u w1 (h : Rd w1 4 encY u xs) (hx : Ext w w1) => refSame_calls u _ xs (by omega) w1 h (Hhrd0.out.ext hx)
  unfold datV at hR hrR
  unfold datV
  generalize (runA d xs).1 = r1 at *
  generalize (runA d xs).2 = r2 at *
  generalize runE xs = r3 at *
  generalize mayA xs = mb at *
  have Hhok := Lib.hid hok
  clear hok
  have HhCp := Lib.hid hCp
  clear hCp
  have HhR := Lib.hid hR
  clear hR
  have HhrR := Lib.hid hrR
  clear hrR
  have HhM := Lib.hid hM
  clear hM
  have HhrM := Lib.hid hrM
  clear hrM
  have HhS := Lib.hid hS
  clear hS
  go_enter Try.func9, Try.ntmps9
  go_wp2_with fail
  obtain ⟨W1, hW1⟩ : ∃ W1, W1 = w.alloc (.cells #[.int .u32 (d.nr : Int), .int .u32 (d.ar : Int), .int .u64 (d.ip : Int), .int .u64 (d.a0 : Int), .int .u64 (d.a1 : Int), .int .u64 (d.a2 : Int), .int .u64 (d.a3 : Int), .int .u64 (d.a4 : Int), .int .u64 (d.a5 : Int)] 40) := ⟨_, rfl⟩
  have hx1 : Ext w W1 := by rw [hW1]; exact (Ext.refl _).alloc _
  have hcd : Cd W1 w.heap.size d := by
    refine ⟨?_, ?_, ?_, ?_, ?_, ?_, ?_, ?_, ?_⟩ <;> (rw [hW1]; simp [go_sem])
  rw [← hW1]
  clear hW1
  refine (HhCp.out _ hx1).mono ?_
  rintro e w2 ⟨u, rfl, hu, hx2⟩
  have HU2 := Lib.hid hu
  obtain ⟨au, cu, rfl, -, -⟩ := rdY_cell hu
  obtain ⟨q0, q1, q2, q3, q4, q5, q6, q7, q8⟩ := hcd.ext hx2
  have HCD := Lib.hid (hcd.ext hx2)
  have HX2 := Lib.hid (hx1.trans hx2)
  clear hx1 hx2 hcd hu
  go_wp2_with fail
  refine (HhR.out _ _ HU2.out).mono ?_
  rintro e w3 ⟨rfl, hx3⟩
  have HU3 := Lib.hid (HU2.out.ext hx3)
  have HX3 := Lib.hid (HX2.out.trans hx3)
  clear q0 q1 q2 q3 q4 q5 q6 q7 q8
  obtain ⟨q0, q1, q2, q3, q4, q5, q6, q7, q8⟩ := HCD.out.ext hx3
  clear hx3
  go_wp2_with fail
  refine (HhrR.out _ HX3.out).mono ?_
  rintro e w4 ⟨rfl, hx4⟩
  have HU4 := Lib.hid (HU3.out.ext hx4)
  have HX4 := Lib.hid (HX3.out.trans hx4)
  clear hx4 q0 q1 q2 q3 q4 q5 q6 q7 q8
  go_wp2_with fail
  refine (HhM.out _ _ HU4.out).mono ?_
  rintro e w5 ⟨rfl, hx5⟩
  have HU5 := Lib.hid (HU4.out.ext hx5)
  have HX5 := Lib.hid (HX4.out.trans hx5)
  clear hx5
  go_wp2_with fail
  refine (HhrM.out _ HX5.out).mono ?_
  rintro e w6 ⟨rfl, hx6⟩
  have HU6 := Lib.hid (HU5.out.ext hx6)
  have HX6 := Lib.hid (HX5.out.trans hx6)
  clear hx6
  go_wp2_with fail
  refine (HhS.out _ _ HU6.out HX6.out).mono ?_
  rintro e w7 ⟨rfl, hx7⟩
  go_wp2_with fail
  go_ret
  exact ⟨by simp, HX6.out.trans hx7⟩
end L25
end Go.Proofs.Ytkmhfjnjfghnjaa
