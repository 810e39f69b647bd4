/- Layer 24: the law TreeFind. -/
import Derived.Test.YtaclndhenhjjaaaTreeP
namespace Go.Proofs.Ytaclndhenhjjaaa
open Go.RowKit V
namespace L24
open L23
set_option maxRecDepth 100000 in
set_option maxHeartbeats 1000000 in
theorem TreeFind_calls (v : Value) (xs : List Node) (n : Nat) (hnl : xs.length ≤ maxLen) (w : World) (hv : Rd w 5 encN v xs) :
    Calls Try.prog 9 #[v, .int .u32 (n : Int)] w fun e w' => e = .returned (.bool true) ∧ Ext w w' := by
  have hrd0 := hv
  obtain ⟨a, c, rfl, hac, -⟩ := rdN_cell hv
  clear hv
  have Hhrd0 := Lib.hid hrd0
  clear hrd0
  unfold maxLen at hnl
  by_cases hlen : 300 < xs.length
  · have hd : decide (300 < xs.length) = true := decide_eq_true hlen
    have hd' : decide (300 < (xs.length : Int)) = true := decide_eq_true (by omega)
    have Hhlen := Lib.hid hlen
    clear hlen
    go_enter Try.func9, Try.ntmps9
    go_wp2
    go_ret
    exact ⟨rfl, Ext.refl _⟩
  have hd : decide (300 < xs.length) = false := decide_eq_false hlen
  have hd' : decide (300 < (xs.length : Int)) = false := decide_eq_false (by omega)
  have hF := fun w1 (hx : Ext w w1) => Find_calls _ xs n (by omega) w1 (Hhrd0.out.ext hx)
  have hrF := fun w1 (hx : Ext w w1) => refFind_calls _ xs n (by omega) w1 (Hhrd0.out.ext hx)
  have hM := fun w1 (hx : Ext w w1) => May_calls _ xs (by omega) w1 (Hhrd0.out.ext hx)
  have hrM := fun w1 (hx : Ext w w1) => refMay_calls _ xs (by omega) w1 (Hhrd0.out.ext hx)
  have hD := fun w1 (hx : Ext w w1) => Depth_calls _ xs (by omega) w1 (Hhrd0.out.ext hx)
  have hrD := fun w1 (hx : Ext w w1) => refDepth_calls _ xs (by omega) w1 (Hhrd0.out.ext hx)
  generalize (findA xs n).1 = wx at *
  generalize (findA xs n).2 = st at *
  generalize may xs = mb at *
  generalize depthA xs = dt at *
  have HhF := Lib.hid hF
  clear hF
  have HhrF := Lib.hid hrF
  clear hrF
  have HhM := Lib.hid hM
  clear hM
  have HhrM := Lib.hid hrM
  clear hrM
  have HhD := Lib.hid hD
  clear hD
  have HhrD := Lib.hid hrD
  clear hrD
  go_enter Try.func9, Try.ntmps9
  go_wp2_with fail
  refine (HhF.out _ (Ext.refl _)).mono ?_
  rintro e w1 ⟨rfl, hx1⟩
  go_wp2_with fail
  refine (HhrF.out _ hx1).mono ?_
  rintro e w2 ⟨rfl, hx2⟩
  have HX2 := Lib.hid (hx1.trans hx2)
  clear hx1 hx2
  go_wp2_with fail
  refine (HhM.out _ HX2.out).mono ?_
  rintro e w3 ⟨rfl, hx3⟩
  go_wp2_with fail
  refine (HhrM.out _ (HX2.out.trans hx3)).mono ?_
  rintro e w4 ⟨rfl, hx4⟩
  go_wp2_with fail
  refine (HhD.out _ ((HX2.out.trans hx3).trans hx4)).mono ?_
  rintro e w5 ⟨rfl, hx5⟩
  go_wp2_with fail
  refine (HhrD.out _ (((HX2.out.trans hx3).trans hx4).trans hx5)).mono ?_
  rintro e w6 ⟨rfl, hx6⟩
  go_wp2_with fail
  go_ret
  exact ⟨by simp, (((HX2.out.trans hx3).trans hx4).trans hx5).trans hx6⟩
end L24
end Go.Proofs.Ytaclndhenhjjaaa
