/- Layer 7: the walk of the law AsmText. -/
import Derived.Test.YtbpmokffhmiacaaDoorAsmW
namespace Go.Proofs.YtbpmokffhmiacaaDoor
open Go.RowKit Go.Shelf Go.Sort V
attribute [local go_sem] Oper.semAt_some
namespace L07
def noneI : In := ⟨0, 0, 0, 0⟩
set_option maxRecDepth 100000 in
set_option maxHeartbeats 8000000 in
theorem AsmText_calls (P : List In) (v : Value) (hP : ∀ i ∈ P, OkN i) (hl : P.length ≤ maxLen) (W : World) (ht : Tab W) (hv : Rd W 4 encN v P) :
    Calls Tryd.prog 4 #[v] W fun e w' => e = .returned (.bool true) ∧ Ext W w' := by
  have hvR := hv
  obtain ⟨a, c, rfl, -, -⟩ := rdI_cell hv
  unfold maxLen at hl
  by_cases hlong : 200 < P.length
  · have d1 : decide (200 < P.length) = true := decide_eq_true hlong
    have d2 : decide ((200 : Int) < (P.length : Int)) = true := decide_eq_true (by omega)
    clear hv hvR ht hP
    go_enter Tryd.func4, Tryd.ntmps4
    go_wp2_with fail
    go_ret
    exact ⟨rfl, Ext.refl _⟩
  have d1 : decide (200 < P.length) = false := decide_eq_false hlong
  have d2 : decide ((200 : Int) < (P.length : Int)) = false := decide_eq_false (by omega)
  have hCp := rCopy_calls _ P (by omega) W hvR
  have hTx := fun w u (hx : Ext W w) (h : Rd w 4 encN u P) => Text_calls P u hP (by omega) w (ht.ext hx) h
  have hCn := fun w u (h : Rd w 4 encN u P) => Can_calls P u hP (by omega) w h
  have hRc := fun w (hx : Ext W w) => rCan_calls P _ hP (by omega) w (hvR.ext hx)
  have hSm := fun w u (hx : Ext W w) (h : Rd w 4 encN u P) => rSame_calls u _ P (by omega) w h (hvR.ext hx)
  have hRt := fun (hc : canL P = true) w (hx : Ext W w) => rText_calls P _ hP (by omega) (by rw [canL_eq] at hc; simp only [Bool.and_eq_true] at hc; exact hc.2.1) w (hvR.ext hx)
  have HhCp := Lib.hid hCp
  clear hCp
  have HhSm := Lib.hid hSm
  clear hSm
  clear hvR hv
  cases hc : canL P
  · simp only [hc] at hTx hCn hRc
    have HhTx := Lib.hid hTx
    clear hTx
    have HhCn := Lib.hid hCn
    clear hCn
    have HhRc := Lib.hid hRc
    clear hRc
    clear hP ht hRt hc
    go_enter Tryd.func4, Tryd.ntmps4
    go_wp2_with (first
      | (go_at_call 10; refine HhCp.out.mono ?_; rintro e w1 ⟨u, rfl, hr1, hx1⟩; obtain ⟨au, cu, hau, -⟩ := rdI_cell hr1; subst hau; have HX1 := Lib.hid hx1; have HR1 := Lib.hid hr1; clear hx1 hr1)
      | (go_at_call 11; refine (HhTx.out _ _ HX1.out HR1.out).mono ?_; rintro e w2 ⟨hx2, rfl⟩; have HX2 := Lib.hid (HX1.out.trans hx2); have HR2 := Lib.hid (HR1.out.ext hx2); clear hx2)
      | (go_at_call 12; refine (HhCn.out _ _ HR2.out).mono ?_; rintro e w3 ⟨rfl, hx3⟩; have HX3 := Lib.hid (HX2.out.trans hx3); have HR3 := Lib.hid (HR2.out.ext hx3); clear hx3)
      | (go_at_call 14; refine (HhSm.out _ _ HX4.out HR4.out).mono ?_; rintro e w5 ⟨rfl, hx5⟩; have HX5 := Lib.hid (HX4.out.trans hx5); clear hx5)
      | (go_at_call 13; refine (HhRc.out _ (by first | exact HX5.out | exact HX3.out)).mono ?_; rintro e w4 ⟨rfl, hx4⟩; have HX4 := Lib.hid (Ext.trans (by first | exact HX5.out | exact HX3.out) hx4); have HR4 := Lib.hid (HR3.out.ext (by first | exact hx4 | exact Ext.refl _)); clear hx4)
      | (go_at_call 15; refine (HhRt.out _ HX4.out).mono ?_; rintro e w6 ⟨rfl, hx6⟩; have HX6 := Lib.hid (HX4.out.trans hx6); clear hx6))
    go_ret
    exact ⟨rfl, HX4.out⟩
  · simp only [hc] at hTx hCn hRc
    replace hRt := hRt hc
    generalize str (textL P) = sT at *
    have HhTx := Lib.hid hTx
    clear hTx
    have HhCn := Lib.hid hCn
    clear hCn
    have HhRc := Lib.hid hRc
    clear hRc
    have HhRt := Lib.hid hRt
    clear hRt
    clear hP ht hc
    go_enter Tryd.func4, Tryd.ntmps4
    go_wp2_with (first
      | (go_at_call 10; refine HhCp.out.mono ?_; rintro e w1 ⟨u, rfl, hr1, hx1⟩; obtain ⟨au, cu, hau, -⟩ := rdI_cell hr1; subst hau; have HX1 := Lib.hid hx1; have HR1 := Lib.hid hr1; clear hx1 hr1)
      | (go_at_call 11; refine (HhTx.out _ _ HX1.out HR1.out).mono ?_; rintro e w2 ⟨hx2, rfl⟩; have HX2 := Lib.hid (HX1.out.trans hx2); have HR2 := Lib.hid (HR1.out.ext hx2); clear hx2)
      | (go_at_call 12; refine (HhCn.out _ _ HR2.out).mono ?_; rintro e w3 ⟨rfl, hx3⟩; have HX3 := Lib.hid (HX2.out.trans hx3); have HR3 := Lib.hid (HR2.out.ext hx3); clear hx3)
      | (go_at_call 14; refine (HhSm.out _ _ HX4.out HR4.out).mono ?_; rintro e w5 ⟨rfl, hx5⟩; have HX5 := Lib.hid (HX4.out.trans hx5); clear hx5)
      | (go_at_call 13; refine (HhRc.out _ (by first | exact HX5.out | exact HX3.out)).mono ?_; rintro e w4 ⟨rfl, hx4⟩; have HX4 := Lib.hid (Ext.trans (by first | exact HX5.out | exact HX3.out) hx4); have HR4 := Lib.hid (HR3.out.ext (by first | exact hx4 | exact Ext.refl _)); clear hx4)
      | (go_at_call 15; refine (HhRt.out _ HX4.out).mono ?_; rintro e w6 ⟨rfl, hx6⟩; have HX6 := Lib.hid (HX4.out.trans hx6); clear hx6))
    go_ret
    exact ⟨by simp, HX6.out⟩
end L07
end Go.Proofs.YtbpmokffhmiacaaDoor
