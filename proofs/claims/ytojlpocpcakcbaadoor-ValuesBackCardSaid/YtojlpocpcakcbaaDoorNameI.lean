/- Layer 10: the walk of awake. (Printed by wip/tools/mknamei.py.) -/
import Derived.Test.YtojlpocpcakcbaaDoorNameF
namespace Go.Proofs.YtojlpocpcakcbaaDoor
open Go.RowKit Go.Shelf Go.Sort V
attribute [local go_sem] Oper.semAt_some
namespace L10
theorem rd64_cell {w : World} {v : Value} {xs : List Nat} (h : Rd w 1 enc64 v xs) : ∃ a c, v = .slice a xs.length c ∧ xs.length ≤ c ∧ ∀ i, (hi : i < xs.length) → ∃ b o, a = some ⟨b, o, none⟩ ∧ w.cell? ⟨b, o + i, none⟩ = some (.int .u64 (xs[i] : Int)) := by
  obtain ⟨a, c, h1, h2, h3, h4⟩ := h
  refine ⟨a, c, h1, h2, fun i hi => ?_⟩
  obtain ⟨b, o, e, k⟩ := h4 i hi
  have k0 := k 0 (by simp [enc64])
  exact ⟨b, o, e, by simpa [enc64] using k0⟩
theorem en38 : enL 38 = [69, 78, 79, 83, 89, 83] := by decide +kernel
theorem en39 : enL 39 = [51, 57] := by
  unfold enL
  rw [if_pos (by decide +kernel)]
  simp [Lib.decDigits]
theorem en4096 : enL 4096 = [] := by decide +kernel
theorem fl81 : flL 131201 spT = [128, 131072] := by decide +kernel
theorem awv0 : errnoL (bytes ⟨#[69, 80, 69, 82, 77]⟩) = (1, 0) := by decide +kernel
theorem awv1 : errnoL (bytes ⟨#[52, 48, 57, 53]⟩) = (4095, 0) := by decide +kernel
theorem awv2 : errnoL (bytes ⟨#[48]⟩) = (0, 0) := by decide +kernel
theorem awv3 : errnoL (bytes ⟨#[52, 48, 57, 54]⟩) = (0, 160) := by decide +kernel
theorem awv4 : errnoL (bytes ⟨#[48, 48, 48, 48, 49]⟩) = (0, 160) := by decide +kernel
theorem awv5 : errnoL (bytes ⟨#[101, 112, 101, 114, 109]⟩) = (0, 160) := by decide +kernel
theorem awv6 : findL famT (bytes ⟨#[65, 70, 95, 73, 78, 69, 84, 54]⟩) 180 = (10, 0) := by decide +kernel
theorem awv7 : findL famT (bytes ⟨#[73, 78, 69, 84, 54]⟩) 180 = (0, 180) := by decide +kernel
theorem awv8 : findL spT (bytes ⟨#[110, 101, 116]⟩) 181 = (1073741824, 0) := by decide +kernel
theorem awv9 : findL spT (bytes ⟨#[78, 101, 116]⟩) 181 = (0, 181) := by decide +kernel
set_option maxRecDepth 100000 in
set_option maxHeartbeats 4000000 in
theorem awake10_calls (w : World) (ht : Tab w) : Calls Tryd.prog 16 #[] w fun e w' => e = .returned (.bool true) ∧ Ext w w' := by
  have h0 := fun W => Errno_calls ⟨#[69, 80, 69, 82, 77]⟩ (by decide) W
  rw [awv0] at h0
  have h1 := fun W => Errno_calls ⟨#[52, 48, 57, 53]⟩ (by decide) W
  rw [awv1] at h1
  have h2 := fun W => Errno_calls ⟨#[48]⟩ (by decide) W
  rw [awv2] at h2
  have h3 := fun W => Errno_calls ⟨#[52, 48, 57, 54]⟩ (by decide) W
  rw [awv3] at h3
  have h4 := fun W => Errno_calls ⟨#[48, 48, 48, 48, 49]⟩ (by decide) W
  rw [awv4] at h4
  have h5 := fun W => Errno_calls ⟨#[101, 112, 101, 114, 109]⟩ (by decide) W
  rw [awv5] at h5
  have h6 := fun W => Family_calls ⟨#[65, 70, 95, 73, 78, 69, 84, 54]⟩ W
  rw [awv6] at h6
  have h7 := fun W => Family_calls ⟨#[73, 78, 69, 84, 54]⟩ W
  rw [awv7] at h7
  have h8 := fun W => Space_calls ⟨#[110, 101, 116]⟩ W
  rw [awv8] at h8
  have h9 := fun W => Space_calls ⟨#[78, 101, 116]⟩ W
  rw [awv9] at h9
  have hF := fun W => Flags_calls 131201 (by decide) W
  rw [fl81] at hF
  have hA := fun W (h : Tab W) => ErrnoName_calls 38 (by decide) W h
  rw [en38, show str [69, 78, 79, 83, 89, 83] = ⟨#[69, 78, 79, 83, 89, 83]⟩ from rfl] at hA
  have hB := fun W (h : Tab W) => ErrnoName_calls 39 (by decide) W h
  rw [en39, show str [51, 57] = ⟨#[51, 57]⟩ from rfl] at hB
  have hC := fun W (h : Tab W) => ErrnoName_calls 4096 (by decide) W h
  rw [en4096, show str [] = ⟨#[]⟩ from rfl] at hC
  have Hh0 := Lib.hid h0
  clear h0
  have Hh1 := Lib.hid h1
  clear h1
  have Hh2 := Lib.hid h2
  clear h2
  have Hh3 := Lib.hid h3
  clear h3
  have Hh4 := Lib.hid h4
  clear h4
  have Hh5 := Lib.hid h5
  clear h5
  have Hh6 := Lib.hid h6
  clear h6
  have Hh7 := Lib.hid h7
  clear h7
  have Hh8 := Lib.hid h8
  clear h8
  have Hh9 := Lib.hid h9
  clear h9
  have HhF := Lib.hid hF
  clear hF
  have HhA := Lib.hid hA
  clear hA
  have HhB := Lib.hid hB
  clear hB
  have HhC := Lib.hid hC
  clear hC
  have HT := Lib.hid ht
  have HX := Lib.hid (Ext.refl w)
  clear ht
  go_enter Tryd.func16, Tryd.ntmps16
  go_wp2_with fail
  refine (Hh0.out _).mono ?_
  rintro e w0 ⟨rfl, hx0⟩
  have HX0 := Lib.hid (HX.out.trans hx0)
  clear hx0
  go_wp2_with fail
  refine (Hh1.out _).mono ?_
  rintro e w1 ⟨rfl, hx1⟩
  have HX1 := Lib.hid (HX0.out.trans hx1)
  clear hx1
  go_wp2_with fail
  refine (Hh2.out _).mono ?_
  rintro e w2 ⟨rfl, hx2⟩
  have HX2 := Lib.hid (HX1.out.trans hx2)
  clear hx2
  go_wp2_with fail
  refine (Hh3.out _).mono ?_
  rintro e w3 ⟨rfl, hx3⟩
  have HX3 := Lib.hid (HX2.out.trans hx3)
  clear hx3
  go_wp2_with fail
  refine (Hh4.out _).mono ?_
  rintro e w4 ⟨rfl, hx4⟩
  have HX4 := Lib.hid (HX3.out.trans hx4)
  clear hx4
  go_wp2_with fail
  refine (Hh5.out _).mono ?_
  rintro e w5 ⟨rfl, hx5⟩
  have HX5 := Lib.hid (HX4.out.trans hx5)
  clear hx5
  go_wp2_with fail
  refine (Hh6.out _).mono ?_
  rintro e w6 ⟨rfl, hx6⟩
  have HX6 := Lib.hid (HX5.out.trans hx6)
  clear hx6
  go_wp2_with fail
  refine (Hh7.out _).mono ?_
  rintro e w7 ⟨rfl, hx7⟩
  have HX7 := Lib.hid (HX6.out.trans hx7)
  clear hx7
  go_wp2_with fail
  refine (Hh8.out _).mono ?_
  rintro e w8 ⟨rfl, hx8⟩
  have HX8 := Lib.hid (HX7.out.trans hx8)
  clear hx8
  go_wp2_with fail
  refine (Hh9.out _).mono ?_
  rintro e w9 ⟨rfl, hx9⟩
  have HX9 := Lib.hid (HX8.out.trans hx9)
  clear hx9
  go_wp2_with fail
  refine (HhF.out _).mono ?_
  rintro e wf ⟨v, rfl, hxf, hof⟩
  have HXf := Lib.hid (HX9.out.trans hxf)
  obtain ⟨a, c, rfl, -, hc⟩ := rd64_cell (rd_of_own enc64_len hof)
  obtain ⟨b, o, rfl, d0⟩ := hc 0 (by decide)
  obtain ⟨b', o', e, d1⟩ := hc 1 (by decide)
  simp only [Option.some.injEq, Addr.mk.injEq, and_true] at e
  obtain ⟨rfl, rfl⟩ := e
  rw [Nat.add_zero] at d0
  have e0 : wf.cell? ⟨b, o, none⟩ = some (.int .u64 128) := d0
  have e1 : wf.cell? ⟨b, o + 1, none⟩ = some (.int .u64 131072) := d1
  clear hxf hof hc d0 d1
  dsimp only [List.length_cons, List.length_nil]
  go_wp2_with fail
  refine (HhA.out _ (HT.out.ext HXf.out)).mono ?_
  rintro e wa ⟨rfl, hx⟩
  have HXa := Lib.hid (HXf.out.trans hx)
  clear hx
  go_wp2_with fail
  refine (HhB.out _ (HT.out.ext HXa.out)).mono ?_
  rintro e wb ⟨rfl, hx⟩
  have HXb := Lib.hid (HXa.out.trans hx)
  clear hx
  go_wp2_with fail
  refine (HhC.out _ (HT.out.ext HXb.out)).mono ?_
  rintro e wc ⟨rfl, hx⟩
  have HXc := Lib.hid (HXb.out.trans hx)
  clear hx
  have hem : (str ([] : List UInt8)).toList.isEmpty = true := by rw [str_emp]; rfl
  go_wp2_with fail
  go_ret
  exact ⟨rfl, HXc.out⟩
end L10
end Go.Proofs.YtojlpocpcakcbaaDoor
