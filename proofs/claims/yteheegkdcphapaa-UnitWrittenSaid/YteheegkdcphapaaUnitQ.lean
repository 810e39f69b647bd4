/- Layer 13: the walk of awake. (Printed by wip/tools/mkawake13.py.) -/
import Derived.Test.YteheegkdcphapaaUnitP
namespace Go.Proofs.Yteheegkdcphapaa
open Go.RowKit Go.Shelf V
attribute [local go_sem] Oper.semAt_some Option.isSome_some
namespace L12
set_option maxRecDepth 100000 in
theorem aw13 : parseL [91, 83, 101, 114, 118, 105, 99, 101, 93, 10, 65, 32, 61, 32, 98, 32, 99, 10, 66, 61, 10, 91, 88, 93, 10, 65, 61, 98, 61, 99, 10] = ([(2, [83, 101, 114, 118, 105, 99, 101], [65], [98, 32, 99]), (3, [83, 101, 114, 118, 105, 99, 101], [66], []), (5, [88], [65], [98, 61, 99])], []) := by decide +kernel
set_option maxRecDepth 100000 in
theorem aw13_0 : wrongL (bytes ⟨#[65, 61, 98]⟩) = [1] := by decide +kernel
set_option maxRecDepth 100000 in
theorem aw13_1 : wrongL (bytes ⟨#[91, 83, 101, 114, 118, 105, 99, 101, 10, 91, 93]⟩) = [1, 2] := by decide +kernel
set_option maxRecDepth 100000 in
theorem aw13_2 : wrongL (bytes ⟨#[91, 83, 93, 10, 97, 32, 98, 61, 99, 10, 61, 99, 10, 120]⟩) = [2, 3, 4] := by decide +kernel
set_option maxRecDepth 100000 in
set_option maxHeartbeats 4000000 in
theorem awake13_calls (w : World) : Calls Try.prog 28 #[] w fun e w' => e = .returned (.bool true) ∧ Ext w w' := by
  have hcc := fun W => Lib.run_convert_bytes_const (P := Try.prog) W 22 5 #[.int .u8 91, .int .u8 83, .int .u8 101, .int .u8 114, .int .u8 118, .int .u8 105, .int .u8 99, .int .u8 101, .int .u8 93, .int .u8 10, .int .u8 65, .int .u8 32, .int .u8 61, .int .u8 32, .int .u8 98, .int .u8 32, .int .u8 99, .int .u8 10, .int .u8 66, .int .u8 61, .int .u8 10, .int .u8 91, .int .u8 88, .int .u8 93, .int .u8 10, .int .u8 65, .int .u8 61, .int .u8 98, .int .u8 61, .int .u8 99, .int .u8 10] 31 31 Try.underlying22 Try.underlying5
  have hP := fun u W (h : Rd W 1 encB u [91, 83, 101, 114, 118, 105, 99, 101, 93, 10, 65, 32, 61, 32, 98, 32, 99, 10, 66, 61, 10, 91, 88, 93, 10, 65, 61, 98, 61, 99, 10]) => Parse_calls ⟨#[102]⟩ 0 u [91, 83, 101, 114, 118, 105, 99, 101, 93, 10, 65, 32, 61, 32, 98, 32, 99, 10, 66, 61, 10, 91, 88, 93, 10, 65, 61, 98, 61, 99, 10] (by decide) W h
  rw [aw13] at hP
  unfold fileV at hP
  have hSa := fun u v W (h : Rd W 5 (encAs ⟨#[102]⟩) u [(2, [83, 101, 114, 118, 105, 99, 101], [65], [98, 32, 99]), (3, [83, 101, 114, 118, 105, 99, 101], [66], []), (5, [88], [65], [98, 61, 99])]) (h2 : Rd W 5 (encAs ⟨#[102]⟩) v [(2, [83, 101, 114, 118, 105, 99, 101], [65], [98, 32, 99]), (3, [83, 101, 114, 118, 105, 99, 101], [66], []), (5, [88], [65], [98, 61, 99])]) => sameAs_calls ⟨#[102]⟩ u v [(2, [83, 101, 114, 118, 105, 99, 101], [65], [98, 32, 99]), (3, [83, 101, 114, 118, 105, 99, 101], [66], []), (5, [88], [65], [98, 61, 99])] [(2, [83, 101, 114, 118, 105, 99, 101], [65], [98, 32, 99]), (3, [83, 101, 114, 118, 105, 99, 101], [66], []), (5, [88], [65], [98, 61, 99])] (by decide) (by decide) W h h2
  rw [show decide (([(2, [83, 101, 114, 118, 105, 99, 101], [65], [98, 32, 99]), (3, [83, 101, 114, 118, 105, 99, 101], [66], []), (5, [88], [65], [98, 61, 99])] : List As) = [(2, [83, 101, 114, 118, 105, 99, 101], [65], [98, 32, 99]), (3, [83, 101, 114, 118, 105, 99, 101], [66], []), (5, [88], [65], [98, 61, 99])]) = true from decide_eq_true rfl] at hSa
  have hW0 := fun W => wrong_fn_calls ⟨#[65, 61, 98]⟩ (by decide) W
  rw [aw13_0] at hW0
  have hA0 := fun u v W (h : Rd W 1 encI3 u [1]) (h2 : Rd W 1 encI3 v [1]) => at_calls u v [1] [1] (by decide) W h h2
  rw [show decide (([1] : List Nat) = [1]) = true from decide_eq_true rfl] at hA0
  have hW1 := fun W => wrong_fn_calls ⟨#[91, 83, 101, 114, 118, 105, 99, 101, 10, 91, 93]⟩ (by decide) W
  rw [aw13_1] at hW1
  have hA1 := fun u v W (h : Rd W 1 encI3 u [1, 2]) (h2 : Rd W 1 encI3 v [1, 2]) => at_calls u v [1, 2] [1, 2] (by decide) W h h2
  rw [show decide (([1, 2] : List Nat) = [1, 2]) = true from decide_eq_true rfl] at hA1
  have hW2 := fun W => wrong_fn_calls ⟨#[91, 83, 93, 10, 97, 32, 98, 61, 99, 10, 61, 99, 10, 120]⟩ (by decide) W
  rw [aw13_2] at hW2
  have hA2 := fun u v W (h : Rd W 1 encI3 u [2, 3, 4]) (h2 : Rd W 1 encI3 v [2, 3, 4]) => at_calls u v [2, 3, 4] [2, 3, 4] (by decide) W h h2
  rw [show decide (([2, 3, 4] : List Nat) = [2, 3, 4]) = true from decide_eq_true rfl] at hA2
  have HhP := Lib.hid hP
  clear hP
  have HhSa := Lib.hid hSa
  clear hSa
  have HhW0 := Lib.hid hW0
  clear hW0
  have HhW1 := Lib.hid hW1
  clear hW1
  have HhW2 := Lib.hid hW2
  clear hW2
  have HhA0 := Lib.hid hA0
  clear hA0
  have HhA1 := Lib.hid hA1
  clear hA1
  have HhA2 := Lib.hid hA2
  clear hA2
  go_enter Try.func28, Try.ntmps28
  go_wp2_with fail
  refine (HhP.out _ _ (rd_litB w [91, 83, 101, 114, 118, 105, 99, 101, 93, 10, 65, 32, 61, 32, 98, 32, 99, 10, 66, 61, 10, 91, 88, 93, 10, 65, 61, 98, 61, 99, 10] _ _)).mono ?_
  rintro e w1 ⟨ua, un, rfl, hx1, ho1, ho2⟩
  obtain ⟨aa, ca, rfl⟩ := own_form ho1
  obtain ⟨an, cn, rfl⟩ := own_form ho2
  have HR1 := Lib.hid (rd_of_own (encAs_len _) ho1)
  have HX1 : Hid (Ext w w1) := Lib.hid (((Ext.refl w).alloc _).trans hx1)
  clear hx1 ho1 ho2
  dsimp only [List.length_cons, List.length_nil]
  go_wp2_with fail
  refine (HhSa.out _ _ _ (HR1.out.ext ((Ext.refl _).alloc _)) (rd_lit (encAs_len ⟨#[102]⟩) w1 [(2, [83, 101, 114, 118, 105, 99, 101], [65], [98, 32, 99]), (3, [83, 101, 114, 118, 105, 99, 101], [66], []), (5, [88], [65], [98, 61, 99])] _ _ rfl)).mono ?_
  rintro e w2 ⟨rfl, hx2⟩
  have HX2 := Lib.hid ((HX1.out.alloc _).trans hx2)
  clear hx2
  go_wp2_with fail
  refine (HhW0.out _).mono ?_
  rintro e w3 ⟨u3, rfl, hx3, hr3⟩
  obtain ⟨a3, c3, rfl, -⟩ := id hr3
  have HR3 := Lib.hid hr3
  have HX3 := Lib.hid (HX2.out.trans hx3)
  clear hx3 hr3
  go_wp2_with fail
  refine (HhA0.out _ _ _ (HR3.out.ext ((Ext.refl _).alloc _)) (rd_lit encI3_len w3 [1] _ _ rfl)).mono ?_
  rintro e w4 ⟨rfl, hx4⟩
  have HX4 := Lib.hid ((HX3.out.alloc _).trans hx4)
  clear hx4
  go_wp2_with fail
  refine (HhW1.out _).mono ?_
  rintro e w5 ⟨u5, rfl, hx5, hr5⟩
  obtain ⟨a5, c5, rfl, -⟩ := id hr5
  have HR5 := Lib.hid hr5
  have HX5 := Lib.hid (HX4.out.trans hx5)
  clear hx5 hr5
  go_wp2_with fail
  refine (HhA1.out _ _ _ (HR5.out.ext ((Ext.refl _).alloc _)) (rd_lit encI3_len w5 [1, 2] _ _ rfl)).mono ?_
  rintro e w6 ⟨rfl, hx6⟩
  have HX6 := Lib.hid ((HX5.out.alloc _).trans hx6)
  clear hx6
  go_wp2_with fail
  refine (HhW2.out _).mono ?_
  rintro e w7 ⟨u7, rfl, hx7, hr7⟩
  obtain ⟨a7, c7, rfl, -⟩ := id hr7
  have HR7 := Lib.hid hr7
  have HX7 := Lib.hid (HX6.out.trans hx7)
  clear hx7 hr7
  go_wp2_with fail
  refine (HhA2.out _ _ _ (HR7.out.ext ((Ext.refl _).alloc _)) (rd_lit encI3_len w7 [2, 3, 4] _ _ rfl)).mono ?_
  rintro e w8 ⟨rfl, hx8⟩
  have HX8 := Lib.hid ((HX7.out.alloc _).trans hx8)
  clear hx8
  go_wp2_with fail
  go_ret
  exact ⟨rfl, HX8.out⟩
end L12
end Go.Proofs.Yteheegkdcphapaa
