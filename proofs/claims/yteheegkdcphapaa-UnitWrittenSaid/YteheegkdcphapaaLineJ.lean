/- Layer 12: the walks of of and awake. -/
import Derived.Test.YteheegkdcphapaaLineI
import Derived.Lib.SlBytesConst
namespace Go.Proofs.Yteheegkdcphapaa
open Go.RowKit V
namespace L12
theorem of_calls (n : Nat) (s : ByteArray) (w : World) : Calls Try.prog 21 #[.int .i64 (n : Int), .string s] w fun e w' => e = .returned (.agg #[.int .i64 (n : Int), .string s]) ∧ Ext w w' := by
  go_enter Try.func21, Try.ntmps21
  go_wp2
  exact bodyPost_ret (v := .agg #[.int .i64 (n : Int), .string s]) (by simp [results, Try.results21, go_sem]) rfl ⟨rfl, (Ext.refl _).alloc _⟩
theorem rd_litB (W : World) (l : List UInt8) (t : TypeId) (fr : Nat × Nat) : Rd (W.alloc (.cells (l.flatMap encB).toArray t fr)) 1 encB (.slice (some ⟨W.heap.size, 0, none⟩) l.length l.length) l := by
  refine ⟨_, _, rfl, Nat.le_refl _, (fun e => by cases e), fun i hi => ⟨W.heap.size, 0, rfl, fun j hj => ?_⟩⟩
  have hj0 : j = 0 := by simp [encB] at hj; exact hj
  subst hj0
  rw [show 0 + i * 1 + 0 = i by omega, World.cell?_alloc_mark]
  have h := flat_get (enc := encB) encB_len l i 0 hi (by decide)
  rw [Nat.mul_one, Nat.add_zero] at h
  rw [List.getElem?_toArray, h, List.getElem?_eq_getElem (by simp [encB])]
theorem bytes_mk (l : List UInt8) : bytes ⟨l.toArray⟩ = l := by simp [bytes]
set_option maxRecDepth 100000 in
theorem aw0 : isA [97, 61, 32, 49, 32, 10, 32, 35, 32, 99, 32, 10, 32, 98] [(1, [97, 61, 32, 49]), (3, [98])] = true := by decide +kernel
set_option maxRecDepth 100000 in
theorem aw1 : isA [97, 32, 92, 10, 32, 98, 92, 10, 99, 10, 100] [(1, [97, 32, 32, 32, 98, 32, 99]), (4, [100])] = true := by decide +kernel
set_option maxRecDepth 100000 in
theorem aw2 : isA [97, 92, 10, 59, 120, 10, 98] [(1, [97, 32, 98])] = true := by decide +kernel
set_option maxRecDepth 100000 in
theorem aw3 : isA [97, 92] [(1, [97])] = true := by decide +kernel
set_option maxRecDepth 100000 in
theorem aw4 : isA [10, 32, 10] [] = true := by decide +kernel
theorem awC1 : commentL [32, 59, 120] = true := by decide +kernel
theorem awC2 : commentL [97, 59] = false := by decide +kernel
theorem awT : trimL [32, 9, 97, 32, 98, 13] = [97, 32, 98] := by decide +kernel
theorem awN : (linesL [97, 10]).length = 1 := by decide +kernel
set_option maxRecDepth 100000 in
set_option maxHeartbeats 4000000 in
theorem awake_calls (w : World) : Calls Try.prog 16 #[] w fun e w' => e = .returned (.bool true) ∧ Ext w w' := by
  have hOf := fun n s W => of_calls n s W
  have hcc := fun W => Lib.run_convert_bytes_const (P := Try.prog) W 22 5 #[.int .u8 97, .int .u8 10] 2 2 Try.underlying22 Try.underlying5
  have hI0 := fun v W (h : Rd W 2 encN v [(1, [97, 61, 32, 49]), (3, [98])]) => is_calls ⟨#[97, 61, 32, 49, 32, 10, 32, 35, 32, 99, 32, 10, 32, 98]⟩ (by decide) v [(1, [97, 61, 32, 49]), (3, [98])] W h
  rw [show isA (bytes ⟨#[97, 61, 32, 49, 32, 10, 32, 35, 32, 99, 32, 10, 32, 98]⟩) [(1, [97, 61, 32, 49]), (3, [98])] = true from aw0] at hI0
  have hI1 := fun v W (h : Rd W 2 encN v [(1, [97, 32, 32, 32, 98, 32, 99]), (4, [100])]) => is_calls ⟨#[97, 32, 92, 10, 32, 98, 92, 10, 99, 10, 100]⟩ (by decide) v [(1, [97, 32, 32, 32, 98, 32, 99]), (4, [100])] W h
  rw [show isA (bytes ⟨#[97, 32, 92, 10, 32, 98, 92, 10, 99, 10, 100]⟩) [(1, [97, 32, 32, 32, 98, 32, 99]), (4, [100])] = true from aw1] at hI1
  have hI2 := fun v W (h : Rd W 2 encN v [(1, [97, 32, 98])]) => is_calls ⟨#[97, 92, 10, 59, 120, 10, 98]⟩ (by decide) v [(1, [97, 32, 98])] W h
  rw [show isA (bytes ⟨#[97, 92, 10, 59, 120, 10, 98]⟩) [(1, [97, 32, 98])] = true from aw2] at hI2
  have hI3 := fun v W (h : Rd W 2 encN v [(1, [97])]) => is_calls ⟨#[97, 92]⟩ (by decide) v [(1, [97])] W h
  rw [show isA (bytes ⟨#[97, 92]⟩) [(1, [97])] = true from aw3] at hI3
  have hI4 := fun v W (h : Rd W 2 encN v []) => is_calls ⟨#[10, 32, 10]⟩ (by decide) v [] W h
  rw [show isA (bytes ⟨#[10, 32, 10]⟩) [] = true from aw4] at hI4
  have hC1 := fun W => Comment_calls ⟨#[32, 59, 120]⟩ (by decide) W
  rw [show commentL (bytes ⟨#[32, 59, 120]⟩) = true from awC1] at hC1
  have hC2 := fun W => Comment_calls ⟨#[97, 59]⟩ (by decide) W
  rw [show commentL (bytes ⟨#[97, 59]⟩) = false from awC2] at hC2
  have hT := fun W => Trim_calls ⟨#[32, 9, 97, 32, 98, 13]⟩ (by decide) W
  rw [show trimL (bytes ⟨#[32, 9, 97, 32, 98, 13]⟩) = [97, 32, 98] from awT] at hT
  have hN := fun v W (h : Rd W 1 encB v [97, 10]) => Count_calls v [97, 10] (by decide) W h
  rw [awN] at hN
  have HhOf := Lib.hid hOf
  clear hOf
  have HhI0 := Lib.hid hI0
  clear hI0
  have HhI1 := Lib.hid hI1
  clear hI1
  have HhI2 := Lib.hid hI2
  clear hI2
  have HhI3 := Lib.hid hI3
  clear hI3
  have HhI4 := Lib.hid hI4
  clear hI4
  have HhC1 := Lib.hid hC1
  clear hC1
  have HhC2 := Lib.hid hC2
  clear hC2
  have HhT := Lib.hid hT
  clear hT
  have HhN := Lib.hid hN
  clear hN
  have HX0 := Lib.hid (Ext.refl w)
  go_enter Try.func16, Try.ntmps16
  go_wp2_with fail
  refine (HhOf.out 1 ⟨#[97, 61, 32, 49]⟩ _).mono ?_
  rintro e w1 ⟨rfl, hx1⟩
  have HX1 := Lib.hid (HX0.out.trans hx1)
  clear hx1
  go_wp2_with fail
  refine (HhOf.out 3 ⟨#[98]⟩ _).mono ?_
  rintro e w2 ⟨rfl, hx2⟩
  have HX2 := Lib.hid (HX1.out.trans hx2)
  clear hx2
  go_wp2_with fail
  refine (HhI0.out _ _ (rd_lit encN_len w2 [(1, [97, 61, 32, 49]), (3, [98])] _ _ rfl)).mono ?_
  rintro e w3 ⟨rfl, hx3⟩
  have HX3 := Lib.hid ((HX2.out.alloc _).trans hx3)
  clear hx3
  go_wp2_with fail
  refine (HhOf.out 1 ⟨#[97, 32, 32, 32, 98, 32, 99]⟩ _).mono ?_
  rintro e w4 ⟨rfl, hx4⟩
  have HX4 := Lib.hid (HX3.out.trans hx4)
  clear hx4
  go_wp2_with fail
  refine (HhOf.out 4 ⟨#[100]⟩ _).mono ?_
  rintro e w5 ⟨rfl, hx5⟩
  have HX5 := Lib.hid (HX4.out.trans hx5)
  clear hx5
  go_wp2_with fail
  refine (HhI1.out _ _ (rd_lit encN_len w5 [(1, [97, 32, 32, 32, 98, 32, 99]), (4, [100])] _ _ rfl)).mono ?_
  rintro e w6 ⟨rfl, hx6⟩
  have HX6 := Lib.hid ((HX5.out.alloc _).trans hx6)
  clear hx6
  go_wp2_with fail
  refine (HhOf.out 1 ⟨#[97, 32, 98]⟩ _).mono ?_
  rintro e w7 ⟨rfl, hx7⟩
  have HX7 := Lib.hid (HX6.out.trans hx7)
  clear hx7
  go_wp2_with fail
  refine (HhI2.out _ _ (rd_lit encN_len w7 [(1, [97, 32, 98])] _ _ rfl)).mono ?_
  rintro e w8 ⟨rfl, hx8⟩
  have HX8 := Lib.hid ((HX7.out.alloc _).trans hx8)
  clear hx8
  go_wp2_with fail
  refine (HhOf.out 1 ⟨#[97]⟩ _).mono ?_
  rintro e w9 ⟨rfl, hx9⟩
  have HX9 := Lib.hid (HX8.out.trans hx9)
  clear hx9
  go_wp2_with fail
  refine (HhI3.out _ _ (rd_lit encN_len w9 [(1, [97])] _ _ rfl)).mono ?_
  rintro e w10 ⟨rfl, hx10⟩
  have HX10 := Lib.hid ((HX9.out.alloc _).trans hx10)
  clear hx10
  go_wp2_with fail
  refine (HhI4.out _ _ (rd_none _ _ _)).mono ?_
  rintro e w11 ⟨rfl, hx11⟩
  have HX11 := Lib.hid (HX10.out.trans hx11)
  clear hx11
  go_wp2_with fail
  refine (HhC1.out _).mono ?_
  rintro e w' ⟨rfl, rfl⟩
  go_wp2_with fail
  refine (HhC2.out _).mono ?_
  rintro e w' ⟨rfl, rfl⟩
  go_wp2_with fail
  refine (HhT.out _).mono ?_
  rintro e w' ⟨rfl, rfl⟩
  go_wp2_with fail
  refine (HhN.out _ _ (rd_litB w11 [97, 10] _ _)).mono ?_
  rintro e w99 ⟨rfl, hx99⟩
  go_wp2_with fail
  go_ret
  exact ⟨rfl, (HX11.out.alloc _).trans hx99⟩
end L12
end Go.Proofs.Yteheegkdcphapaa
