/- Layer 24: the chapter's examples: awake. -/
import Derived.Test.YtaclndhenhjjaaaTreeG
import Derived.Test.YtaclndhenhjjaaaTreeH
namespace Go.Proofs.Ytaclndhenhjjaaa
open Go.RowKit V
namespace L24
open L23
theorem bA0 : buildA [⟨0, 4294967295, 7⟩] = ([⟨true, 7, 0, 0, 0⟩], 0) := by rfl
theorem bA1 : buildA [⟨0, 4, 1⟩, ⟨5, 9, 2⟩, ⟨10, 4294967295, 3⟩] = ([⟨false, 0, 5, 1, 2⟩, ⟨true, 1, 0, 0, 0⟩, ⟨false, 0, 10, 3, 4⟩, ⟨true, 2, 0, 0, 0⟩, ⟨true, 3, 0, 0, 0⟩], 0) := by rfl
def tA : List Node := [⟨true, 7, 0, 0, 0⟩]
def tB : List Node := [⟨false, 0, 5, 1, 2⟩, ⟨true, 1, 0, 0, 0⟩, ⟨false, 0, 10, 3, 4⟩, ⟨true, 2, 0, 0, 0⟩, ⟨true, 3, 0, 0, 0⟩]
theorem dA : depthA tA = 0 := by rfl
theorem dB : depthA tB = 2 := by rfl
theorem mB : may tB = true := by rfl
theorem fB4 : findA tB 4 = (1, 1) := by rfl
theorem fB5 : findA tB 5 = (2, 2) := by rfl
theorem fB10 : findA tB 10 = (3, 2) := by rfl
theorem fN : findA [] 1 = (0, 0) := by rfl
theorem mN : may [] = false := by rfl
theorem rd_none5 (w : World) : Rd w 5 encN (.slice none 0 0) ([] : List Node) := ⟨none, 0, rfl, Nat.le_refl _, fun _ => rfl, fun i hi => by cases hi⟩
theorem ownN_cell {w : World} {base : Nat} {u : Value} {xs : List Node} (h : OwnN w base u xs) (hp : 0 < xs.length) : ∃ g c, u = .slice (some ⟨g, 0, none⟩) xs.length c ∧ ∀ i, (hi : i < xs.length) →
    w.cell? ⟨g, i * 5, none⟩ = some (.bool xs[i].leaf) ∧ w.cell? ⟨g, i * 5 + 1, none⟩ = some (.int .i64 xs[i].way) ∧ w.cell? ⟨g, i * 5 + 2, none⟩ = some (.int .u32 (xs[i].at_ : Int)) ∧ w.cell? ⟨g, i * 5 + 3, none⟩ = some (.int .i64 xs[i].less) ∧ w.cell? ⟨g, i * 5 + 4, none⟩ = some (.int .i64 xs[i].more) := by
  obtain ⟨g, c, rfl, hb, -, -⟩ := own_parts h hp
  obtain ⟨a, c', e, -, h4⟩ := rdN_cell h.rd
  refine ⟨g, c, rfl, fun i hi => ?_⟩
  obtain ⟨b', o', e', k1, k2, k3, k4, k5⟩ := h4 i hi
  simp only [Value.slice.injEq] at e
  rw [← e.1] at e'
  obtain ⟨rfl, rfl⟩ : g = b' ∧ 0 = o' := by simpa using e'
  rw [Nat.zero_add] at k1 k2 k3 k4 k5
  exact ⟨k1, k2, k3, k4, k5⟩
theorem aw0 (W : World) (t : TypeId) : Calls Try.prog 25 #[.slice (some ⟨W.heap.size, 0, none⟩) 1 1] (W.alloc (.cells #[.int .u32 0, .int .u32 4294967295, .int .i64 7] t)) fun e w' => ∃ g c, e = .returned (.tuple #[.slice (some ⟨g, 0, none⟩) 1 c, .int .i64 0]) ∧ Ext W w' ∧
    Rd w' 5 encN (.slice (some ⟨g, 0, none⟩) 1 c) tA ∧ w'.cell? ⟨g, 0, none⟩ = some (.bool true) ∧ w'.cell? ⟨g, 1, none⟩ = some (.int .i64 7) := by
  have r1 := rd_lit encS_len W [⟨0, 4294967295, 7⟩] t _ rfl
  refine (Build_calls _ [⟨0, 4294967295, 7⟩] (by simp) (by intro s hs; simp at hs; subst hs; exact ⟨by simp, by simp, by simp, by simp⟩) _ r1).mono ?_
  rw [bA0]
  rintro e w' ⟨u, he, hx, hq⟩
  obtain ⟨g, c, rfl, h⟩ := ownN_cell hq (by simp)
  obtain ⟨h1, h2, -, -, -⟩ := h 0 (by simp)
  rw [Nat.zero_mul] at h1 h2
  rw [Nat.zero_add] at h2
  exact ⟨g, c, he, ((Ext.refl W).alloc _).trans hx, hq.rd, h1, h2⟩
theorem aw1 (W : World) (t : TypeId) : Calls Try.prog 25 #[.slice (some ⟨W.heap.size, 0, none⟩) 3 3] (W.alloc (.cells #[.int .u32 0, .int .u32 4, .int .i64 1, .int .u32 5, .int .u32 9, .int .i64 2, .int .u32 10, .int .u32 4294967295, .int .i64 3] t)) fun e w' => ∃ g c, e = .returned (.tuple #[.slice (some ⟨g, 0, none⟩) 5 c, .int .i64 0]) ∧ Ext W w' ∧
    Rd w' 5 encN (.slice (some ⟨g, 0, none⟩) 5 c) tB ∧
    w'.cell? ⟨g, 0, none⟩ = some (.bool false) ∧ w'.cell? ⟨g, 1, none⟩ = some (.int .i64 0) ∧ w'.cell? ⟨g, 2, none⟩ = some (.int .u32 5) ∧ w'.cell? ⟨g, 3, none⟩ = some (.int .i64 1) ∧ w'.cell? ⟨g, 4, none⟩ = some (.int .i64 2) ∧
    w'.cell? ⟨g, 5, none⟩ = some (.bool true) ∧ w'.cell? ⟨g, 6, none⟩ = some (.int .i64 1) ∧ w'.cell? ⟨g, 7, none⟩ = some (.int .u32 0) ∧ w'.cell? ⟨g, 8, none⟩ = some (.int .i64 0) ∧ w'.cell? ⟨g, 9, none⟩ = some (.int .i64 0) ∧
    w'.cell? ⟨g, 10, none⟩ = some (.bool false) ∧ w'.cell? ⟨g, 11, none⟩ = some (.int .i64 0) ∧ w'.cell? ⟨g, 12, none⟩ = some (.int .u32 10) ∧ w'.cell? ⟨g, 13, none⟩ = some (.int .i64 3) ∧ w'.cell? ⟨g, 14, none⟩ = some (.int .i64 4) ∧
    w'.cell? ⟨g, 21, none⟩ = some (.int .i64 3) := by
  have r1 := rd_lit encS_len W [⟨0, 4, 1⟩, ⟨5, 9, 2⟩, ⟨10, 4294967295, 3⟩] t _ rfl
  refine (Build_calls _ [⟨0, 4, 1⟩, ⟨5, 9, 2⟩, ⟨10, 4294967295, 3⟩] (by simp) (by intro s hs; simp at hs; rcases hs with rfl | rfl | rfl <;> exact ⟨by simp, by simp, by simp, by simp⟩) _ r1).mono ?_
  rw [bA1]
  rintro e w' ⟨u, he, hx, hq⟩
  obtain ⟨g, c, rfl, h⟩ := ownN_cell hq (by simp)
  obtain ⟨h0, h1, h2, h3, h4⟩ := h 0 (by simp)
  obtain ⟨h5, h6, h7, h8, h9⟩ := h 1 (by simp)
  obtain ⟨h10, h11, h12, h13, h14⟩ := h 2 (by simp)
  obtain ⟨-, h21, -, -, -⟩ := h 4 (by simp)
  rw [Nat.zero_mul] at h0 h1 h2 h3 h4
  rw [Nat.zero_add] at h1 h2 h3 h4
  exact ⟨g, c, he, ((Ext.refl W).alloc _).trans hx, hq.rd, h0, h1, h2, h3, h4, h5, h6, h7, h8, h9, h10, h11, h12, h13, h14, h21⟩
set_option maxRecDepth 100000 in
set_option maxHeartbeats 1000000 in
theorem awake_calls (w : World) : Calls Try.prog 34 #[] w fun e w' => e = .returned (.bool true) ∧ Ext w w' := by
  have q0 := run_neqN ⟨false, 0, 5, 1, 2⟩ ⟨false, 0, 5, 1, 2⟩
  have q1 := run_neqN ⟨true, 1, 0, 0, 0⟩ ⟨true, 1, 0, 0, 0⟩
  have q2 := run_neqN ⟨false, 0, 10, 3, 4⟩ ⟨false, 0, 10, 3, 4⟩
  rw [sameN_refl] at q0 q1 q2
  have hg := hgN
  have d0 := fun w c g h => Depth_calls (.slice (some ⟨g, 0, none⟩) 1 c) tA (by decide) w h
  have d1 := fun w c g h => Depth_calls (.slice (some ⟨g, 0, none⟩) 5 c) tB (by decide) w h
  rw [dA] at d0
  rw [dB] at d1
  have f4 := fun w c g h => Find_calls (.slice (some ⟨g, 0, none⟩) 5 c) tB 4 (by decide) w h
  have f5 := fun w c g h => Find_calls (.slice (some ⟨g, 0, none⟩) 5 c) tB 5 (by decide) w h
  have f10 := fun w c g h => Find_calls (.slice (some ⟨g, 0, none⟩) 5 c) tB 10 (by decide) w h
  have f1 := fun w => Find_calls (.slice none 0 0) [] 1 (by decide) w (rd_none5 w)
  rw [fB4, mB] at f4
  rw [fB5, mB] at f5
  rw [fB10, mB] at f10
  rw [fN, mN] at f1
  have Hd0 := Lib.hid d0
  clear d0
  have Hd1 := Lib.hid d1
  clear d1
  have Hf4 := Lib.hid f4
  clear f4
  have Hf5 := Lib.hid f5
  clear f5
  have Hf10 := Lib.hid f10
  clear f10
  have Hf1 := Lib.hid f1
  clear f1
  go_enter Try.func34, Try.ntmps34
  go_wp2_with fail
  refine (aw0 _ _).mono ?_
  rintro e w1 ⟨g0, c0, rfl, hx1, rA, a0, a1⟩
  go_wp2_with fail
  refine (aw1 _ _).mono ?_
  rintro e w2 ⟨g1, c1, rfl, hx2, rB, b0, b1, b2, b3, b4, b5, b6, b7, b8, b9, b10, b11, b12, b13, b14, b21⟩
  have HX2 := Lib.hid (hx1.trans hx2)
  have HA := Lib.hid (rA.ext hx2)
  have HB := Lib.hid rB
  replace a0 := hx2.cell a0; replace a1 := hx2.cell a1
  clear hx1 hx2 rA rB
  go_wp2_with fail
  refine (Hd0.out _ _ _ HA.out).mono ?_
  rintro e w3 ⟨rfl, hx3⟩
  have HB3 := Lib.hid (HB.out.ext hx3)
  go_wp2_with fail
  refine (Hd1.out _ _ _ HB3.out).mono ?_
  rintro e w4 ⟨rfl, hx4⟩
  have HX4 := Lib.hid ((HX2.out.trans hx3).trans hx4)
  have HB4 := Lib.hid (HB3.out.ext hx4)
  have hx := hx3.trans hx4
  replace b0 := hx.cell b0; replace b1 := hx.cell b1; replace b2 := hx.cell b2; replace b3 := hx.cell b3; replace b4 := hx.cell b4; replace b5 := hx.cell b5; replace b6 := hx.cell b6; replace b7 := hx.cell b7
  replace b8 := hx.cell b8; replace b9 := hx.cell b9; replace b10 := hx.cell b10; replace b11 := hx.cell b11; replace b12 := hx.cell b12; replace b13 := hx.cell b13; replace b14 := hx.cell b14; replace b21 := hx.cell b21
  clear hx hx3 hx4 a0 a1
  go_wp2_with fail
  refine (Hf4.out _ _ _ (by first | exact HB4.out | exact HB4.out.ext (by repeat (first | exact Ext.refl _ | apply Ext.drewN | apply Ext.drew)))).mono ?_
  rintro e w5 ⟨rfl, hx5⟩
  go_wp2_with fail
  refine (Hf5.out _ _ _ (HB4.out.ext (by first | exact hx5 | sorry))).mono ?_
  rintro e w6 ⟨rfl, hx6⟩
  go_wp2_with fail
  refine (Hf10.out _ _ _ (HB4.out.ext (hx5.trans hx6))).mono ?_
  rintro e w7 ⟨rfl, hx7⟩
  go_wp2_with fail
  refine (Hf1.out _).mono ?_
  rintro e w8 ⟨rfl, hx8⟩
  go_wp2_with fail
  go_ret
  exact ⟨rfl, HX4.out.trans (((hx5.trans hx6).trans hx7).trans hx8)⟩
end L24
end Go.Proofs.Ytaclndhenhjjaaa
