import Derived.Test.YtkmhfjnjfghnjaaMq25
import Derived.Test.YtkmhfjnjfghnjaaMq18
import Derived.Test.YtkmhfjnjfghnjaaMq33
/- Layer 25: the walk of awake: the chapter's examples hold. -/
namespace Go.Proofs.Ytkmhfjnjfghnjaa
open Go.RowKit V
namespace L25
def xsA : List Sy := [⟨32, 0, 0, 0⟩, ⟨21, 1, 2, 3⟩, ⟨6, 5, 0, 0⟩, ⟨6, 6, 0, 0⟩]
theorem okA : ∀ s ∈ xsA, OkY s := by
  intro s hs
  simp only [xsA, List.mem_cons, List.not_mem_nil, or_false] at hs
  rcases hs with rfl | rfl | rfl | rfl <;> exact ⟨by decide, by decide, by decide, by decide, by decide, by decide⟩
def dN (n : Nat) : Dat := ⟨n, 0, 0, 0, 0, 0, 0, 0, 0⟩
theorem okN {n : Nat} (h : n < 4294967296) : OkD (dN n) := ⟨h, by show 0 < _; decide, by show 0 < _; decide, by show 0 < _; decide, by show 0 < _; decide, by show 0 < _; decide, by show 0 < _; decide, by show 0 < _; decide, by show 0 < _; decide⟩
theorem runA1 : runA (dN 1) xsA = (5, 3) := by decide +kernel
theorem runA2 : runA (dN 2) xsA = (6, 3) := by decide +kernel
theorem runEA : runE xsA = 0 := by decide +kernel
theorem mayA0 : mayA [] = false := by decide +kernel
theorem mayA1 : mayA [⟨21, 0, 0, 1⟩, ⟨6, 0, 0, 0⟩] = false := by decide +kernel
theorem mayA2 : mayA [⟨7, 0, 0, 0⟩, ⟨6, 0, 0, 0⟩] = false := by decide +kernel
set_option maxRecDepth 100000 in
set_option maxHeartbeats 2000000 in
theorem awake_calls (w : World) : Calls Try.prog 41 #[] w fun e w' => e = .returned (.bool true) ∧ Ext w w' := by
  have hR1 : ∀ g W, Rd W 4 encY (.slice (some ⟨g, 0, none⟩) 4 4) xsA → Calls Try.prog 32 #[.slice (some ⟨g, 0, none⟩) 4 4, .agg #[.int .u32 1, .int .u32 0, .int .u64 0, .int .u64 0, .int .u64 0, .int .u64 0, .int .u64 0, .int .u64 0, .int .u64 0]] W fun e w' => e = .returned (.tuple #[.int .u32 5, .int .i64 3, .int .i64 0]) ∧ Ext W w' := fun g W h => by
    have := Run_calls (fun s i len w => mayOne_calls s i len w) (.slice (some ⟨g, 0, none⟩) 4 4) xsA okA (dN 1) (okN (by decide)) (by decide) W h
    rw [runA1, runEA] at this
    exact this
  have hR2 : ∀ g W, Rd W 4 encY (.slice (some ⟨g, 0, none⟩) 4 4) xsA → Calls Try.prog 32 #[.slice (some ⟨g, 0, none⟩) 4 4, .agg #[.int .u32 2, .int .u32 0, .int .u64 0, .int .u64 0, .int .u64 0, .int .u64 0, .int .u64 0, .int .u64 0, .int .u64 0]] W fun e w' => e = .returned (.tuple #[.int .u32 6, .int .i64 3, .int .i64 0]) ∧ Ext W w' := fun g W h => by
    have := Run_calls (fun s i len w => mayOne_calls s i len w) (.slice (some ⟨g, 0, none⟩) 4 4) xsA okA (dN 2) (okN (by decide)) (by decide) W h
    rw [runA2, runEA] at this
    exact this
  have hG6 : ∀ g W, Rd W 1 encI (.slice (some ⟨g, 0, none⟩) 1 1) [6] → Calls Try.prog 37 #[.slice (some ⟨g, 0, none⟩) 1 1] W fun e w' => e = .returned (.tuple #[.slice none 0 0, .int .i64 2]) ∧ Ext W w' := fun g W h => Guard_bad _ [6] (by decide) (by decide) W h
  have hE : ∀ W, Calls Try.prog 40 #[.agg #[.int .i64 9, .slice none 0 0, .int .u32 0]] W fun e w' => e = .returned (.tuple #[.slice none 0 0, .int .i64 210]) ∧ Ext W w' := fun W =>
    Emit_no ⟨9, [], 0⟩ (.slice none 0 0) ⟨by show (-9223372036854775808 : Int) ≤ 9; decide, by show (9 : Int) ≤ 9223372036854775807; decide, by show 0 < _; decide, by show 0 ≤ _; decide, fun r hr => by cases hr⟩ (by decide +kernel) W ⟨none, 0, rfl, Nat.le_refl _, fun _ => rfl, fun i hi => by cases hi⟩
  have hM0 : ∀ W, Calls Try.prog 34 #[.slice none 0 0] W fun e w' => e = .returned (.bool false) ∧ Ext W w' := fun W => by
    have := May_calls (fun s i len w => mayOne_calls s i len w) (.slice none 0 0) [] (by decide) W (rd_none _ _ _)
    rw [mayA0] at this
    exact this
  have hM1 : ∀ g W, Rd W 4 encY (.slice (some ⟨g, 0, none⟩) 2 2) [⟨21, 0, 0, 1⟩, ⟨6, 0, 0, 0⟩] → Calls Try.prog 34 #[.slice (some ⟨g, 0, none⟩) 2 2] W fun e w' => e = .returned (.bool false) ∧ Ext W w' := fun g W h => by
    have := May_calls (fun s i len w => mayOne_calls s i len w) (.slice (some ⟨g, 0, none⟩) 2 2) [⟨21, 0, 0, 1⟩, ⟨6, 0, 0, 0⟩] (by decide) W h
    rw [mayA1] at this
    exact this
  have hM2 : ∀ g W, Rd W 4 encY (.slice (some ⟨g, 0, none⟩) 2 2) [⟨7, 0, 0, 0⟩, ⟨6, 0, 0, 0⟩] → Calls Try.prog 34 #[.slice (some ⟨g, 0, none⟩) 2 2] W fun e w' => e = .returned (.bool false) ∧ Ext W w' := fun g W h => by
    have := May_calls (fun s i len w => mayOne_calls s i len w) (.slice (some ⟨g, 0, none⟩) 2 2) [⟨7, 0, 0, 0⟩, ⟨6, 0, 0, 0⟩] (by decide) W h
    rw [mayA2] at this
    exact this
  have HhR1 := Lib.hid hR1
  clear hR1
  have HhR2 := Lib.hid hR2
  clear hR2
  have HhG6 := Lib.hid hG6
  clear hG6
  have HhE := Lib.hid hE
  clear hE
  have HhM0 := Lib.hid hM0
  clear hM0
  have HhM1 := Lib.hid hM1
  clear hM1
  have HhM2 := Lib.hid hM2
  clear hM2
  go_enter Try.func41, Try.ntmps41
  go_wp2_with fail
  obtain ⟨W1, hW1⟩ : ∃ W1, W1 = w.alloc (.cells (xsA.flatMap encY).toArray 70) := ⟨_, rfl⟩
  have hr1 : Rd W1 4 encY (.slice (some ⟨w.heap.size, 0, none⟩) 4 4) xsA := by rw [hW1]; exact rd_lit encY_len w xsA _ _ rfl
  have HX1 : Hid (Ext w W1) := Lib.hid (by rw [hW1]; exact (Ext.refl _).alloc _)
  have HR1 := Lib.hid hr1
  refine (HhR1.out _ _ (by rw [hW1] at hr1; exact hr1)).mono ?_
  rintro e w2 ⟨rfl, hx2⟩
  have HX2 : Hid (Ext W1 w2) := Lib.hid (by rw [hW1]; exact hx2)
  clear hx2 hr1 hW1
  go_wp2_with fail
  refine (HhR2.out _ _ (HR1.out.ext HX2.out)).mono ?_
  rintro e w3 ⟨rfl, hx3⟩
  have HX3 := Lib.hid (HX2.out.trans hx3)
  clear hx3
  go_wp2_with fail
  refine (Guard_nil _).mono ?_
  rintro e w4 ⟨rfl, hx4⟩
  have HX4 := Lib.hid (HX3.out.trans hx4)
  clear hx4
  go_wp2_with fail
  refine (HhG6.out _ _ (rd_lit encI_len w4 [6] _ _ rfl)).mono ?_
  rintro e w5 ⟨rfl, hx5⟩
  have HX5 := Lib.hid ((HX4.out.alloc _).trans hx5)
  clear hx5
  go_wp2_with fail
  refine (HhE.out _).mono ?_
  rintro e w6 ⟨rfl, hx6⟩
  have HX6 := Lib.hid (HX5.out.trans hx6)
  clear hx6
  go_wp2_with fail
  refine (HhM0.out _).mono ?_
  rintro e w7 ⟨rfl, hx7⟩
  have HX7 := Lib.hid (HX6.out.trans hx7)
  clear hx7
  go_wp2_with fail
  refine (HhM1.out _ _ (rd_lit encY_len w7 [⟨21, 0, 0, 1⟩, ⟨6, 0, 0, 0⟩] _ _ rfl)).mono ?_
  rintro e w8 ⟨rfl, hx8⟩
  have HX8 := Lib.hid ((HX7.out.alloc _).trans hx8)
  clear hx8
  go_wp2_with fail
  refine (HhM2.out _ _ (rd_lit encY_len w8 [⟨7, 0, 0, 0⟩, ⟨6, 0, 0, 0⟩] _ _ rfl)).mono ?_
  rintro e w9 ⟨rfl, hx9⟩
  have HX9 := Lib.hid ((HX8.out.alloc _).trans hx9)
  clear hx9
  go_wp2_with fail
  go_ret
  exact ⟨rfl, HX1.out.trans HX9.out⟩
end L25
end Go.Proofs.Ytkmhfjnjfghnjaa

