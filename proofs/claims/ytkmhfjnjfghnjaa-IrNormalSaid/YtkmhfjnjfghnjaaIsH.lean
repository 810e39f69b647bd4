/- Layer 21: the walk of awake: the chapter's examples hold. -/
import Derived.Test.YtkmhfjnjfghnjaaIsE
import Derived.Test.YtkmhfjnjfghnjaaKept
import Derived.Test.YtkmhfjnjfghnjaaKept
namespace Go.Proofs.Ytkmhfjnjfghnjaa
open Go.RowKit V
namespace L21
open L25 (Dat datV OkD)
theorem okTS : OkT tS := ⟨by decide, by decide, by decide, by decide, by decide⟩
theorem okFS {ts : List Test} (h : ∀ t ∈ ts, OkT t) (hl : ts.length ≤ 1000) : OkF (fS ts) := by
  refine ⟨by show (-9223372036854775808 : Int) ≤ 0; decide, by show (0 : Int) ≤ 9223372036854775807; decide, by show 2147418112 < 4294967296; decide, by show 1 ≤ 140737488351232; decide, fun r hr => ?_⟩
  have e : r = ⟨41, tS :: ts, 327777⟩ := by simpa [fS] using hr
  subst e
  refine ⟨by show 41 < 4294967296; decide, by show 327777 < 4294967296; decide, by show (tS :: ts).length ≤ _; simp; omega, fun t ht => ?_⟩
  have ht' : t = tS ∨ t ∈ ts := by simpa using ht
  rcases ht' with rfl | ht
  · exact okTS
  · exact h t ht
def tA : Test := ⟨0, 0, 0, 327681⟩
def tB : Test := ⟨0, 1, 0, 327777⟩
theorem okTA : OkT tA := ⟨by decide, by decide, by decide, by decide, by decide⟩
theorem okTB : OkT tB := ⟨by decide, by decide, by decide, by decide, by decide⟩
def dS (t n x : Nat) : Dat := ⟨n, t, 0, x, 0, 0, 0, 0, 0⟩
theorem okDS {t n x : Nat} (ht : t < 4294967296) (hn : n < 4294967296) (hx : x < 18446744073709551616) : OkD (dS t n x) := ⟨hn, ht, by show 0 < _; decide, hx, by show 0 < _; decide, by show 0 < _; decide, by show 0 < _; decide, by show 0 < _; decide, by show 0 < _; decide⟩
theorem den1 : denA (fS []) (dS 3221225534 41 10) = 2147418112 := by decide +kernel
theorem den2 : denA (fS []) (dS 3221225534 41 11) = 327777 := by decide +kernel
theorem den3 : denA (fS []) (dS 3221225534 41 266) = 2147418112 := by decide +kernel
theorem den4 : denA (fS []) (dS 3221225534 42 11) = 2147418112 := by decide +kernel
theorem den5 : denA (fS []) (dS 1073741827 41 11) = 2147418112 := by decide +kernel
theorem den6 : denA (fS []) (dS 3221225534 1073741865 11) = 2147418112 := by decide +kernel
theorem mayA : mayF (fS [tA]) = true := by decide +kernel
theorem mayB : mayF (fS [tB]) = true := by decide +kernel
theorem mayS : mayF (fS []) = true := by decide +kernel
theorem mayN : mayF ⟨0, [], 262144⟩ = false := by decide +kernel
theorem normA : normL 2147418112 (fS [tA]).rules = [⟨41, [tS], 327681⟩] := by rfl
theorem normB : normL 2147418112 (fS [tB]).rules = (fS []).rules := by rfl
set_option maxRecDepth 100000 in
set_option maxHeartbeats 4000000 in
theorem awake_calls (w : World) : Calls Try.prog 30 #[] w fun e w' => e = .returned (.bool true) ∧ Ext w w' := by
  have hSm := fun v (ts : List Test) (hl : ts.length ≤ 1000) W (h : Rd W 4 encT v ts) => small_calls v ts hl W h
  have okF0 : OkF (fS []) := okFS (fun t h => by cases h) (by simp)
  have okFA : OkF (fS [tA]) := okFS (fun t h => by rw [List.mem_singleton] at h; subst h; exact okTA) (by simp)
  have okFB : OkF (fS [tB]) := okFS (fun t h => by rw [List.mem_singleton] at h; subst h; exact okTB) (by simp)
  have hlr : ∀ ts : List Test, ts.length ≤ 10 → ∀ r ∈ (fS ts).rules, r.tests.length ≤ 1000 := fun ts h r hr => by
    have e : r = ⟨41, tS :: ts, 327777⟩ := by simpa [fS] using hr
    subst e
    show (tS :: ts).length ≤ 1000
    simp; omega
  have hD1 : ∀ g W, RdR W 3 (IsR W) (.slice (some ⟨g, 0, none⟩) 1 1) (fS []).rules → Calls Try.prog 28 #[.agg #[.int .i64 0, .slice (some ⟨g, 0, none⟩) 1 1, .int .u32 2147418112], .agg #[.int .u32 41, .int .u32 3221225534, .int .u64 0, .int .u64 10, .int .u64 0, .int .u64 0, .int .u64 0, .int .u64 0, .int .u64 0]] W fun e w' => e = .returned (.int .u32 2147418112) ∧ Ext W w' := fun g W h => by
    have := Denote_calls (fS []) (.slice (some ⟨g, 0, none⟩) 1 1) okF0 (dS 3221225534 41 10) (okDS (by decide) (by decide) (by decide)) W h
    rw [den1] at this
    exact this
  have hD2 : ∀ g W, RdR W 3 (IsR W) (.slice (some ⟨g, 0, none⟩) 1 1) (fS []).rules → Calls Try.prog 28 #[.agg #[.int .i64 0, .slice (some ⟨g, 0, none⟩) 1 1, .int .u32 2147418112], .agg #[.int .u32 41, .int .u32 3221225534, .int .u64 0, .int .u64 11, .int .u64 0, .int .u64 0, .int .u64 0, .int .u64 0, .int .u64 0]] W fun e w' => e = .returned (.int .u32 327777) ∧ Ext W w' := fun g W h => by
    have := Denote_calls (fS []) (.slice (some ⟨g, 0, none⟩) 1 1) okF0 (dS 3221225534 41 11) (okDS (by decide) (by decide) (by decide)) W h
    rw [den2] at this
    exact this
  have hD3 : ∀ g W, RdR W 3 (IsR W) (.slice (some ⟨g, 0, none⟩) 1 1) (fS []).rules → Calls Try.prog 28 #[.agg #[.int .i64 0, .slice (some ⟨g, 0, none⟩) 1 1, .int .u32 2147418112], .agg #[.int .u32 41, .int .u32 3221225534, .int .u64 0, .int .u64 266, .int .u64 0, .int .u64 0, .int .u64 0, .int .u64 0, .int .u64 0]] W fun e w' => e = .returned (.int .u32 2147418112) ∧ Ext W w' := fun g W h => by
    have := Denote_calls (fS []) (.slice (some ⟨g, 0, none⟩) 1 1) okF0 (dS 3221225534 41 266) (okDS (by decide) (by decide) (by decide)) W h
    rw [den3] at this
    exact this
  have hD4 : ∀ g W, RdR W 3 (IsR W) (.slice (some ⟨g, 0, none⟩) 1 1) (fS []).rules → Calls Try.prog 28 #[.agg #[.int .i64 0, .slice (some ⟨g, 0, none⟩) 1 1, .int .u32 2147418112], .agg #[.int .u32 42, .int .u32 3221225534, .int .u64 0, .int .u64 11, .int .u64 0, .int .u64 0, .int .u64 0, .int .u64 0, .int .u64 0]] W fun e w' => e = .returned (.int .u32 2147418112) ∧ Ext W w' := fun g W h => by
    have := Denote_calls (fS []) (.slice (some ⟨g, 0, none⟩) 1 1) okF0 (dS 3221225534 42 11) (okDS (by decide) (by decide) (by decide)) W h
    rw [den4] at this
    exact this
  have hD5 : ∀ g W, RdR W 3 (IsR W) (.slice (some ⟨g, 0, none⟩) 1 1) (fS []).rules → Calls Try.prog 28 #[.agg #[.int .i64 0, .slice (some ⟨g, 0, none⟩) 1 1, .int .u32 2147418112], .agg #[.int .u32 41, .int .u32 1073741827, .int .u64 0, .int .u64 11, .int .u64 0, .int .u64 0, .int .u64 0, .int .u64 0, .int .u64 0]] W fun e w' => e = .returned (.int .u32 2147418112) ∧ Ext W w' := fun g W h => by
    have := Denote_calls (fS []) (.slice (some ⟨g, 0, none⟩) 1 1) okF0 (dS 1073741827 41 11) (okDS (by decide) (by decide) (by decide)) W h
    rw [den5] at this
    exact this
  have hD6 : ∀ g W, RdR W 3 (IsR W) (.slice (some ⟨g, 0, none⟩) 1 1) (fS []).rules → Calls Try.prog 28 #[.agg #[.int .i64 0, .slice (some ⟨g, 0, none⟩) 1 1, .int .u32 2147418112], .agg #[.int .u32 1073741865, .int .u32 3221225534, .int .u64 0, .int .u64 11, .int .u64 0, .int .u64 0, .int .u64 0, .int .u64 0, .int .u64 0]] W fun e w' => e = .returned (.int .u32 2147418112) ∧ Ext W w' := fun g W h => by
    have := Denote_calls (fS []) (.slice (some ⟨g, 0, none⟩) 1 1) okF0 (dS 3221225534 1073741865 11) (okDS (by decide) (by decide) (by decide)) W h
    rw [den6] at this
    exact this
  have hNA : ∀ v W, RdR W 3 (IsR W) v (fS [tA]).rules → Calls Try.prog 19 #[.agg #[.int .i64 0, v, .int .u32 2147418112]] W fun e w' => ∃ a c, e = .returned (.tuple #[.agg #[.int .i64 0, .slice a 1 c, .int .u32 2147418112], .int .i64 0]) ∧ RdR w' 3 (IsR w') (.slice a 1 c) [⟨41, [tS], 327681⟩] ∧ Ext W w' := fun v W h => by
    refine (Normal_yes (fS [tA]) v okFA (hlr _ (by decide)) mayA W h).mono ?_
    rintro e w' ⟨a, c, ps, rfl, hp, hf, hx⟩
    have hp' : ps.map PR.r = [⟨41, [tS], 327681⟩] := hp.trans normA
    have hl : ps.length = 1 := by have := congrArg List.length hp'; simpa using this
    have hr := hf.rd
    rw [hp', hl] at hr
    rw [hl]
    exact ⟨a, c, rfl, hr, hx⟩
  have hNB : ∀ v W, RdR W 3 (IsR W) v (fS [tB]).rules → Calls Try.prog 19 #[.agg #[.int .i64 0, v, .int .u32 2147418112]] W fun e w' => ∃ a c, e = .returned (.tuple #[.agg #[.int .i64 0, .slice a 1 c, .int .u32 2147418112], .int .i64 0]) ∧ RdR w' 3 (IsR w') (.slice a 1 c) (fS []).rules ∧ Ext W w' := fun v W h => by
    refine (Normal_yes (fS [tB]) v okFB (hlr _ (by decide)) mayB W h).mono ?_
    rintro e w' ⟨a, c, ps, rfl, hp, hf, hx⟩
    have hp' : ps.map PR.r = (fS []).rules := hp.trans normB
    have hl : ps.length = 1 := by have := congrArg List.length hp'; simpa [fS] using this
    have hr := hf.rd
    rw [hp', hl] at hr
    rw [hl]
    exact ⟨a, c, rfl, hr, hx⟩
  have hM : ∀ g W, RdR W 3 (IsR W) (.slice (some ⟨g, 0, none⟩) 1 1) (fS []).rules → Calls Try.prog 27 #[.agg #[.int .i64 0, .slice (some ⟨g, 0, none⟩) 1 1, .int .u32 2147418112]] W fun e w' => e = .returned (.bool true) ∧ Ext W w' := fun g W h => by
    have := May_calls (fS []) (.slice (some ⟨g, 0, none⟩) 1 1) okF0 W h
    rw [mayS] at this
    exact this
  have hM0 : ∀ W, Calls Try.prog 27 #[.agg #[.int .i64 0, .slice none 0 0, .int .u32 262144]] W fun e w' => e = .returned (.bool false) ∧ Ext W w' := fun W => by
    have := May_calls ⟨0, [], 262144⟩ (.slice none 0 0) ⟨by show (-9223372036854775808 : Int) ≤ 0; decide, by show (0 : Int) ≤ 9223372036854775807; decide, by show 262144 < 4294967296; decide, by show 0 ≤ 140737488351232; decide, fun r hr => by cases hr⟩ W ⟨none, 0, rfl, Nat.le_refl _, fun _ => rfl, fun i hi => by cases hi⟩
    rw [mayN] at this
    exact this
  have hSame : ∀ a c g W, RdR W 3 (IsR W) (.slice a 1 c) (fS []).rules → RdR W 3 (IsR W) (.slice (some ⟨g, 0, none⟩) 1 1) (fS []).rules → Calls Try.prog 16 #[.agg #[.int .i64 0, .slice a 1 c, .int .u32 2147418112], .agg #[.int .i64 0, .slice (some ⟨g, 0, none⟩) 1 1, .int .u32 2147418112]] W fun e w' => e = .returned (.bool true) ∧ Ext W w' := fun a c g W h1 h2 => by
    have := Same_calls (fS []) (fS []) (.slice a 1 c) (.slice (some ⟨g, 0, none⟩) 1 1) okF0 W h1 h2
    rw [sameF_refl] at this
    exact this
  have HhSm := Lib.hid hSm
  clear hSm
  have HokF0 := Lib.hid okF0
  clear okF0
  have HokFA := Lib.hid okFA
  clear okFA
  have HokFB := Lib.hid okFB
  clear okFB
  have Hhlr := Lib.hid hlr
  clear hlr
  have HhNA := Lib.hid hNA
  clear hNA
  have HhNB := Lib.hid hNB
  clear hNB
  have HhM := Lib.hid hM
  clear hM
  have HhM0 := Lib.hid hM0
  clear hM0
  have HhSame := Lib.hid hSame
  clear hSame
  have HhD1 := Lib.hid hD1
  clear hD1
  have HhD2 := Lib.hid hD2
  clear hD2
  have HhD3 := Lib.hid hD3
  clear hD3
  have HhD4 := Lib.hid hD4
  clear hD4
  have HhD5 := Lib.hid hD5
  clear hD5
  have HhD6 := Lib.hid hD6
  clear hD6
  go_enter Try.func30, Try.ntmps30
  go_wp2_with fail
  refine (HhSm.out _ [] (by decide) _ (rd_none _ _ _)).mono ?_
  rintro e w1 ⟨g, rfl, hr1, hx1⟩
  obtain ⟨W1, hW1⟩ : ∃ W1, W1 = w1.alloc (.cells #[.int .i64 0, .slice (some ⟨g, 0, none⟩) 1 1, .int .u32 2147418112] 25) := ⟨_, rfl⟩
  have hx2 : Ext w1 W1 := by rw [hW1]; exact (Ext.refl _).alloc _
  have m0 : W1.cell? ⟨w1.heap.size, 0, none⟩ = some (.int .i64 0) := by rw [hW1]; simp [go_sem]
  have m1 : W1.cell? ⟨w1.heap.size, 1, none⟩ = some (.slice (some ⟨g, 0, none⟩) 1 1) := by rw [hW1]; simp [go_sem]
  have m2 : W1.cell? ⟨w1.heap.size, 2, none⟩ = some (.int .u32 2147418112) := by rw [hW1]; simp [go_sem]
  have HR1 := Lib.hid (rdRR_ext hx2 hr1)
  have HX1 := Lib.hid (hx1.trans hx2)
  have HM0 := Lib.hid m0
  have HM1 := Lib.hid m1
  have HM2 := Lib.hid m2
  have m0x := xwc m0
  have m1x := xwc m1
  have m2x := xwc m2
  have HW1 := Lib.hid hW1
  clear hr1 hx1 hx2 m0 m1 m2 hW1
  go_wp2_with fail
  rw [← HW1.out]
  refine wp_region_kept (by kernel_rfl) (by kernel_rfl) ?_
  repeat (any_goals (first | go_big_quiet_step ((first | (go_at_call 57; exact calls_kept (call_calls _ _ _ _)) | (go_at_call 28; first  | (with_reducible exact calls_kept (HhD1.out _ _ (rdRR_ext (XW.h _) HR1.out))) | (with_reducible exact calls_kept (HhD2.out _ _ (rdRR_ext (XW.h _) HR1.out))) | (with_reducible exact calls_kept (HhD3.out _ _ (rdRR_ext (XW.h _) HR1.out))) | (with_reducible exact calls_kept (HhD4.out _ _ (rdRR_ext (XW.h _) HR1.out))) | (with_reducible exact calls_kept (HhD5.out _ _ (rdRR_ext (XW.h _) HR1.out))) | (with_reducible exact calls_kept (HhD6.out _ _ (rdRR_ext (XW.h _) HR1.out)))))) | quiet_step ((first | (go_at_call 57; exact calls_kept (call_calls _ _ _ _)) | (go_at_call 28; first  | (with_reducible exact calls_kept (HhD1.out _ _ (rdRR_ext (XW.h _) HR1.out))) | (with_reducible exact calls_kept (HhD2.out _ _ (rdRR_ext (XW.h _) HR1.out))) | (with_reducible exact calls_kept (HhD3.out _ _ (rdRR_ext (XW.h _) HR1.out))) | (with_reducible exact calls_kept (HhD4.out _ _ (rdRR_ext (XW.h _) HR1.out))) | (with_reducible exact calls_kept (HhD5.out _ _ (rdRR_ext (XW.h _) HR1.out))) | (with_reducible exact calls_kept (HhD6.out _ _ (rdRR_ext (XW.h _) HR1.out))))))))
  all_goals (refine wpQuiet_nil ?_; intro _ hw9; obtain ⟨xq, hw8⟩ := hw9; subst hw8)
  have HXq := Lib.hid xq.h
  generalize xq.w = W2 at *
  clear m0x m1x m2x
  go_wp2_with fail
  refine (HhSm.out _ [tA] (by decide) _ (rd_lit encT_len W2 [tA] _ _ rfl)).mono ?_
  rintro e w3 ⟨g3, rfl, hr3, hx3⟩
  have HX3 := Lib.hid ((HXq.out.alloc _).trans hx3)
  have HR3 := Lib.hid hr3
  clear hx3 hr3
  go_wp2_with fail
  refine (HhNA.out _ _ HR3.out).mono ?_
  rintro e w4 ⟨a4, c4, rfl, hr4, hx4⟩
  obtain ⟨W5, hW5⟩ : ∃ W5, W5 = w4.alloc (.cells #[.int .i64 0, .slice a4 1 c4, .int .u32 2147418112] 25) := ⟨_, rfl⟩
  have hx5 : Ext w4 W5 := by rw [hW5]; exact (Ext.refl _).alloc _
  have n0 : W5.cell? ⟨w4.heap.size, 0, none⟩ = some (.int .i64 0) := by rw [hW5]; simp [go_sem]
  have n1 : W5.cell? ⟨w4.heap.size, 1, none⟩ = some (.slice a4 1 c4) := by rw [hW5]; simp [go_sem]
  have n2 : W5.cell? ⟨w4.heap.size, 2, none⟩ = some (.int .u32 2147418112) := by rw [hW5]; simp [go_sem]
  have HN1 := Lib.hid n1
  have HR5 := Lib.hid (rdRR_ext hx5 hr4)
  have HX5 := Lib.hid (HX3.out.trans (hx4.trans hx5))
  have HW5 := Lib.hid hW5
  clear hr4 hx4 hx5 n0 n1 n2 hW5
  go_wp2_with fail
  rw [← HW5.out]
  have hszW5 : W5.heap.size = w4.heap.size + 1 := by rw [HW5.out]; simp
  refine (HhSm.out _ [tB] (by decide) _ (rd_lit encT_len W5 [tB] _ _ hszW5.symm)).mono ?_
  rintro e w6 ⟨g6, rfl, hr6, hx6⟩
  have HX6 := Lib.hid (((Ext.refl W5).alloc _).trans hx6)
  have HR6 := Lib.hid hr6
  clear hx6 hr6 hszW5
  go_wp2_with fail
  refine (HhNB.out _ _ HR6.out).mono ?_
  rintro e w7 ⟨a7, c7, rfl, hr7, hx7⟩
  obtain ⟨W8, hW8⟩ : ∃ W8, W8 = w7.alloc (.cells #[.int .i64 0, .slice a7 1 c7, .int .u32 2147418112] 25) := ⟨_, rfl⟩
  have hx8 : Ext w7 W8 := by rw [hW8]; exact (Ext.refl _).alloc _
  have q0 : W8.cell? ⟨w7.heap.size, 0, none⟩ = some (.int .i64 0) := by rw [hW8]; simp [go_sem]
  have q1 : W8.cell? ⟨w7.heap.size, 1, none⟩ = some (.slice a7 1 c7) := by rw [hW8]; simp [go_sem]
  have q2 : W8.cell? ⟨w7.heap.size, 2, none⟩ = some (.int .u32 2147418112) := by rw [hW8]; simp [go_sem]
  have hx58 := HX6.out.trans (hx7.trans hx8)
  have hx57 := HX6.out.trans hx7
  have n1 := fun o => ((Ext.refl w7).alloc o).cell (hx57.cell HN1.out)
  obtain ⟨a', c', e', -, hcell⟩ := rdR_cell (rdRR_ext hx57 HR5.out)
  simp only [Value.slice.injEq] at e'
  obtain ⟨rfl, -, rfl⟩ := e'
  obtain ⟨b, o, vt, rfl, g0, g1, g2, g4⟩ := hcell 0 (by decide)
  simp only [Nat.zero_mul, Nat.add_zero, List.getElem_cons_zero] at g0 g1 g2 g4
  obtain ⟨avt, cvt, rfl, -, -⟩ := rdT_cell g4
  have g0' := fun o => ((Ext.refl w7).alloc o).cell g0
  have g1' := fun o => ((Ext.refl w7).alloc o).cell g1
  have g2' := fun o => ((Ext.refl w7).alloc o).cell g2
  have m0 := fun o => ((Ext.refl w7).alloc o).cell ((HX5.out.trans hx57).cell HM0.out)
  have m1 := fun o => ((Ext.refl w7).alloc o).cell ((HX5.out.trans hx57).cell HM1.out)
  have m2 := fun o => ((Ext.refl w7).alloc o).cell ((HX5.out.trans hx57).cell HM2.out)
  have HX8 := Lib.hid (HX5.out.trans hx58)
  have HR8 := Lib.hid (rdRR_ext hx8 hr7)
  have HW8 := Lib.hid hW8
  have hlen : (([tS] : List Test).length : Int) = 1 := rfl
  have hact : (((327681 : Nat) : Int) == 327681) = true := rfl
  clear hr7 hx7 hx8 hx58 hx57 hcell g4 hW8 q0 q1 q2 g0 g1 g2
  go_wp2_with fail
  rw [← HW8.out]
  refine (HhSame.out _ _ _ _ HR8.out (rdRR_ext HX8.out HR1.out)).mono ?_
  rintro e w9 ⟨rfl, hx9⟩
  have m0' := hx9.cell (HX8.out.cell HM0.out)
  have m1' := hx9.cell (HX8.out.cell HM1.out)
  have m2' := hx9.cell (HX8.out.cell HM2.out)
  have HX9 := Lib.hid (HX8.out.trans hx9)
  clear hx9 m0 m1 m2 n1 g0' g1' g2' hlen hact
  go_wp2_with fail
  refine (HhM.out _ _ (rdRR_ext HX9.out HR1.out)).mono ?_
  rintro e w10 ⟨rfl, hx10⟩
  have HX10 := Lib.hid (HX9.out.trans hx10)
  clear hx10 m0' m1' m2'
  go_wp2_with fail
  refine (HhM0.out _).mono ?_
  rintro e w11 ⟨rfl, hx11⟩
  have HX11 := Lib.hid (HX10.out.trans hx11)
  clear hx11
  go_wp2_with fail
  go_ret
  exact ⟨rfl, HX1.out.trans HX11.out⟩
end L21
end Go.Proofs.Ytkmhfjnjfghnjaa
