/- Layer 21: the walk of the law IrNormal. -/
import Derived.Test.YtkmhfjnjfghnjaaIsN
import Derived.Test.YtkmhfjnjfghnjaaIsO
import Derived.Test.YtkmhfjnjfghnjaaIrU
import Derived.Test.YtkmhfjnjfghnjaaIsB
import Derived.Deep.RegionHeld3
namespace Go.Proofs.Ytkmhfjnjfghnjaa
open Go.RowKit V
namespace L21
theorem rdR_nil0 (w : World) : RdR w 3 (IsR w) (.slice none 0 0) [] := ⟨none, 0, rfl, Nat.le_refl _, fun _ => rfl, fun i hi => by cases hi⟩
def zeroF : Filter := ⟨0, [], 0⟩
theorem okZeroF : OkF zeroF := ⟨by show _ ≤ (0 : Int); decide, by show (0 : Int) ≤ _; decide, by show 0 < _; decide, by show 0 ≤ _; decide, fun r hr => by cases hr⟩
set_option maxRecDepth 100000 in
set_option maxHeartbeats 4000000 in
theorem IrNormal_calls (f : Filter) (u : Value) (hf : OkF f) (w : World) (hu : RdR w 3 (IsR w) u f.rules) :
    Calls Try.prog 4 #[.agg #[.int .i64 f.arch, u, .int .u32 (f.dflt : Int)]] w fun e w' => e = .returned (.bool true) ∧ Ext w w' := by
  have hG := fun W (hx : Ext w W) => Great_calls f u hf W (rdRR_ext hx hu)
  cases hgr : great 0 f.rules
  case true =>
    rw [hgr] at hG
    obtain ⟨av, cv, rfl, -, -⟩ := rdR_cell hu
    have HhG := Lib.hid hG
    clear hG
    have Hhgr := Lib.hid hgr
    clear hgr
    clear hu hf
    go_enter Try.func4, Try.ntmps4
    go_wp2_with fail
    refine (HhG.out _ ((Ext.refl w).alloc _)).mono ?_
    rintro e w1 ⟨rfl, hx1⟩
    go_wp2_with fail
    go_ret
    exact ⟨rfl, ((Ext.refl w).alloc _).trans hx1⟩
  rw [hgr] at hG
  obtain ⟨hl, hlr⟩ := great_bd hgr
  have hC := fun W (hx : Ext w W) => Copy_calls f u hl hlr W (rdRR_ext hx hu)
  have hS := fun v W (h : RdR W 3 (IsR W) v f.rules) (hx : Ext w W) => refSame_calls f f v u hf W h (rdRR_ext hx hu)
  rw [sameF_refl] at hS
  have hRM := fun W (hx : Ext w W) => refMay_calls f u hf W (rdRR_ext hx hu)
  cases hm : mayF f
  case false =>
    rw [hm] at hRM
    have hN := fun v W (h : RdR W 3 (IsR W) v f.rules) => Normal_no f v hf hm W h
    have hSz : ∀ W, Calls Try.prog 17 #[.agg #[.int .i64 0, .slice none 0 0, .int .u32 0], .agg #[.int .i64 0, .slice none 0 0, .int .u32 0]] W fun e w' => e = .returned (.bool true) ∧ Ext W w' :=
      fun W => by have := refSame_calls zeroF zeroF (.slice none 0 0) (.slice none 0 0) okZeroF W (rdR_nil0 W) (rdR_nil0 W); rw [sameF_refl] at this; exact this
    obtain ⟨ar, rs, df⟩ := f
    dsimp only at *
    obtain ⟨av, cv, rfl, -, -⟩ := rdR_cell hu
    have HhN := Lib.hid hN
    clear hN
    have HhSz := Lib.hid hSz
    clear hSz
    have HhG := Lib.hid hG
    clear hG
    have HhC := Lib.hid hC
    clear hC
    have HhS := Lib.hid hS
    clear hS
    have HhRM := Lib.hid hRM
    clear hRM
    have Hhlr := Lib.hid hlr
    clear hlr
    have Hhgr := Lib.hid hgr
    clear hgr
    have Hhm := Lib.hid hm
    clear hm
    have Hhf := Lib.hid hf
    clear hf
    clear hu
    go_enter Try.func4, Try.ntmps4
    go_wp2_with fail
    refine (HhG.out _ ((Ext.refl w).alloc _)).mono ?_
    rintro e w1 ⟨rfl, hx1⟩
    have z0 := hx1.cell (p := ⟨w.heap.size, 0, none⟩) (by simp [go_sem]; rfl)
    have z1 := hx1.cell (p := ⟨w.heap.size, 1, none⟩) (by simp [go_sem]; rfl)
    have z2 := hx1.cell (p := ⟨w.heap.size, 2, none⟩) (by simp [go_sem]; rfl)
    have HX1 := Lib.hid (((Ext.refl w).alloc _).trans hx1)
    have HZ0 := Lib.hid z0
    have HZ1 := Lib.hid z1
    have HZ2 := Lib.hid z2
    clear hx1
    go_wp2_with fail
    refine (HhC.out _ HX1.out).mono ?_
    rintro e w2 ⟨a1, c1, qs, rfl, hqs, hrf, hx2⟩
    have hpl : qs.length = rs.length := by rw [← hqs, List.length_map]
    have hrd2 := hrf.rd
    rw [hqs] at hrd2
    obtain ⟨W2, hW2⟩ : ∃ W2, W2 = w2.alloc (.cells #[.int .i64 ar, .slice a1 qs.length c1, .int .u32 (df : Int)] 25) := ⟨_, rfl⟩
    have hx12 : Ext w1 W2 := by rw [hW2]; exact hx2.alloc _
    have m0 : W2.cell? ⟨w2.heap.size, 0, none⟩ = some (.int .i64 ar) := by rw [hW2]; simp [go_sem]
    have m1 : W2.cell? ⟨w2.heap.size, 1, none⟩ = some (.slice a1 qs.length c1) := by rw [hW2]; simp [go_sem]
    have m2 : W2.cell? ⟨w2.heap.size, 2, none⟩ = some (.int .u32 (df : Int)) := by rw [hW2]; simp [go_sem]
    have HRD2 : Hid (RdR W2 3 (IsR W2) (.slice a1 qs.length c1) rs) := Lib.hid (by rw [hW2]; exact rdRR_ext ((Ext.refl _).alloc _) hrd2)
    have HX2 := Lib.hid (HX1.out.trans hx12)
    have HX12 := Lib.hid hx12
    have HM0 := Lib.hid m0
    have HM1 := Lib.hid m1
    have HM2 := Lib.hid m2
    have HW2 := Lib.hid hW2
    have Hhpl := Lib.hid hpl
    clear hpl
    clear hqs hrf hrd2 hx2 hx12 hW2 z0 z1 z2 m0 m1 m2
    go_wp2_with fail
    rw [← HW2.out]
    go_loopw [4] (fun i wr => ∃ t : Nat, t ≤ 2 ∧ i = .int .i64 t ∧ Ext W2 wr) (fun i _ => 2 - (intOf i).toNat)
    case atStart => exact ⟨0, by omega, rfl, Ext.refl _⟩
    case round =>
      obtain ⟨wo, hwo⟩ : ∃ wo : World, wo = wr := ⟨_, rfl⟩
      subst hwo
      obtain ⟨t, ht, rfl, hxr⟩ := hrel
      have HXR := Lib.hid hxr
      by_cases hlt : t < 2
      · have ht2 : (t : Int) < 2 := by omega
        have m0 := hxr.cell HM0.out
        have m1 := hxr.cell HM1.out
        have m2 := hxr.cell HM2.out
        clear hxr
        go_wp2_with fail
        refine (HhN.out _ _ (rdRR_ext HXR.out HRD2.out)).mono ?_
        rintro e w3 ⟨rfl, hx3⟩
        obtain ⟨W3, hW3⟩ : ∃ W3, W3 = w3.alloc (.cells #[.int .i64 0, .slice none 0 0, .int .u32 0] 25) := ⟨_, rfl⟩
        have hx33 : Ext w3 W3 := by rw [hW3]; exact (Ext.refl _).alloc _
        have n0 : W3.cell? ⟨w3.heap.size, 0, none⟩ = some (.int .i64 0) := by rw [hW3]; simp [go_sem]
        have n1 : W3.cell? ⟨w3.heap.size, 1, none⟩ = some (.slice none 0 0) := by rw [hW3]; simp [go_sem]
        have n2 : W3.cell? ⟨w3.heap.size, 2, none⟩ = some (.int .u32 0) := by rw [hW3]; simp [go_sem]
        have HXo3 := Lib.hid (hx3.trans hx33)
        have HXo3b := Lib.hid hx3
        clear hx3
        have HX33 := Lib.hid hx33
        have HX3 := Lib.hid (HXR.out.trans HXo3.out)
        have HN0 := Lib.hid n0
        have HN1 := Lib.hid n1
        have HN2 := Lib.hid n2
        have HW3 := Lib.hid hW3
        have q0 := fun o => (HXo3b.out.alloc o).cell m0
        have q1 := fun o => (HXo3b.out.alloc o).cell m1
        have q2 := fun o => (HXo3b.out.alloc o).cell m2
        have y0 := fun o => (HXo3b.out.alloc o).cell ((HX12.out.trans HXR.out).cell HZ0.out)
        have y1 := fun o => (HXo3b.out.alloc o).cell ((HX12.out.trans HXR.out).cell HZ1.out)
        have y2 := fun o => (HXo3b.out.alloc o).cell ((HX12.out.trans HXR.out).cell HZ2.out)
        clear hx33 n0 n1 n2 hW3 m0 m1 m2
        go_wp2_with fail
        rw [← HW3.out]
        refine (HhS.out _ _ (rdRR_ext HX3.out HRD2.out) (HX2.out.trans HX3.out)).mono ?_
        rintro e w4 ⟨rfl, hx4⟩
        have z0 := (HX12.out.trans (HX3.out.trans hx4)).cell HZ0.out
        have z1 := (HX12.out.trans (HX3.out.trans hx4)).cell HZ1.out
        have z2 := (HX12.out.trans (HX3.out.trans hx4)).cell HZ2.out
        have HX4 := Lib.hid hx4
        clear hx4 q0 q1 q2 y0 y1 y2
        go_wp2_with fail
        refine (HhRM.out _ (HX2.out.trans (HX3.out.trans HX4.out))).mono ?_
        rintro e w5 ⟨rfl, hx5⟩
        have HX35 := Lib.hid (HX4.out.trans hx5)
        have HX5 := Lib.hid (HX2.out.trans (HX3.out.trans (HX4.out.trans hx5)))
        have n0 := HX35.out.cell HN0.out
        have n1 := HX35.out.cell HN1.out
        have n2 := HX35.out.cell HN2.out
        replace z0 := hx5.cell z0
        replace z1 := hx5.cell z1
        replace z2 := hx5.cell z2
        clear hx5
        go_wp2_with fail
        refine (HhSz.out _).mono ?_
        rintro e w6 ⟨rfl, hx6⟩
        go_wp2_with fail
        go_ret
        exact ⟨rfl, HX5.out.trans hx6⟩
      · obtain rfl : t = 2 := by omega
        clear hxr
        go_wp2_with fail
        go_ret
        exact ⟨rfl, HX2.out.trans HXR.out⟩
  case true =>
    rw [hm] at hRM
    have hN := fun v W (h : RdR W 3 (IsR W) v f.rules) => Normal_yes f v hf hlr hm W h
    have hRN := fun W (hx : Ext w W) => refNormal_calls f u hf.r hl hlr W (rdRR_ext hx hu)
    have hS2 := fun v v2 W (h : RdR W 3 (IsR W) v (normF f).rules) (h2 : RdR W 3 (IsR W) v2 (normF f).rules) => refSame_calls (normF f) (normF f) v v2 (okN hf) W h h2
    rw [sameF_refl] at hS2
    have hnl := normL_len f.dflt f.rules
    obtain ⟨ar, rs, df⟩ := f
    dsimp only at *
    obtain ⟨av, cv, rfl, -, -⟩ := rdR_cell hu
    have hnf : normF ⟨ar, rs, df⟩ = ⟨ar, normL df rs, df⟩ := rfl
    rw [hnf] at hS2
    dsimp only at hS2
    have Hhnf := Lib.hid hnf
    clear hnf
    have HhN := Lib.hid hN
    clear hN
    have HhRN := Lib.hid hRN
    clear hRN
    have HhS2 := Lib.hid hS2
    clear hS2
    have HhG := Lib.hid hG
    clear hG
    have HhC := Lib.hid hC
    clear hC
    have HhS := Lib.hid hS
    clear hS
    have HhRM := Lib.hid hRM
    clear hRM
    have Hhlr := Lib.hid hlr
    clear hlr
    have Hhgr := Lib.hid hgr
    clear hgr
    have Hhm := Lib.hid hm
    clear hm
    have Hhf := Lib.hid hf
    clear hf
    clear hu
    go_enter Try.func4, Try.ntmps4
    go_wp2_with fail
    refine (HhG.out _ ((Ext.refl w).alloc _)).mono ?_
    rintro e w1 ⟨rfl, hx1⟩
    have z0 := hx1.cell (p := ⟨w.heap.size, 0, none⟩) (by simp [go_sem]; rfl)
    have z1 := hx1.cell (p := ⟨w.heap.size, 1, none⟩) (by simp [go_sem]; rfl)
    have z2 := hx1.cell (p := ⟨w.heap.size, 2, none⟩) (by simp [go_sem]; rfl)
    have HX1 := Lib.hid (((Ext.refl w).alloc _).trans hx1)
    have HZ0 := Lib.hid z0
    have HZ1 := Lib.hid z1
    have HZ2 := Lib.hid z2
    clear hx1
    go_wp2_with fail
    refine (HhC.out _ HX1.out).mono ?_
    rintro e w2 ⟨a1, c1, qs, rfl, hqs, hrf, hx2⟩
    have hpl : qs.length = rs.length := by rw [← hqs, List.length_map]
    have hrd2 := hrf.rd
    rw [hqs] at hrd2
    obtain ⟨W2, hW2⟩ : ∃ W2, W2 = w2.alloc (.cells #[.int .i64 ar, .slice a1 qs.length c1, .int .u32 (df : Int)] 25) := ⟨_, rfl⟩
    have hx12 : Ext w1 W2 := by rw [hW2]; exact hx2.alloc _
    have m0 : W2.cell? ⟨w2.heap.size, 0, none⟩ = some (.int .i64 ar) := by rw [hW2]; simp [go_sem]
    have m1 : W2.cell? ⟨w2.heap.size, 1, none⟩ = some (.slice a1 qs.length c1) := by rw [hW2]; simp [go_sem]
    have m2 : W2.cell? ⟨w2.heap.size, 2, none⟩ = some (.int .u32 (df : Int)) := by rw [hW2]; simp [go_sem]
    have HRD2 : Hid (RdR W2 3 (IsR W2) (.slice a1 qs.length c1) rs) := Lib.hid (by rw [hW2]; exact rdRR_ext ((Ext.refl _).alloc _) hrd2)
    have HX2 := Lib.hid (HX1.out.trans hx12)
    have HX12 := Lib.hid hx12
    have HM0 := Lib.hid m0
    have HM1 := Lib.hid m1
    have HM2 := Lib.hid m2
    have HW2 := Lib.hid hW2
    have Hhpl := Lib.hid hpl
    clear hpl
    clear hqs hrf hrd2 hx2 hx12 hW2 z0 z1 z2 m0 m1 m2
    go_wp2_with fail
    rw [← HW2.out]
    go_loopw [4] (fun i wr => ∃ t : Nat, t ≤ 2 ∧ i = .int .i64 t ∧ Ext W2 wr) (fun i _ => 2 - (intOf i).toNat)
    case atStart => exact ⟨0, by omega, rfl, Ext.refl _⟩
    case round =>
      obtain ⟨wo, hwo⟩ : ∃ wo : World, wo = wr := ⟨_, rfl⟩
      subst hwo
      obtain ⟨t, ht, rfl, hxr⟩ := hrel
      have HXR := Lib.hid hxr
      by_cases hlt : t < 2
      · have ht2 : (t : Int) < 2 := by omega
        have m0 := hxr.cell HM0.out
        have m1 := hxr.cell HM1.out
        have m2 := hxr.cell HM2.out
        clear hxr
        go_wp2_with fail
        refine (HhN.out _ _ (rdRR_ext HXR.out HRD2.out)).mono ?_
        rintro e w3 ⟨a3, c3, ps, rfl, hps, hrf, hx3⟩
        have hpsl : ps.length ≤ 1000 := by
          have := congrArg List.length hps
          rw [List.length_map] at this
          omega
        have hptl : ∀ p ∈ ps, p.r.tests.length ≤ 1000 := fun p hp => lenN Hhlr.out _ (by rw [← hps]; exact List.mem_map_of_mem hp)
        obtain ⟨W3, hW3⟩ : ∃ W3, W3 = w3.alloc (.cells #[.int .i64 ar, .slice a3 ps.length c3, .int .u32 (df : Int)] 25) := ⟨_, rfl⟩
        have hx33 : Ext w3 W3 := by rw [hW3]; exact (Ext.refl _).alloc _
        have n0 : W3.cell? ⟨w3.heap.size, 0, none⟩ = some (.int .i64 ar) := by rw [hW3]; simp [go_sem]
        have n1 : W3.cell? ⟨w3.heap.size, 1, none⟩ = some (.slice a3 ps.length c3) := by rw [hW3]; simp [go_sem]
        have n2 : W3.cell? ⟨w3.heap.size, 2, none⟩ = some (.int .u32 (df : Int)) := by rw [hW3]; simp [go_sem]
        have hr3 := (hrf.ext hx33).rd
        rw [hps] at hr3
        have HR3 := Lib.hid hr3
        have HRF := Lib.hid hrf
        have HXo3 := Lib.hid (hx3.trans hx33)
        have HXo3b := Lib.hid hx3
        have Hhptl := Lib.hid hptl
        clear hptl
        clear hx3 hps hrf hr3
        have HX33 := Lib.hid hx33
        have HX3 := Lib.hid (HXR.out.trans HXo3.out)
        have HN0 := Lib.hid n0
        have HN1 := Lib.hid n1
        have HN2 := Lib.hid n2
        have HW3 := Lib.hid hW3
        have q0 := fun o => (HXo3b.out.alloc o).cell m0
        have q1 := fun o => (HXo3b.out.alloc o).cell m1
        have q2 := fun o => (HXo3b.out.alloc o).cell m2
        have y0 := fun o => (HXo3b.out.alloc o).cell ((HX12.out.trans HXR.out).cell HZ0.out)
        have y1 := fun o => (HXo3b.out.alloc o).cell ((HX12.out.trans HXR.out).cell HZ1.out)
        have y2 := fun o => (HXo3b.out.alloc o).cell ((HX12.out.trans HXR.out).cell HZ2.out)
        clear hx33 n0 n1 n2 hW3 m0 m1 m2
        go_wp2_with fail
        rw [← HW3.out]
        refine (HhS.out _ _ (rdRR_ext HX3.out HRD2.out) (HX2.out.trans HX3.out)).mono ?_
        rintro e w4 ⟨rfl, hx4⟩
        have z0 := (HX12.out.trans (HX3.out.trans hx4)).cell HZ0.out
        have z1 := (HX12.out.trans (HX3.out.trans hx4)).cell HZ1.out
        have z2 := (HX12.out.trans (HX3.out.trans hx4)).cell HZ2.out
        have HX4 := Lib.hid hx4
        clear hx4 q0 q1 q2 y0 y1 y2
        go_wp2_with fail
        refine (HhRM.out _ (HX2.out.trans (HX3.out.trans HX4.out))).mono ?_
        rintro e w5 ⟨rfl, hx5⟩
        have HX35 := Lib.hid (HX4.out.trans hx5)
        have HX5 := Lib.hid (HX2.out.trans (HX3.out.trans (HX4.out.trans hx5)))
        have n0 := HX35.out.cell HN0.out
        have n1 := HX35.out.cell HN1.out
        have n2 := HX35.out.cell HN2.out
        replace z0 := hx5.cell z0
        replace z1 := hx5.cell z1
        replace z2 := hx5.cell z2
        clear hx5
        have hr5 := rdRR_ext HX35.out HR3.out
        have hz0 : Ext w5 w5.drew := (Ext.refl _).drew
        have hz00 : Ext w5 w5 := Ext.refl _
        go_wp2_with fail
        (go_region_held3 (fun w' => w'.cell? ⟨w.heap.size, 0, none⟩ = some (.int .i64 ar) ∧ w'.cell? ⟨w.heap.size, 1, none⟩ = some (.slice av rs.length cv) ∧ w'.cell? ⟨w.heap.size, 2, none⟩ = some (.int .u32 (df : Int)) ∧
            w'.cell? ⟨w3.heap.size, 0, none⟩ = some (.int .i64 ar) ∧ w'.cell? ⟨w3.heap.size, 1, none⟩ = some (.slice a3 ps.length c3) ∧ w'.cell? ⟨w3.heap.size, 2, none⟩ = some (.int .u32 (df : Int)))
          (exact ⟨Ext.cell (by assumption) z0, Ext.cell (by assumption) z1, Ext.cell (by assumption) z2, Ext.cell (by assumption) n0, Ext.cell (by assumption) n1, Ext.cell (by assumption) n2⟩)
          (first
            | (go_at_call 21; (with_reducible refine (HhRN.out _ (HX5.out.trans (by assumption))).mono ?_); rintro e w6 ⟨a6, c6, ps6, rfl, hps6, hrf6, hx6⟩; have hz6 : Ext w5 w6 := Ext.trans (by assumption) hx6; have hr6 := hrf6.rd; rw [hps6] at hr6)
            | (go_at_call 17; (with_reducible refine (HhS2.out _ _ _ (rdRR_ext (by assumption) hr5) (rdRR_ext (Ext.refl _) hr6)).mono ?_); rintro e w7 ⟨rfl, hx7⟩; have hz7 : Ext w5 w7 := Ext.trans (by assumption) hx7)))
        have hx57 : Ext w5 w7 := hz7
        have HWN0 : Hid (WN wo w3.heap.size a3 c3 ps w7) := Lib.hid (WN.start HRF.out HXo3b.out rfl (HX33.out.trans (HX35.out.trans hx57)) (hx57.cell n1))
        have g1 := HWN0.out.g1
        clear z0 z1 z2 n0 n1 n2 hr5 hz0 hz00 hz6 hz7 hx6 hx7 hr6 hrf6 hps6 hx57
        go_wp2_with fail
        go_loopw [7] (fun i wl => ∃ k : Nat, k ≤ ps.length ∧ i = .int .i64 k ∧ WN wo w3.heap.size a3 c3 ps wl) (fun i _ => ps.length - (intOf i).toNat)
        case atStart => exact ⟨0, by omega, rfl, HWN0.out⟩
        case round =>
          obtain ⟨wl, hwl⟩ : ∃ wl : World, wl = wr := ⟨_, rfl⟩
          subst hwl
          obtain ⟨k, hk, rfl, hs⟩ := hrel
          have HS := Lib.hid hs
          clear g1
          have g1 := hs.g1
          by_cases hkl : k < ps.length
          · obtain ⟨gb, e, h1, h2, ⟨n, h3⟩, h4, h5⟩ := hs.row k hkl
            subst e
            have hk2 : (k : Int) < (ps.length : Int) := by omega
            obtain ⟨p, hp⟩ : ∃ p, p = ps[k]'hkl := ⟨_, rfl⟩
            have hpl := Hhptl.out _ (List.getElem_mem hkl)
            rw [← hp] at h4 hpl
            obtain ⟨⟨pn, pts, px⟩, pa, pc⟩ := p
            dsimp only [PR.v] at h4 hpl
            have HP := Lib.hid hp
            clear hs hp
            go_wp2_with fail
            generalize hW8 : World.setCell _ _ _ = W8
            have HW8 : Hid (WN wo w3.heap.size (some ⟨gb, 0, none⟩) c3 ps W8) := Lib.hid (by rw [← hW8]; exact HS.out.nr hkl rfl _)
            clear hW8 g1 h3 h4 h5 h1 h2
            have g1 := HW8.out.g1
            go_loopw [8] (fun i wi => ∃ q : Nat, q ≤ pts.length ∧ i = .int .i64 q ∧ WN wo w3.heap.size (some ⟨gb, 0, none⟩) c3 ps wi) (fun i _ => pts.length - (intOf i).toNat)
            case atStart => exact ⟨0, by omega, rfl, HW8.out⟩
            case round =>
              obtain ⟨q, hq, rfl, hs⟩ := hrel
              have HS2 := Lib.hid hs
              clear g1
              have g1 := hs.g1
              obtain ⟨gb', e, -, -, -, h4, -⟩ := hs.row k hkl
              simp only [Option.some.injEq, Addr.mk.injEq, and_true] at e
              subst e
              rw [← HP.out] at h4
              dsimp only [PR.v] at h4
              by_cases hql : q < pts.length
              · have hq2 : (q : Int) < (pts.length : Int) := by omega
                have hql2 : q < (ps[k]'hkl).r.tests.length := by rw [← HP.out]; exact hql
                obtain ⟨tb, e, h1, h2, h3, ⟨m, h5⟩, h6⟩ := hs.tst k hkl q hql2
                have HE := Lib.hid e
                rw [← HP.out] at e
                dsimp only at e
                subst e
                clear hs h1 h2 h3
                go_wp2_with fail
                go_roundw
                case rel => exact ⟨q + 1, by omega, by go_num, HS2.out.val hkl hql2 HE.out _⟩
                case measure => simp [intOf]; omega
              · obtain rfl : q = pts.length := by omega
                clear hs
                go_wp2_with fail
                go_roundw
                case rel => exact ⟨k + 1, by omega, by go_num, HS2.out⟩
                case measure => simp [intOf]; omega
          · obtain rfl : k = ps.length := by omega
            clear hs
            go_wp2_with fail
            go_roundw
            case rel => exact ⟨t + 1, by omega, by go_num, HXR.out.trans HS.out.ext⟩
            case measure => simp [intOf]; omega
      · obtain rfl : t = 2 := by omega
        clear hxr
        go_wp2_with fail
        go_ret
        exact ⟨rfl, HX2.out.trans HXR.out⟩
end L21
end Go.Proofs.Ytkmhfjnjfghnjaa
