/- Layer 21: the walk of the law IrNormalSame. -/
import Derived.Test.YtkmhfjnjfghnjaaIsH
import Derived.Test.YtkmhfjnjfghnjaaIrE
namespace Go.Proofs.Ytkmhfjnjfghnjaa
open Go.RowKit V
namespace L21
open L25 (Dat datV OkD)
theorem okNR {r : Rule} (h : OkR r) : OkR (normR r) := by
  have hl : (normR r).tests.length ≤ r.tests.length := by
    have := cutT_len r.tests r.action
    show (trimT (cutT r.tests r.action).1 _).length ≤ _
    unfold trimT
    rw [List.length_take]; omega
  refine ⟨h.n, ?_, Nat.le_trans hl h.l, fun t ht => h.t t (normR_mask ht).1⟩
  show (cutT r.tests r.action).2 < _
  rcases cutT_act r.tests r.action with e | ⟨t, ht, e⟩
  · rw [e]; exact h.x
  · rw [e]; exact (h.t t ht).x
theorem normR_len (r : Rule) : (normR r).tests.length ≤ r.tests.length := by
  have := cutT_len r.tests r.action
  show (trimT (cutT r.tests r.action).1 _).length ≤ _
  unfold trimT
  rw [List.length_take]; omega
theorem normL_mem {df : Nat} {rs : List Rule} {r : Rule} (h : r ∈ normL df rs) : ∃ s ∈ rs, r = normR s := by
  obtain ⟨h, -⟩ := List.mem_filter.1 h
  obtain ⟨s, hs, rfl⟩ := List.mem_map.1 h
  exact ⟨s, hs, rfl⟩
theorem okN {f : Filter} (h : OkF f) : OkF (normF f) := by
  refine ⟨h.a1, h.a2, h.d, Nat.le_trans (normL_len _ _) h.l, fun r hr => ?_⟩
  obtain ⟨s, hs, rfl⟩ := normL_mem hr
  exact okNR (h.r s hs)
theorem lenN {df : Nat} {rs : List Rule} (h : ∀ r ∈ rs, r.tests.length ≤ 1000) : ∀ r ∈ normL df rs, r.tests.length ≤ 1000 := fun r hr => by
  obtain ⟨s, hs, rfl⟩ := normL_mem hr
  exact Nat.le_trans (normR_len s) (h s hs)
theorem Cda.nr {w : World} {B : Nat} {d : Dat} (h : Cda w B d) (n : Nat) : Cda (w.setCell ⟨B, 0, none⟩ (.int .u32 (n : Int))) B { d with nr := n } :=
  ⟨World.cell?_setCell_same' _ _ _ (by rw [h.c0]; rfl), (set_ne _ (by omega)).trans h.c1, (set_ne _ (by omega)).trans h.c2, (set_ne _ (by omega)).trans h.c3, (set_ne _ (by omega)).trans h.c4, (set_ne _ (by omega)).trans h.c5, (set_ne _ (by omega)).trans h.c6, (set_ne _ (by omega)).trans h.c7, (set_ne _ (by omega)).trans h.c8⟩
set_option maxRecDepth 100000 in
set_option maxHeartbeats 4000000 in
theorem IrNormalSame_calls (f : Filter) (u : Value) (hf : OkF f) (d : Dat) (hd : OkD d) (i : Int) (w : World) (hu : RdR w 3 (IsR w) u f.rules) :
    Calls Try.prog 6 #[.agg #[.int .i64 f.arch, u, .int .u32 (f.dflt : Int)], datV d, .int .i64 i] w fun e w' => e = .returned (.bool true) ∧ Ext w w' := by
  have hG := fun W (hx : Ext w W) => Great_calls f u hf W (rdRR_ext hx hu)
  have HU := Lib.hid hu
  have HAW : Hid (∀ W, Calls Try.prog 30 #[] W fun e w' => e = .returned (.bool true) ∧ Ext W w') := Lib.hid (fun W => awake_calls W)
  cases hgr : great 0 f.rules
  case true =>
    rw [hgr] at hG
    obtain ⟨av, cv, rfl, -, -⟩ := rdR_cell hu
    unfold datV
    have HhG := Lib.hid hG
    clear hG
    have Hhgr := Lib.hid hgr
    clear hgr
    clear hu hf
    go_enter Try.func6, Try.ntmps6
    go_wp2_with fail
    refine (HAW.out _).mono ?_
    rintro e w1 ⟨rfl, hx1⟩
    have z0 := hx1.cell (p := ⟨w.heap.size, 0, none⟩) (by simp [go_sem]; rfl)
    have z1 := hx1.cell (p := ⟨w.heap.size, 1, none⟩) (by simp [go_sem]; rfl)
    have z2 := hx1.cell (p := ⟨w.heap.size, 2, none⟩) (by simp [go_sem]; rfl)
    have HX1 := Lib.hid ((((Ext.refl w).alloc _).alloc _).trans hx1)
    clear hx1
    go_wp2_with fail
    refine (HhG.out _ HX1.out).mono ?_
    rintro e w2 ⟨rfl, hx2⟩
    go_wp2_with fail
    go_ret
    exact ⟨rfl, HX1.out.trans hx2⟩
  rw [hgr] at hG
  obtain ⟨hl, hlr⟩ := great_bd hgr
  have hM := fun W (hx : Ext w W) => May_calls f u hf W (rdRR_ext hx hu)
  cases hm : mayF f
  case false =>
    have hN := fun W (hx : Ext w W) => Normal_no f u hf hm W (rdRR_ext hx hu)
    rw [hm] at hM
    obtain ⟨av, cv, rfl, -, -⟩ := rdR_cell hu
    unfold datV
    have HhG := Lib.hid hG
    clear hG
    have Hhgr := Lib.hid hgr
    clear hgr
    have HhM := Lib.hid hM
    clear hM
    have HhN := Lib.hid hN
    clear hN
    have Hhm := Lib.hid hm
    clear hm
    clear hu hf
    go_enter Try.func6, Try.ntmps6
    go_wp2_with fail
    refine (HAW.out _).mono ?_
    rintro e w1 ⟨rfl, hx1⟩
    have z0 := hx1.cell (p := ⟨w.heap.size, 0, none⟩) (by simp [go_sem]; rfl)
    have z1 := hx1.cell (p := ⟨w.heap.size, 1, none⟩) (by simp [go_sem]; rfl)
    have z2 := hx1.cell (p := ⟨w.heap.size, 2, none⟩) (by simp [go_sem]; rfl)
    have HX1 := Lib.hid ((((Ext.refl w).alloc _).alloc _).trans hx1)
    clear hx1
    go_wp2_with fail
    refine (HhG.out _ HX1.out).mono ?_
    rintro e w2 ⟨rfl, hx2⟩
    replace z0 := hx2.cell z0
    replace z1 := hx2.cell z1
    replace z2 := hx2.cell z2
    have HX2 := Lib.hid (HX1.out.trans hx2)
    clear hx2
    go_wp2_with fail
    refine (HhN.out _ HX2.out).mono ?_
    rintro e w3 ⟨rfl, hx3⟩
    have q0 := fun o => (hx3.alloc o).cell z0
    have q1 := fun o => (hx3.alloc o).cell z1
    have q2 := fun o => (hx3.alloc o).cell z2
    have HX3 := Lib.hid (HX2.out.trans hx3)
    clear hx3 z0 z1 z2
    go_wp2_with fail
    refine (HhM.out _ (HX3.out.alloc _)).mono ?_
    rintro e w4 ⟨rfl, hx4⟩
    go_wp2_with fail
    go_ret
    exact ⟨rfl, (HX3.out.alloc _).trans hx4⟩
  have hN := fun W (hx : Ext w W) => Normal_yes f u hf hlr hm W (rdRR_ext hx hu)
  have hN2 := fun v W (h : RdR W 3 (IsR W) v (normF f).rules) => Normal_yes (normF f) v (okN hf) (lenN hlr) (normF_may hm) W h
  have hM2 := fun v W (h : RdR W 3 (IsR W) v (normF f).rules) => May_calls (normF f) v (okN hf) W h
  have hS := fun v v2 W (h : RdR W 3 (IsR W) v (normF f).rules) (h2 : RdR W 3 (IsR W) v2 (normF f).rules) => Same_calls (normF f) (normF f) v v2 (okN hf) W h h2
  have hD := fun (e : Dat) (he : OkD e) W (hx : Ext w W) => Denote_calls f u hf e he W (rdRR_ext hx hu)
  have hD2 : ∀ (e : Dat) (he : OkD e) v W (h : RdR W 3 (IsR W) v (normF f).rules), Calls Try.prog 28 #[.agg #[.int .i64 (normF f).arch, v, .int .u32 ((normF f).dflt : Int)], datV e] W fun r w' => r = .returned (.int .u32 (denA f e : Nat)) ∧ Ext W w' := fun e he v W h => by
    have := Denote_calls (normF f) v (okN hf) e he W h
    rw [denA_norm hm] at this
    exact this
  rw [hm] at hM
  rw [normF_may hm] at hM2
  rw [sameF_refl] at hS
  have hok := hf.r
  have hself : normL f.dflt (normL f.dflt f.rules) = normL f.dflt f.rules := normL_self _ _
  obtain ⟨ar, rs, df⟩ := f
  have hnf : normF ⟨ar, rs, df⟩ = ⟨ar, normL df rs, df⟩ := rfl
  rw [hnf] at hN2 hM2 hS hD2
  dsimp only at *
  obtain ⟨av, cv, rfl, -, hca⟩ := rdR_cell hu
  have hnl := normL_len df rs
  unfold datV at hD hD2 ⊢
  have Hhnf := Lib.hid hnf
  clear hnf
  have Hhself := Lib.hid hself
  clear hself
  have HhG := Lib.hid hG
  clear hG
  have HhN := Lib.hid hN
  clear hN
  have HhN2 := Lib.hid hN2
  clear hN2
  have HhM := Lib.hid hM
  clear hM
  have HhM2 := Lib.hid hM2
  clear hM2
  have HhS := Lib.hid hS
  clear hS
  have HhD := Lib.hid hD
  clear hD
  have HhD2 := Lib.hid hD2
  clear hD2
  have Hhok := Lib.hid hok
  clear hok
  have Hhca := Lib.hid hca
  clear hca
  have Hhlr := Lib.hid hlr
  clear hlr
  have Hhgr := Lib.hid hgr
  clear hgr
  have Hhm := Lib.hid hm
  clear hm
  clear hu
  go_enter Try.func6, Try.ntmps6
  go_wp2_with fail
  refine (HAW.out _).mono ?_
  rintro e w1 ⟨rfl, hx1⟩
  have z0 := hx1.cell (p := ⟨w.heap.size, 0, none⟩) (by simp [go_sem]; rfl)
  have z1 := hx1.cell (p := ⟨w.heap.size, 1, none⟩) (by simp [go_sem]; rfl)
  have z2 := hx1.cell (p := ⟨w.heap.size, 2, none⟩) (by simp [go_sem]; rfl)
  have hcd : Cda w1 (w.heap.size + 1) d := ⟨hx1.cell (by simp [go_sem]), hx1.cell (by simp [go_sem]), hx1.cell (by simp [go_sem]), hx1.cell (by simp [go_sem]), hx1.cell (by simp [go_sem]), hx1.cell (by simp [go_sem]), hx1.cell (by simp [go_sem]), hx1.cell (by simp [go_sem]), hx1.cell (by simp [go_sem])⟩
  have HFD : Hid (∀ j, w1.frozen? ⟨w.heap.size + 1, j, none⟩ = false) := Lib.hid (fun j => (World.frozen?_of_block (a := ⟨w.heap.size + 1, j, none⟩) (hx1.block (by simp))).trans (by simp [go_sem]))
  have HX1 := Lib.hid ((((Ext.refl w).alloc _).alloc _).trans hx1)
  have HCD1 := Lib.hid hcd
  have HZ0 := Lib.hid z0
  have HZ1 := Lib.hid z1
  have HZ2 := Lib.hid z2
  clear hx1 hcd
  go_wp2_with fail
  refine (HhG.out _ HX1.out).mono ?_
  rintro e w2 ⟨rfl, hx2⟩
  have HX12 := Lib.hid hx2
  have HX2 := Lib.hid (HX1.out.trans hx2)
  replace z0 := hx2.cell z0
  replace z1 := hx2.cell z1
  replace z2 := hx2.cell z2
  clear hx2
  go_wp2_with fail
  refine (HhN.out _ HX2.out).mono ?_
  rintro e w3 ⟨a3, c3, ps, rfl, hps, hrf, hx3⟩
  have hpl : ps.length ≤ rs.length := by
    have := congrArg List.length hps
    rw [List.length_map] at this
    omega
  obtain ⟨W3, hW3⟩ : ∃ W3, W3 = w3.alloc (.cells #[.int .i64 ar, .slice a3 ps.length c3, .int .u32 (df : Int)] 25) := ⟨_, rfl⟩
  have hx33 : Ext w3 W3 := by rw [hW3]; exact (Ext.refl _).alloc _
  have m0 : W3.cell? ⟨w3.heap.size, 0, none⟩ = some (.int .i64 ar) := by rw [hW3]; simp [go_sem]
  have m1 : W3.cell? ⟨w3.heap.size, 1, none⟩ = some (.slice a3 ps.length c3) := by rw [hW3]; simp [go_sem]
  have m2 : W3.cell? ⟨w3.heap.size, 2, none⟩ = some (.int .u32 (df : Int)) := by rw [hW3]; simp [go_sem]
  have HRF3 := Lib.hid (hrf.ext hx33)
  have hr3 := (hrf.ext hx33).rd
  rw [hps] at hr3
  have HR3 := Lib.hid hr3
  have HPS := Lib.hid hps
  have HX13 := Lib.hid (HX12.out.trans (hx3.trans hx33))
  have HX3 := Lib.hid (HX1.out.trans HX13.out)
  have HM0 := Lib.hid m0
  have HM1 := Lib.hid m1
  have HM2 := Lib.hid m2
  have HW3 := Lib.hid hW3
  have hsz23 : w2.heap.size ≤ w3.heap.size := hx3.size
  have hb2 : w.heap.size + 1 < w2.heap.size := World.block_lt_of_cell? _ ⟨w.heap.size + 1, 0, none⟩ (HX12.out.cell HCD1.out.c0)
  clear hps hrf hx3 hx33 hr3 hW3 m0 m1 m2 z0 z1 z2
  go_wp2_with fail
  rw [← HW3.out]
  refine (HhN2.out _ _ HR3.out).mono ?_
  rintro e w4 ⟨a4, c4, ps4, rfl, hps4, hrf4, hx4⟩
  rw [Hhself.out] at hps4
  have hr4 := hrf4.rd
  rw [hps4] at hr4
  have z0 := fun o => ((Ext.refl w4).alloc o).cell ((HX13.out.trans hx4).cell HZ0.out)
  have z1 := fun o => ((Ext.refl w4).alloc o).cell ((HX13.out.trans hx4).cell HZ1.out)
  have z2 := fun o => ((Ext.refl w4).alloc o).cell ((HX13.out.trans hx4).cell HZ2.out)
  obtain ⟨W4, hW4⟩ : ∃ W4, W4 = w4.alloc (.cells #[.int .i64 ar, .slice a4 ps4.length c4, .int .u32 (df : Int)] 25) := ⟨_, rfl⟩
  have hx44 : Ext w4 W4 := by rw [hW4]; exact (Ext.refl _).alloc _
  have n0 : W4.cell? ⟨w4.heap.size, 0, none⟩ = some (.int .i64 ar) := by rw [hW4]; simp [go_sem]
  have n1 : W4.cell? ⟨w4.heap.size, 1, none⟩ = some (.slice a4 ps4.length c4) := by rw [hW4]; simp [go_sem]
  have n2 : W4.cell? ⟨w4.heap.size, 2, none⟩ = some (.int .u32 (df : Int)) := by rw [hW4]; simp [go_sem]
  have HR4 := Lib.hid (rdRR_ext hx44 hr4)
  have HX34 := Lib.hid (hx4.trans hx44)
  have HN0 := Lib.hid n0
  have HN1 := Lib.hid n1
  have HN2 := Lib.hid n2
  have HW4 := Lib.hid hW4
  clear hps4 hrf4 hr4 hx4 hx44 hW4 n0 n1 n2
  go_wp2_with fail
  rw [← HW4.out]
  refine (HhM.out _ (HX3.out.trans HX34.out)).mono ?_
  rintro e w5 ⟨rfl, hx5⟩
  have HX35 := Lib.hid (HX34.out.trans hx5)
  have HX45 := Lib.hid hx5
  have m0 := HX35.out.cell HM0.out
  have m1 := HX35.out.cell HM1.out
  have m2 := HX35.out.cell HM2.out
  clear z0 z1 z2 hx5
  go_wp2_with fail
  refine (HhM2.out _ _ (rdRR_ext HX35.out HR3.out)).mono ?_
  rintro e w6 ⟨rfl, hx6⟩
  have HX36 := Lib.hid (HX35.out.trans hx6)
  have HX46 := Lib.hid (HX45.out.trans hx6)
  clear m0 m1 m2 hx6
  have m0 := HX36.out.cell HM0.out
  have m1 := HX36.out.cell HM1.out
  have m2 := HX36.out.cell HM2.out
  have n0 := HX46.out.cell HN0.out
  have n1 := HX46.out.cell HN1.out
  have n2 := HX46.out.cell HN2.out
  go_wp2_with fail
  refine (HhS.out _ _ _ (rdRR_ext HX36.out HR3.out) (rdRR_ext HX46.out HR4.out)).mono ?_
  rintro e w7 ⟨rfl, hx7⟩
  have HX37 := Lib.hid (HX36.out.trans hx7)
  clear m0 m1 m2 n0 n1 n2 hx7
  have m0 := HX37.out.cell HM0.out
  have m1 := HX37.out.cell HM1.out
  have m2 := HX37.out.cell HM2.out
  have z0 := (HX13.out.trans HX37.out).cell HZ0.out
  have z1 := (HX13.out.trans HX37.out).cell HZ1.out
  have z2 := (HX13.out.trans HX37.out).cell HZ2.out
  have hd1 : decide ((rs.length : Int) < (ps.length : Int)) = false := decide_eq_false (by omega)
  have hd2 : decide (rs.length < ps.length) = false := decide_eq_false (by omega)
  have hcd := HCD1.out.ext (HX13.out.trans HX37.out)
  have hfd : ∀ j, w7.frozen? ⟨w.heap.size + 1, j, none⟩ = false := fun j => (World.frozen?_of_block (a := ⟨w.heap.size + 1, j, none⟩) ((HX13.out.trans HX37.out).block (World.block_lt_of_cell? _ ⟨w.heap.size + 1, 0, none⟩ HCD1.out.c0))).trans (HFD.out j)
  have HX7 := Lib.hid (HX3.out.trans HX37.out)
  by_cases hi : 0 ≤ i ∧ i < (rs.length : Int)
  · obtain ⟨k, rfl⟩ : ∃ k : Nat, i = (k : Int) := ⟨i.toNat, by omega⟩
    have hkl : k < rs.length := by omega
    obtain ⟨b, o, vk, rfl, g1, -, -, -⟩ := Hhca.out k hkl
    replace g1 := HX7.out.cell g1
    have hnr := (Hhok.out _ (List.getElem_mem hkl)).n
    generalize (rs[k]'hkl).nr = rn at *
    have f0 := hfd 0
    have e0 := hcd.c0
    have hi1 : (0 : Int) ≤ (k : Int) := by omega
    have hi2 : (k : Int) < (rs.length : Int) := by omega
    have hi3 : decide ((0 : Int) ≤ (k : Int)) = true := decide_eq_true (by omega)
    have hi4 : decide ((k : Int) < (rs.length : Int)) = true := decide_eq_true (by omega)
    have hi5 : decide (k < rs.length) = true := decide_eq_true hkl
    have hbl := World.block_lt_of_cell? _ _ e0
    have HCD := Lib.hid hcd
    have Hhi := Lib.hid hi
    clear hi
    clear hcd hfd
    go_wp2_with fail
    obtain ⟨W8, hW8⟩ : ∃ W8, W8 = w7.setCell ⟨w.heap.size + 1, 0, none⟩ (.int .u32 (rn : Int)) := ⟨_, rfl⟩
    have hcd2 : Cda W8 (w.heap.size + 1) { d with nr := rn } := by rw [hW8]; exact HCD.out.nr rn
    have hxw : Ext w W8 := by rw [hW8]; exact HX7.out.setCell (by simp) _
    have hrw : RdR W8 3 (IsR W8) (.slice a3 ps.length c3) (normL df rs) := by
      have := ((HRF3.out.ext HX37.out).set (q := ⟨w.heap.size + 1, 0, none⟩) (by dsimp only; omega) (.int .u32 (rn : Int))).rd
      rw [HPS.out] at this
      rw [hW8]; exact this
    have z0x : ∀ x : XW W8, x.w.cell? ⟨w.heap.size, 0, none⟩ = some (.int .i64 ar) := xwc (by rw [hW8]; simpa [go_sem] using z0)
    have z1x : ∀ x : XW W8, x.w.cell? ⟨w.heap.size, 1, none⟩ = some (.slice (some ⟨b, o, none⟩) rs.length cv) := xwc (by rw [hW8]; simpa [go_sem] using z1)
    have z2x : ∀ x : XW W8, x.w.cell? ⟨w.heap.size, 2, none⟩ = some (.int .u32 (df : Int)) := xwc (by rw [hW8]; simpa [go_sem] using z2)
    have hne3 : w.heap.size + 1 ≠ w3.heap.size := by omega
    have m0x : ∀ x : XW W8, x.w.cell? ⟨w3.heap.size, 0, none⟩ = some (.int .i64 ar) := xwc (by rw [hW8, World.cell?_setCell_far _ _ _ _ hne3]; exact m0)
    have m1x : ∀ x : XW W8, x.w.cell? ⟨w3.heap.size, 1, none⟩ = some (.slice a3 ps.length c3) := xwc (by rw [hW8, World.cell?_setCell_far _ _ _ _ hne3]; exact m1)
    have m2x : ∀ x : XW W8, x.w.cell? ⟨w3.heap.size, 2, none⟩ = some (.int .u32 (df : Int)) := xwc (by rw [hW8, World.cell?_setCell_far _ _ _ _ hne3]; exact m2)
    rw [← hW8]
    have d0x := xwc hcd2.c0
    have d1x := xwc hcd2.c1
    have d2x := xwc hcd2.c2
    have d3x := xwc hcd2.c3
    have d4x := xwc hcd2.c4
    have d5x := xwc hcd2.c5
    have d6x := xwc hcd2.c6
    have d7x := xwc hcd2.c7
    have d8x := xwc hcd2.c8
    dsimp only at d0x d1x d2x d3x d4x d5x d6x d7x d8x
    have HWX : Hid (∀ x : XW W8, Ext w x.w) := Lib.hid (fun x => hxw.trans x.h)
    have HRX : Hid (∀ x : XW W8, RdR x.w 3 (IsR x.w) (.slice a3 ps.length c3) (normL df rs)) := Lib.hid (fun x => rdRR_ext x.h hrw)
    have hDa := fun W (hx : Ext w W) => HhD.out { d with nr := rn } ⟨hnr, hd.ar, hd.ip, hd.a0, hd.a1, hd.a2, hd.a3, hd.a4, hd.a5⟩ W hx
    have hDb := fun v W (h : RdR W 3 (IsR W) v (normL df rs)) => HhD2.out { d with nr := rn } ⟨hnr, hd.ar, hd.ip, hd.a0, hd.a1, hd.a2, hd.a3, hd.a4, hd.a5⟩ v W h
    dsimp only at hDa hDb
    generalize denA ⟨ar, rs, df⟩ { d with nr := rn } = dn at *
    have HhDa := Lib.hid hDa
    clear hDa
    have HhDb := Lib.hid hDb
    clear hDb
    clear hcd2 hxw hrw hW8 hne3 f0 e0 g1
    refine wp_region_kept (by kernel_rfl) (by kernel_rfl) ?_
    repeat (any_goals (first | go_big_quiet_step ((first | (go_at_call 28; with_reducible exact calls_kept (HhDa.out _ (HWX.out _))) | (go_at_call 28; with_reducible exact calls_kept (HhDb.out _ _ (HRX.out _))))) | quiet_step ((first | (go_at_call 28; with_reducible exact calls_kept (HhDa.out _ (HWX.out _))) | (go_at_call 28; with_reducible exact calls_kept (HhDb.out _ _ (HRX.out _)))))))
    all_goals (refine wpQuiet_nil ?_; intro _ hw9; obtain ⟨xq, hw8⟩ := hw9; subst hw8)
    have HZ := Lib.hid (HWX.out xq)
    clear z0x z1x z2x m0x m1x m2x d0x d1x d2x d3x d4x d5x d6x d7x d8x
    go_wp2
    go_ret
    exact ⟨rfl, HZ.out⟩
  · have hcase : (decide ((0 : Int) ≤ i) = false) ∨ (decide ((0 : Int) ≤ i) = true ∧ decide (i < (rs.length : Int)) = false) := by
      by_cases h0 : 0 ≤ i
      · exact .inr ⟨decide_eq_true h0, decide_eq_false (by omega)⟩
      · exact .inl (decide_eq_false h0)
    have hcd2 := hcd
    have hxw := HX7.out
    have hrw := rdRR_ext HX37.out HR3.out
    have z0x := xwc z0
    have z1x := xwc z1
    have z2x := xwc z2
    have m0x := xwc m0
    have m1x := xwc m1
    have m2x := xwc m2
    clear hcd hfd
    have Hhi := Lib.hid hi
    clear hi
    rcases hcase with hc1 | ⟨hc1, hc2⟩
    all_goals
      go_wp2_with fail
      have d0x := xwc hcd2.c0
      have d1x := xwc hcd2.c1
      have d2x := xwc hcd2.c2
      have d3x := xwc hcd2.c3
      have d4x := xwc hcd2.c4
      have d5x := xwc hcd2.c5
      have d6x := xwc hcd2.c6
      have d7x := xwc hcd2.c7
      have d8x := xwc hcd2.c8
      try dsimp only at d0x d1x d2x d3x d4x d5x d6x d7x d8x
      have HWX : Hid (∀ x : XW w7, Ext w x.w) := Lib.hid (fun x => hxw.trans x.h)
      have HRX : Hid (∀ x : XW w7, RdR x.w 3 (IsR x.w) (.slice a3 ps.length c3) (normL df rs)) := Lib.hid (fun x => rdRR_ext x.h hrw)
      have hDa := fun W (hx : Ext w W) => HhD.out d hd W hx
      have hDb := fun v W (h : RdR W 3 (IsR W) v (normL df rs)) => HhD2.out d hd v W h
      try dsimp only at hDa hDb
      generalize denA ⟨ar, rs, df⟩ d = dn at *
      have HhDa := Lib.hid hDa
      clear hDa
      have HhDb := Lib.hid hDb
      clear hDb
      clear hcd2 hxw hrw 
      refine wp_region_kept (by kernel_rfl) (by kernel_rfl) ?_
      repeat (any_goals (first | go_big_quiet_step ((first | (go_at_call 28; with_reducible exact calls_kept (HhDa.out _ (HWX.out _))) | (go_at_call 28; with_reducible exact calls_kept (HhDb.out _ _ (HRX.out _))))) | quiet_step ((first | (go_at_call 28; with_reducible exact calls_kept (HhDa.out _ (HWX.out _))) | (go_at_call 28; with_reducible exact calls_kept (HhDb.out _ _ (HRX.out _)))))))
      all_goals (refine wpQuiet_nil ?_; intro _ hw9; obtain ⟨xq, hw8⟩ := hw9; subst hw8)
      have HZ := Lib.hid (HWX.out xq)
      clear z0x z1x z2x m0x m1x m2x d0x d1x d2x d3x d4x d5x d6x d7x d8x
      go_wp2
      go_ret
      exact ⟨rfl, HZ.out⟩
end L21
end Go.Proofs.Ytkmhfjnjfghnjaa
