import Derived.Test.YtkmhfjnjfghnjaaMp40
import Derived.Test.YtkmhfjnjfghnjaaMp44
import Derived.Test.YtkmhfjnjfghnjaaMp46
import Derived.Test.YtkmhfjnjfghnjaaMp8
import Derived.Test.YtkmhfjnjfghnjaaMp23
/- Layer 25: the walk of the law CodeMeans. -/
namespace Go.Proofs.Ytkmhfjnjfghnjaa
open Go.RowKit V
attribute [local go_sem] Oper.semAt_some Option.isSome_some
namespace L25M
open L21
open L25 (Sy encY OkY Dat datV OkD mayA runA runE mayOne_calls)
open L25W
/-- what the boxes of the filter and of the data hold -/
structure Two (W : World) (b : Nat) (f : Filter) (u : Value) (d : Dat) : Prop where
  z0 : W.cell? ⟨b, 0, none⟩ = some (.int .i64 f.arch)
  z1 : W.cell? ⟨b, 1, none⟩ = some u
  z2 : W.cell? ⟨b, 2, none⟩ = some (.int .u32 (f.dflt : Int))
  c0 : W.cell? ⟨b + 1, 0, none⟩ = some (.int .u32 (d.nr : Int))
  c1 : W.cell? ⟨b + 1, 1, none⟩ = some (.int .u32 (d.ar : Int))
  c2 : W.cell? ⟨b + 1, 2, none⟩ = some (.int .u64 (d.ip : Int))
  c3 : W.cell? ⟨b + 1, 3, none⟩ = some (.int .u64 (d.a0 : Int))
  c4 : W.cell? ⟨b + 1, 4, none⟩ = some (.int .u64 (d.a1 : Int))
  c5 : W.cell? ⟨b + 1, 5, none⟩ = some (.int .u64 (d.a2 : Int))
  c6 : W.cell? ⟨b + 1, 6, none⟩ = some (.int .u64 (d.a3 : Int))
  c7 : W.cell? ⟨b + 1, 7, none⟩ = some (.int .u64 (d.a4 : Int))
  c8 : W.cell? ⟨b + 1, 8, none⟩ = some (.int .u64 (d.a5 : Int))
theorem Two.ext {W W' : World} {b : Nat} {f : Filter} {u : Value} {d : Dat} (h : Two W b f u d) (hx : Ext W W') : Two W' b f u d :=
  ⟨hx.cell h.z0, hx.cell h.z1, hx.cell h.z2, hx.cell h.c0, hx.cell h.c1, hx.cell h.c2, hx.cell h.c3, hx.cell h.c4, hx.cell h.c5, hx.cell h.c6, hx.cell h.c7, hx.cell h.c8⟩
theorem two_new (w : World) (f : Filter) (u : Value) (d : Dat) : Two ((w.alloc (.cells #[.int .i64 f.arch, u, .int .u32 (f.dflt : Int)] 25)).alloc (.cells #[.int .u32 (d.nr : Int), .int .u32 (d.ar : Int), .int .u64 (d.ip : Int), .int .u64 (d.a0 : Int), .int .u64 (d.a1 : Int), .int .u64 (d.a2 : Int), .int .u64 (d.a3 : Int), .int .u64 (d.a4 : Int), .int .u64 (d.a5 : Int)] 40)) w.heap.size f u d := by
  have h1 := blk_ext (heap_alloc_new w (.cells #[.int .i64 f.arch, u, .int .u32 (f.dflt : Int)] 25)) ((Ext.refl _).alloc (.cells #[.int .u32 (d.nr : Int), .int .u32 (d.ar : Int), .int .u64 (d.ip : Int), .int .u64 (d.a0 : Int), .int .u64 (d.a1 : Int), .int .u64 (d.a2 : Int), .int .u64 (d.a3 : Int), .int .u64 (d.a4 : Int), .int .u64 (d.a5 : Int)] 40))
  have h2 := heap_alloc_new (w.alloc (.cells #[.int .i64 f.arch, u, .int .u32 (f.dflt : Int)] 25)) (.cells #[.int .u32 (d.nr : Int), .int .u32 (d.ar : Int), .int .u64 (d.ip : Int), .int .u64 (d.a0 : Int), .int .u64 (d.a1 : Int), .int .u64 (d.a2 : Int), .int .u64 (d.a3 : Int), .int .u64 (d.a4 : Int), .int .u64 (d.a5 : Int)] 40)
  rw [World.size_alloc] at h2
  exact ⟨blk_cell h1 0, blk_cell h1 1, blk_cell h1 2, blk_cell h2 0, blk_cell h2 1, blk_cell h2 2, blk_cell h2 3, blk_cell h2 4, blk_cell h2 5, blk_cell h2 6, blk_cell h2 7, blk_cell h2 8⟩
theorem run_emit {f : Filter} (hf : OkF f) (hm : mayF f = true) (d : Dat) (hd : OkD d) (v : Value) (w : World) (hv : Rd w 4 encY v ((emS f (treeF f)).map SS.fin)) :
    Calls Try.prog 32 #[v, datV d] w fun e w' => (∃ st : Nat, e = .returned (.tuple #[.int .u32 (denA f d : Nat), .int .i64 (st : Nat), .int .i64 0]) ∧ (runA d ((emS f (treeF f)).map SS.fin)) = (denA f d, st)) ∧ Ext w w' := by
  obtain ⟨h1, h2, h3⟩ := emit_facts hf hm
  have hr := L25.Run_calls (fun s i len w => mayOne_calls s i len w) v _ h2 d hd (by omega) w hv
  have hnr : ∀ r ∈ f.rules, r.nr < 4294967296 := fun r hr => (hf.r r hr).n
  obtain ⟨-, -, -, -, hT⟩ := treeF_facts hm hnr
  have hL := (treeF_leads hm hnr hd.nr (q := 10) (by
    obtain ⟨-, -, h5, -⟩ := may_rules hm
    show _ ≤ 1024
    omega)).1
  obtain ⟨st, h4, h5, h6⟩ := emit_run hd hm hT hL
  have hE : runE ((emS f (treeF f)).map SS.fin) = 0 := by unfold runE; rw [if_pos h1]
  rw [hE] at hr
  refine hr.mono ?_
  rintro e w' ⟨rfl, hx⟩
  refine ⟨⟨st, ?_, h4⟩, hx⟩
  rw [h4]
set_option maxRecDepth 100000 in
set_option maxHeartbeats 4000000 in
theorem CodeMeans_calls (f : Filter) (u : Value) (hf : OkF f) (d : Dat) (hd : OkD d) (w : World) (hu : RdR w 3 (IsR w) u f.rules) :
    Calls Try.prog 14 #[.agg #[.int .i64 f.arch, u, .int .u32 (f.dflt : Int)], datV d] w fun e w' => e = .returned (.bool true) ∧ Ext w w' := by
  have hG := fun W (hx : Ext w W) => Great25_calls f u hf W (rdRR_ext hx hu)
  have HAW : Hid (∀ W, Calls Try.prog 41 #[] W fun e w' => e = .returned (.bool true) ∧ Ext W w') := Lib.hid (fun W => L25.awake_calls W)
  have hM := fun W (hx : Ext w W) => May_calls f u hf W (rdRR_ext hx hu)
  have htw := two_new w f u d
  have hE0 : Ext w ((w.alloc (.cells #[.int .i64 f.arch, u, .int .u32 (f.dflt : Int)] 25)).alloc (.cells #[.int .u32 (d.nr : Int), .int .u32 (d.ar : Int), .int .u64 (d.ip : Int), .int .u64 (d.a0 : Int), .int .u64 (d.a1 : Int), .int .u64 (d.a2 : Int), .int .u64 (d.a3 : Int), .int .u64 (d.a4 : Int), .int .u64 (d.a5 : Int)] 40)) := ((Ext.refl _).alloc _).alloc _
  obtain ⟨av, cv, hua, -, -⟩ := rdR_cell hu
  have HU := Lib.hid hu
  clear hu
  subst hua
  have HF := Lib.hid hf
  have HD := Lib.hid hd
  clear hf hd
  cases hgr : great 0 f.rules
  case true =>
    rw [hgr] at hG
    unfold datV
    have HhG := Lib.hid hG
    clear hG
    have Hhgr := Lib.hid hgr
    clear hgr
    have HhM := Lib.hid hM
    clear hM
    have Hhtw := Lib.hid htw
    clear htw
    have HhE0 := Lib.hid hE0
    clear hE0
    go_enter Try.func14, Try.ntmps14
    go_wp2_with fail
    refine (HAW.out _).mono ?_
    rintro e w1 ⟨rfl, hx1⟩
    obtain ⟨z0, z1, z2, -, -, -, -, -, -, -, -, -⟩ := Hhtw.out.ext hx1
    have HX1 := Lib.hid (HhE0.out.trans hx1)
    clear hx1
    go_wp2_with fail
    refine (HhG.out _ HX1.out).mono ?_
    rintro e w2 ⟨rfl, hx2⟩
    go_wp2_with fail
    go_ret
    exact ⟨rfl, HX1.out.trans hx2⟩
  rw [hgr] at hG
  obtain ⟨hl, hlr⟩ := great_bd hgr
  cases hm : mayF f
  case false =>
    rw [hm] at hM
    unfold datV
    have HhG := Lib.hid hG
    clear hG
    have Hhgr := Lib.hid hgr
    clear hgr
    have HhM := Lib.hid hM
    clear hM
    have Hhm := Lib.hid hm
    clear hm
    have Hhtw := Lib.hid htw
    clear htw
    have HhE0 := Lib.hid hE0
    clear hE0
    go_enter Try.func14, Try.ntmps14
    go_wp2_with fail
    refine (HAW.out _).mono ?_
    rintro e w1 ⟨rfl, hx1⟩
    have htw1 := Hhtw.out.ext hx1
    have HTW1 := Lib.hid htw1
    obtain ⟨z0, z1, z2, -, -, -, -, -, -, -, -, -⟩ := HTW1.out
    have HX1 := Lib.hid (HhE0.out.trans hx1)
    clear hx1 htw1
    go_wp2_with fail
    refine (HhG.out _ HX1.out).mono ?_
    rintro e w2 ⟨rfl, hx2⟩
    clear z0 z1 z2
    obtain ⟨z0, z1, z2, -, -, -, -, -, -, -, -, -⟩ := HTW1.out.ext hx2
    have HX2 := Lib.hid (HX1.out.trans hx2)
    clear hx2
    go_wp2_with fail
    refine (HhM.out _ HX2.out).mono ?_
    rintro e w3 ⟨rfl, hx3⟩
    go_wp2_with fail
    go_ret
    exact ⟨rfl, HX2.out.trans hx3⟩
  have hN := fun W (hx : Ext w W) => Normal_yes f _ HF.out hlr hm W (rdRR_ext hx HU.out)
  have hEm := fun W (hx : Ext w W) => Emit_calls f _ HF.out hm W (rdRR_ext hx HU.out)
  have hEm2 := fun v W (h : RdR W 3 (IsR W) v (normF f).rules) => Emit_calls (normF f) v (okN HF.out) (normF_may hm) W h
  have hRu := fun v W (h : Rd W 4 encY v ((emS f (treeF f)).map SS.fin)) => run_emit HF.out hm d HD.out v W h
  have hRu2 := fun v W (h : Rd W 4 encY v ((emS (normF f) (treeF (normF f))).map SS.fin)) => run_emit (okN HF.out) (normF_may hm) d HD.out v W h
  have hDn := fun W (hx : Ext w W) => Denote_calls f _ HF.out d HD.out W (rdRR_ext hx HU.out)
  rw [hm] at hM
  rw [denA_norm hm] at hRu2
  unfold datV at hRu hRu2 hDn ⊢
  have HhG := Lib.hid hG
  clear hG
  have Hhgr := Lib.hid hgr
  clear hgr
  have HhM := Lib.hid hM
  clear hM
  have Hhm := Lib.hid hm
  clear hm
  have HhN := Lib.hid hN
  clear hN
  have HhEm := Lib.hid hEm
  clear hEm
  have HhEm2 := Lib.hid hEm2
  clear hEm2
  have HhRu := Lib.hid hRu
  clear hRu
  have HhRu2 := Lib.hid hRu2
  clear hRu2
  have HhDn := Lib.hid hDn
  clear hDn
  have Hhtw := Lib.hid htw
  clear htw
  have HhE0 := Lib.hid hE0
  clear hE0
  go_enter Try.func14, Try.ntmps14
  go_wp2_with fail
  refine (HAW.out _).mono ?_
  rintro e w1 ⟨rfl, hx1⟩
  have htw1 := Hhtw.out.ext hx1
  have HTW1 := Lib.hid htw1
  obtain ⟨z0, z1, z2, -, -, -, -, -, -, -, -, -⟩ := HTW1.out
  have HX1 := Lib.hid (HhE0.out.trans hx1)
  clear hx1 htw1
  go_wp2_with fail
  refine (HhG.out _ HX1.out).mono ?_
  rintro e w2 ⟨rfl, hx2⟩
  clear z0 z1 z2
  have htw2 := HTW1.out.ext hx2
  have HTW2 := Lib.hid htw2
  obtain ⟨z0, z1, z2, -, -, -, -, -, -, -, -, -⟩ := HTW2.out
  have HX2 := Lib.hid (HX1.out.trans hx2)
  clear hx2 htw2
  go_wp2_with fail
  refine (HhM.out _ HX2.out).mono ?_
  rintro e w3 ⟨rfl, hx3⟩
  clear z0 z1 z2
  have htw3 := HTW2.out.ext hx3
  have HTW3 := Lib.hid htw3
  obtain ⟨z0, z1, z2, -, -, -, -, -, -, -, -, -⟩ := HTW3.out
  have HX3 := Lib.hid (HX2.out.trans hx3)
  clear hx3 htw3
  go_wp2_with fail
  refine (HhN.out _ HX3.out).mono ?_
  rintro e w4 ⟨a4, c4, ps, rfl, hps, hrf, hx4⟩
  have hx44 := (Ext.refl w4).alloc (.cells #[.int .i64 f.arch, .slice a4 ps.length c4, .int .u32 (f.dflt : Int)] 25)
  have hnew := heap_alloc_new w4 (.cells #[.int .i64 f.arch, .slice a4 ps.length c4, .int .u32 (f.dflt : Int)] 25)
  obtain ⟨W4, hW4⟩ : ∃ W4, W4 = w4.alloc (.cells #[.int .i64 f.arch, .slice a4 ps.length c4, .int .u32 (f.dflt : Int)] 25) := ⟨_, rfl⟩
  rw [← hW4] at hx44 hnew
  have hr4 := (hrf.ext hx44).rd
  rw [hps] at hr4
  have HR4 := Lib.hid hr4
  have HNW := Lib.hid hnew
  have HTW4 := Lib.hid (HTW3.out.ext (hx4.trans hx44))
  have HX4 := Lib.hid (HX3.out.trans (hx4.trans hx44))
  have HW4 := Lib.hid hW4
  clear hps hrf hx4 hx44 hnew hr4 hW4 z0 z1 z2
  go_upto_region 6 with fail
  rw [← HW4.out]
  obtain ⟨z0, z1, z2, -, -, -, -, -, -, -, -, -⟩ := HTW4.out
  go_wp2_with fail
  refine (HhEm.out _ HX4.out).mono ?_
  rintro e w5 ⟨v5, rfl, hx5, hr5⟩
  have HTW5 := Lib.hid (HTW4.out.ext hx5)
  have HX5 := Lib.hid (HX4.out.trans hx5)
  have HR5 := Lib.hid hr5
  have HR45 := Lib.hid (rdRR_ext hx5 HR4.out)
  have hnw5 := blk_ext HNW.out hx5
  have m0 := blk_cell hnw5 0
  have m1 := blk_cell hnw5 1
  have m2 := blk_cell hnw5 2
  simp at m0 m1 m2
  clear hx5 hr5 hnw5 z0 z1 z2
  go_wp2_with fail
  refine (HhEm2.out _ _ HR45.out).mono ?_
  rintro e w6 ⟨v6, rfl, hx6, hr6⟩
  have HTW6 := Lib.hid (HTW5.out.ext hx6)
  have HX6 := Lib.hid (HX5.out.trans hx6)
  have HR6 := Lib.hid hr6
  have HR56 := Lib.hid (Rd.ext hx6 HR5.out)
  clear hx6 hr6 m0 m1 m2
  obtain ⟨-, -, -, c0, c1, c2, c3, c4, c5, c6, c7, c8⟩ := HTW6.out
  go_wp2_with fail
  refine (HhRu.out _ _ HR56.out).mono ?_
  rintro e w7 ⟨⟨st7, rfl, -⟩, hx7⟩
  have HTW7 := Lib.hid (HTW6.out.ext hx7)
  have HX7 := Lib.hid (HX6.out.trans hx7)
  have HR7 := Lib.hid (Rd.ext hx7 HR6.out)
  clear hx7 c0 c1 c2 c3 c4 c5 c6 c7 c8
  obtain ⟨-, -, -, c0, c1, c2, c3, c4, c5, c6, c7, c8⟩ := HTW7.out
  go_wp2_with fail
  refine (HhRu2.out _ _ HR7.out).mono ?_
  rintro e w8 ⟨⟨st8, rfl, -⟩, hx8⟩
  have HTW8 := Lib.hid (HTW7.out.ext hx8)
  have HX8 := Lib.hid (HX7.out.trans hx8)
  clear hx8 c0 c1 c2 c3 c4 c5 c6 c7 c8
  obtain ⟨z0, z1, z2, c0, c1, c2, c3, c4, c5, c6, c7, c8⟩ := HTW8.out
  go_wp2_with fail
  refine (HhDn.out _ HX8.out).mono ?_
  rintro e w9 ⟨rfl, hx9⟩
  have HX9 := Lib.hid (HX8.out.trans hx9)
  clear hx9
  go_wp2_with fail
  go_ret
  exact ⟨rfl, HX9.out⟩
end L25M
end Go.Proofs.Ytkmhfjnjfghnjaa

