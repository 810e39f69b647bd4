import Derived.Test.YtkmhfjnjfghnjaaMq29
import Derived.Test.YtkmhfjnjfghnjaaMq32
import Derived.Test.YtkmhfjnjfghnjaaMq34
import Derived.Test.YtkmhfjnjfghnjaaMq18
import Derived.Test.YtkmhfjnjfghnjaaMq23
import Derived.Test.YtkmhfjnjfghnjaaMq14
import Derived.Test.YtkmhfjnjfghnjaaMq35
import Derived.Test.YtkmhfjnjfghnjaaMq36
import Derived.Test.YtkmhfjnjfghnjaaMq40
import Derived.Test.YtkmhfjnjfghnjaaMq41
import Derived.Test.YtkmhfjnjfghnjaaMq24
import Derived.Test.YtkmhfjnjfghnjaaMq46
/- Layer 25: the walk of the law CodeMeans. -/
namespace Go.Proofs.Ytkmhfjnjfghnjaa
open Go.RowKit V
attribute [local go_sem] Oper.semAt_some Option.isSome_some
namespace L25M
open L21
open L25 (Sy encY OkY Dat datV OkD mayA runA runE mayOne_calls)
open L25W
/-- what the boxes of the filter and of the data hold -/
structure Two (W : World) (b : Nat) (f : Filter) (u : Value) (d : Dat) : Prop where
  z0 : W.cell? ⟨b, 0, none⟩ = some (.int .i64 f.arch)
  z1 : W.cell? ⟨b, 1, none⟩ = some u
  z2 : W.cell? ⟨b, 2, none⟩ = some (.int .u32 (f.dflt : Int))
  c0 : W.cell? ⟨b + 1, 0, none⟩ = some (.int .u32 (d.nr : Int))
  c1 : W.cell? ⟨b + 1, 1, none⟩ = some (.int .u32 (d.ar : Int))
  c2 : W.cell? ⟨b + 1, 2, none⟩ = some (.int .u64 (d.ip : Int))
  c3 : W.cell? ⟨b + 1, 3, none⟩ = some (.int .u64 (d.a0 : Int))
  c4 : W.cell? ⟨b + 1, 4, none⟩ = some (.int .u64 (d.a1 : Int))
  c5 : W.cell? ⟨b + 1, 5, none⟩ = some (.int .u64 (d.a2 : Int))
  c6 : W.cell? ⟨b + 1, 6, none⟩ = some (.int .u64 (d.a3 : Int))
  c7 : W.cell? ⟨b + 1, 7, none⟩ = some (.int .u64 (d.a4 : Int))
  c8 : W.cell? ⟨b + 1, 8, none⟩ = some (.int .u64 (d.a5 : Int))
theorem Two.ext {W W' : World} {b : Nat} {f : Filter} {u : Value} {d : Dat} (h : Two W b f u d) (hx : Ext W W') : Two W' b f u d :=
  ⟨hx.cell h.z0, hx.cell h.z1, hx.cell h.z2, hx.cell h.c0, hx.cell h.c1, hx.cell h.c2, hx.cell h.c3, hx.cell h.c4, hx.cell h.c5, hx.cell h.c6, hx.cell h.c7, hx.cell h.c8⟩
theorem two_new (w : World) (f : Filter) (u : Value) (d : Dat) : Two ((w.alloc (.cells #[.int .i64 f.arch, u, .int .u32 (f.dflt : Int)] 25)).alloc (.cells #[.int .u32 (d.nr : Int), .int .u32 (d.ar : Int), .int .u64 (d.ip : Int), .int .u64 (d.a0 : Int), .int .u64 (d.a1 : Int), .int .u64 (d.a2 : Int), .int .u64 (d.a3 : Int), .int .u64 (d.a4 : Int), .int .u64 (d.a5 : Int)] 40)) w.heap.size f u d := by
  have h1 := blk_ext (heap_alloc_new w (.cells #[.int .i64 f.arch, u, .int .u32 (f.dflt : Int)] 25)) ((Ext.refl _).alloc (.cells #[.int .u32 (d.nr : Int), .int .u32 (d.ar : Int), .int .u64 (d.ip : Int), .int .u64 (d.a0 : Int), .int .u64 (d.a1 : Int), .int .u64 (d.a2 : Int), .int .u64 (d.a3 : Int), .int .u64 (d.a4 : Int), .int .u64 (d.a5 : Int)] 40))
  have h2 := heap_alloc_new (w.alloc (.cells #[.int .i64 f.arch, u, .int .u32 (f.dflt : Int)] 25)) (.cells #[.int .u32 (d.nr : Int), .int .u32 (d.ar : Int), .int .u64 (d.ip : Int), .int .u64 (d.a0 : Int), .int .u64 (d.a1 : Int), .int .u64 (d.a2 : Int), .int .u64 (d.a3 : Int), .int .u64 (d.a4 : Int), .int .u64 (d.a5 : Int)] 40)
  rw [World.size_alloc] at h2
  exact ⟨blk_cell h1 0, blk_cell h1 1, blk_cell h1 2, blk_cell h2 0, blk_cell h2 1, blk_cell h2 2, blk_cell h2 3, blk_cell h2 4, blk_cell h2 5, blk_cell h2 6, blk_cell h2 7, blk_cell h2 8⟩
theorem run_emit {f : Filter} (hf : OkF f) (hm : mayF f = true) (d : Dat) (hd : OkD d) (v : Value) (w : World) (hv : Rd w 4 encY v ((emS f (treeF f)).map SS.fin)) :
    Calls Try.prog 32 #[v, datV d] w fun e w' => (∃ st : Nat, e = .returned (.tuple #[.int .u32 (denA f d : Nat), .int .i64 (st : Nat), .int .i64 0]) ∧ (runA d ((emS f (treeF f)).map SS.fin)) = (denA f d, st)) ∧ Ext w w' := by
  obtain ⟨h1, h2, h3⟩ := emit_facts hf hm
  have hr := L25.Run_calls (fun s i len w => mayOne_calls s i len w) v _ h2 d hd (by omega) w hv
  have hnr : ∀ r ∈ f.rules, r.nr < 4294967296 := fun r hr => (hf.r r hr).n
  obtain ⟨-, -, -, -, hT⟩ := treeF_facts hm hnr
  have hL := (treeF_leads hm hnr hd.nr (q := 10) (by
    obtain ⟨-, -, h5, -⟩ := may_rules hm
    show _ ≤ 1024
    omega)).1
  obtain ⟨st, h4, h5, h6⟩ := emit_run hd hm hT hL
  have hE : runE ((emS f (treeF f)).map SS.fin) = 0 := by unfold runE; rw [if_pos h1]
  rw [hE] at hr
  refine hr.mono ?_
  rintro e w' ⟨rfl, hx⟩
  refine ⟨⟨st, ?_, h4⟩, hx⟩
  rw [h4]
set_option maxRecDepth 100000 in
set_option maxHeartbeats 4000000 in
theorem CodeMeans_calls (f : Filter) (u : Value) (hf : OkF f) (d : Dat) (hd : OkD d) (w : World) (hu : RdR w 3 (IsR w) u f.rules) :
    Calls Try.prog 14 #[.agg #[.int .i64 f.arch, u, .int .u32 (f.dflt : Int)], datV d] w fun e w' => e = .returned (.bool true) ∧ Ext w w' := by
  have hG := fun W (hx : Ext w W) => Great25_calls f u hf W (rdRR_ext hx hu)
  have HAW : Hid (∀ W, Calls Try.prog 41 #[] W fun e w' => e = .returned (.bool true) ∧ Ext W w') := Lib.hid (fun W => L25.awake_calls W)
  have hM := fun W (hx : Ext w W) => May_calls f u hf W (rdRR_ext hx hu)
  have htw := two_new w f u d
  have hE0 : Ext w ((w.alloc (.cells #[.int .i64 f.arch, u, .int .u32 (f.dflt : Int)] 25)).alloc (.cells #[.int .u32 (d.nr : Int), .int .u32 (d.ar : Int), .int .u64 (d.ip : Int), .int .u64 (d.a0 : Int), .int .u64 (d.a1 : Int), .int .u64 (d.a2 : Int), .int .u64 (d.a3 : Int), .int .u64 (d.a4 : Int), .int .u64 (d.a5 : Int)] 40)) := ((Ext.refl _).alloc _).alloc _
  obtain ⟨av, cv, hua, -, -⟩ := rdR_cell hu
  have HU := Lib.hid hu
  clear hu
  subst hua
  have HF := Lib.hid hf
  have HD := Lib.hid hd
  clear hf hd
  cases hgr : great 0 f.rules
  case true =>
    rw [hgr] at hG
    unfold datV
    have HhG := Lib.hid hG
    clear hG
    have Hhgr := Lib.hid hgr
    clear hgr
    have HhM := Lib.hid hM
    clear hM
    have Hhtw := Lib.hid htw
    clear htw
    have HhE0 := Lib.hid hE0
    clear hE0
    go_enter Try.func14, Try.ntmps14
    go_wp2_with fail
    refine (HAW.out _).mono ?_
    rintro e w1 ⟨rfl, hx1⟩
    obtain ⟨z0, z1, z2, -, -, -, -, -, -, -, -, -⟩ := Hhtw.out.ext hx1
    have HX1 := Lib.hid (HhE0.out.trans hx1)
    clear hx1
    go_wp2_with fail
    refine (HhG.out _ HX1.out).mono ?_
    rintro e w2 ⟨rfl, hx2⟩
    go_wp2_with fail
    go_ret
    exact ⟨rfl, HX1.out.trans hx2⟩
  rw [hgr] at hG
  obtain ⟨hl, hlr⟩ := great_bd hgr
  cases hm : mayF f
  case false =>
    rw [hm] at hM
    unfold datV
    have HhG := Lib.hid hG
    clear hG
    have Hhgr := Lib.hid hgr
    clear hgr
    have HhM := Lib.hid hM
    clear hM
    have Hhm := Lib.hid hm
    clear hm
    have Hhtw := Lib.hid htw
    clear htw
    have HhE0 := Lib.hid hE0
    clear hE0
    go_enter Try.func14, Try.ntmps14
    go_wp2_with fail
    refine (HAW.out _).mono ?_
    rintro e w1 ⟨rfl, hx1⟩
    have htw1 := Hhtw.out.ext hx1
    have HTW1 := Lib.hid htw1
    obtain ⟨z0, z1, z2, -, -, -, -, -, -, -, -, -⟩ := HTW1.out
    have HX1 := Lib.hid (HhE0.out.trans hx1)
    clear hx1 htw1
    go_wp2_with fail
    refine (HhG.out _ HX1.out).mono ?_
    rintro e w2 ⟨rfl, hx2⟩
    clear z0 z1 z2
    obtain ⟨z0, z1, z2, -, -, -, -, -, -, -, -, -⟩ := HTW1.out.ext hx2
    have HX2 := Lib.hid (HX1.out.trans hx2)
    clear hx2
    go_wp2_with fail
    refine (HhM.out _ HX2.out).mono ?_
    rintro e w3 ⟨rfl, hx3⟩
    go_wp2_with fail
    go_ret
    exact ⟨rfl, HX2.out.trans hx3⟩
  have hN := fun W (hx : Ext w W) => Normal_yes f _ HF.out hlr hm W (rdRR_ext hx HU.out)
  have hEm := fun W (hx : Ext w W) => Emit_calls f _ HF.out hm W (rdRR_ext hx HU.out)
  have hEm2 := fun v W (h : RdR W 3 (IsR W) v (normF f).rules) => Emit_calls (normF f) v (okN HF.out) (normF_may hm) W h
  have hRu := fun v W (h : Rd W 4 encY v ((emS f (treeF f)).map SS.fin)) => run_emit HF.out hm d HD.out v W h
  have hRu2 := fun v W (h : Rd W 4 encY v ((emS (normF f) (treeF (normF f))).map SS.fin)) => run_emit (okN HF.out) (normF_may hm) d HD.out v W h
  have hDn := fun W (hx : Ext w W) => Denote_calls f _ HF.out d HD.out W (rdRR_ext hx HU.out)
  rw [hm] at hM
  rw [denA_norm hm] at hRu2
  unfold datV at hRu hRu2 hDn ⊢
  have HhG := Lib.hid hG
  clear hG
  have Hhgr := Lib.hid hgr
  clear hgr
  have HhM := Lib.hid hM
  clear hM
  have Hhm := Lib.hid hm
  clear hm
  have HhN := Lib.hid hN
  clear hN
  have HhEm := Lib.hid hEm
  clear hEm
  have HhEm2 := Lib.hid hEm2
  clear hEm2
  have HhRu := Lib.hid hRu
  clear hRu
  have HhRu2 := Lib.hid hRu2
  clear hRu2
  have HhDn := Lib.hid hDn
  clear hDn
  have Hhtw := Lib.hid htw
  clear htw
  have HhE0 := Lib.hid hE0
  clear hE0
  go_enter Try.func14, Try.ntmps14
  go_wp2_with fail
  refine (HAW.out _).mono ?_
  rintro e w1 ⟨rfl, hx1⟩
  have htw1 := Hhtw.out.ext hx1
  have HTW1 := Lib.hid htw1
  obtain ⟨z0, z1, z2, -, -, -, -, -, -, -, -, -⟩ := HTW1.out
  have HX1 := Lib.hid (HhE0.out.trans hx1)
  clear hx1 htw1
  go_wp2_with fail
  refine (HhG.out _ HX1.out).mono ?_
  rintro e w2 ⟨rfl, hx2⟩
  clear z0 z1 z2
  have htw2 := HTW1.out.ext hx2
  have HTW2 := Lib.hid htw2
  obtain ⟨z0, z1, z2, -, -, -, -, -, -, -, -, -⟩ := HTW2.out
  have HX2 := Lib.hid (HX1.out.trans hx2)
  clear hx2 htw2
  go_wp2_with fail
  refine (HhM.out _ HX2.out).mono ?_
  rintro e w3 ⟨rfl, hx3⟩
  clear z0 z1 z2
  have htw3 := HTW2.out.ext hx3
  have HTW3 := Lib.hid htw3
  obtain ⟨z0, z1, z2, -, -, -, -, -, -, -, -, -⟩ := HTW3.out
  have HX3 := Lib.hid (HX2.out.trans hx3)
  clear hx3 htw3
  go_wp2_with fail
  refine (HhN.out _ HX3.out).mono ?_
  rintro e w4 ⟨a4, c4, ps, rfl, hps, hrf, hx4⟩
  have hx44 := (Ext.refl w4).alloc (.cells #[.int .i64 f.arch, .slice a4 ps.length c4, .int .u32 (f.dflt : Int)] 25)
  have hnew := heap_alloc_new w4 (.cells #[.int .i64 f.arch, .slice a4 ps.length c4, .int .u32 (f.dflt : Int)] 25)
  obtain ⟨W4, hW4⟩ : ∃ W4, W4 = w4.alloc (.cells #[.int .i64 f.arch, .slice a4 ps.length c4, .int .u32 (f.dflt : Int)] 25) := ⟨_, rfl⟩
  rw [← hW4] at hx44 hnew
  have hr4 := (hrf.ext hx44).rd
  rw [hps] at hr4
  have HR4 := Lib.hid hr4
  have HNW := Lib.hid hnew
  have HTW4 := Lib.hid (HTW3.out.ext (hx4.trans hx44))
  have HX4 := Lib.hid (HX3.out.trans (hx4.trans hx44))
  have HW4 := Lib.hid hW4
  clear hps hrf hx4 hx44 hnew hr4 hW4 z0 z1 z2
  go_upto_region 6 with fail
  rw [← HW4.out]
  obtain ⟨z0, z1, z2, -, -, -, -, -, -, -, -, -⟩ := HTW4.out
  go_wp2_with fail
  refine (HhEm.out _ HX4.out).mono ?_
  rintro e w5 ⟨v5, rfl, hx5, hr5⟩
  have HTW5 := Lib.hid (HTW4.out.ext hx5)
  have HX5 := Lib.hid (HX4.out.trans hx5)
  have HR5 := Lib.hid hr5
  have HR45 := Lib.hid (rdRR_ext hx5 HR4.out)
  have hnw5 := blk_ext HNW.out hx5
  have m0 := blk_cell hnw5 0
  have m1 := blk_cell hnw5 1
  have m2 := blk_cell hnw5 2
  simp at m0 m1 m2
  clear hx5 hr5 hnw5 z0 z1 z2
  go_wp2_with fail
  refine (HhEm2.out _ _ HR45.out).mono ?_
  rintro e w6 ⟨v6, rfl, hx6, hr6⟩
  have HTW6 := Lib.hid (HTW5.out.ext hx6)
  have HX6 := Lib.hid (HX5.out.trans hx6)
  have HR6 := Lib.hid hr6
  have HR56 := Lib.hid (Rd.ext hx6 HR5.out)
  clear hx6 hr6 m0 m1 m2
  obtain ⟨-, -, -, c0, c1, c2, c3, c4, c5, c6, c7, c8⟩ := HTW6.out
  go_wp2_with fail
  refine (HhRu.out _ _ HR56.out).mono ?_
  rintro e w7 ⟨⟨st7, rfl, -⟩, hx7⟩
  have HTW7 := Lib.hid (HTW6.out.ext hx7)
  have HX7 := Lib.hid (HX6.out.trans hx7)
  have HR7 := Lib.hid (Rd.ext hx7 HR6.out)
  clear hx7 c0 c1 c2 c3 c4 c5 c6 c7 c8
  obtain ⟨-, -, -, c0, c1, c2, c3, c4, c5, c6, c7, c8⟩ := HTW7.out
  go_wp2_with fail
  refine (HhRu2.out _ _ HR7.out).mono ?_
  rintro e w8 ⟨⟨st8, rfl, -⟩, hx8⟩
  have HTW8 := Lib.hid (HTW7.out.ext hx8)
  have HX8 := Lib.hid (HX7.out.trans hx8)
  clear hx8 c0 c1 c2 c3 c4 c5 c6 c7 c8
  obtain ⟨z0, z1, z2, c0, c1, c2, c3, c4, c5, c6, c7, c8⟩ := HTW8.out
  go_wp2_with fail
  refine (HhDn.out _ HX8.out).mono ?_
  rintro e w9 ⟨rfl, hx9⟩
  have HX9 := Lib.hid (HX8.out.trans hx9)
  clear hx9
  go_wp2_with fail
  go_ret
  exact ⟨rfl, HX9.out⟩
end L25M
end Go.Proofs.Ytkmhfjnjfghnjaa

/- Layer 25: the walk of the law CodeSteps. -/
namespace Go.Proofs.Ytkmhfjnjfghnjaa
open Go.RowKit V
attribute [local go_sem] Oper.semAt_some Option.isSome_some
namespace L25M
open L21
open L25 (Sy encY OkY Dat datV OkD mayA runA runE mayOne_calls)
open L25W
open L24 (fnd)
theorem idx_find (nr : Nat) : ∀ (rs : List Rule) (k : Nat), (idxR nr rs k = -1 ∧ rs.find? (fun r => r.nr == nr) = none) ∨ ∃ i, ∃ h : i < rs.length, idxR nr rs k = ((k + i : Nat) : Int) ∧ rs.find? (fun r => r.nr == nr) = some rs[i]
  | [], k => .inl ⟨rfl, rfl⟩
  | r :: l, k => by
    unfold idxR
    rw [List.find?_cons]
    cases hb : r.nr == nr
    · rw [if_neg (by simp)]
      rcases idx_find nr l (k + 1) with ⟨h1, h2⟩ | ⟨i, h, h1, h2⟩
      · exact .inl ⟨h1, h2⟩
      · exact .inr ⟨i + 1, by simp; omega, by rw [h1]; congr 1; omega, h2⟩
    · rw [if_pos rfl]
      exact .inr ⟨0, by simp, rfl, rfl⟩
theorem tst_fnd {d : Dat} {rs : List Rule} {r : Rule} (h : FndI d.nr rs r) : tstN d rs = if decide (0 ≤ idxR d.nr rs 0) = true then r.tests.length else 0 := by
  unfold tstN
  rcases idx_find d.nr rs 0 with ⟨h1, h2⟩ | ⟨i, hi, h1, h2⟩
  · rw [h2, h1]; rfl
  · rw [h2, h1, if_pos (by simp)]
    rcases h with ⟨h3, -⟩ | ⟨j, hj, h3, rfl⟩
    · rw [h1] at h3; omega
    · rw [h1] at h3
      obtain rfl : i = j := by omega
      rfl
theorem Two.nr {W : World} {b : Nat} {f : Filter} {u : Value} {d : Dat} (h : Two W b f u d) (n : Nat) : Two (W.setCell ⟨b + 1, 0, none⟩ (.int .u32 (n : Int))) b f u { d with nr := n } :=
  have o : ∀ (p : Addr) (x : Value), W.cell? p = some x → (⟨b + 1, 0, none⟩ : Addr) ≠ p → (W.setCell ⟨b + 1, 0, none⟩ (.int .u32 (n : Int))).cell? p = some x := fun p x hx hne => (World.cell?_setCell_other _ _ _ _ hne).trans hx
  ⟨o _ _ h.z0 (by simp), o _ _ h.z1 (by simp), o _ _ h.z2 (by simp), World.cell?_setCell_same' _ _ _ (by rw [h.c0]; rfl), o _ _ h.c1 (by simp), o _ _ h.c2 (by simp), o _ _ h.c3 (by simp), o _ _ h.c4 (by simp), o _ _ h.c5 (by simp), o _ _ h.c6 (by simp), o _ _ h.c7 (by simp), o _ _ h.c8 (by simp)⟩
theorem run_steps {f : Filter} (hf : OkF f) (hm : mayF f = true) (d : Dat) (hd : OkD d) (q : Nat) (hq : 2 * f.rules.length + 1 ≤ 2 ^ q) (v : Value) (w : World) (hv : Rd w 4 encY v ((emS f (treeF f)).map SS.fin)) :
    Calls Try.prog 32 #[v, datV d] w fun e w' => ∃ st : Nat, e = .returned (.tuple #[.int .u32 (denA f d : Nat), .int .i64 (st : Int), .int .i64 0]) ∧ (1 ≤ st ∧ st ≤ 6 + q + 7 * tstN d f.rules) ∧ Ext w w' := by
  refine (run_emit hf hm d hd v w hv).mono ?_
  rintro e w' ⟨⟨st, rfl, h1⟩, hx⟩
  have hnr : ∀ r ∈ f.rules, r.nr < 4294967296 := fun r hr => (hf.r r hr).n
  obtain ⟨-, -, -, -, hT⟩ := treeF_facts hm hnr
  obtain ⟨hL, hLq⟩ := treeF_leads hm hnr hd.nr (q := q) hq
  obtain ⟨st', h4, h5, h6⟩ := emit_run hd hm hT hL
  rw [h1] at h4
  obtain rfl : st = st' := by simpa using congrArg Prod.snd h4
  exact ⟨st, rfl, ⟨h5, by omega⟩, hx⟩
set_option maxRecDepth 100000 in
set_option maxHeartbeats 4000000 in
theorem CodeSteps_calls (f : Filter) (u : Value) (hf : OkF f) (d : Dat) (hd : OkD d) (i : Int) (w : World) (hu : RdR w 3 (IsR w) u f.rules) :
    Calls Try.prog 13 #[.agg #[.int .i64 f.arch, u, .int .u32 (f.dflt : Int)], datV d, .int .i64 i] w fun e w' => e = .returned (.bool true) ∧ Ext w w' := by
  have hG := fun W (hx : Ext w W) => Great25_calls f u hf W (rdRR_ext hx hu)
  have HAW : Hid (∀ W, Calls Try.prog 41 #[] W fun e w' => e = .returned (.bool true) ∧ Ext W w') := Lib.hid (fun W => L25.awake_calls W)
  have hM := fun W (hx : Ext w W) => May_calls f u hf W (rdRR_ext hx hu)
  have htw := two_new w f u d
  have hE0 : Ext w ((w.alloc (.cells #[.int .i64 f.arch, u, .int .u32 (f.dflt : Int)] 25)).alloc (.cells #[.int .u32 (d.nr : Int), .int .u32 (d.ar : Int), .int .u64 (d.ip : Int), .int .u64 (d.a0 : Int), .int .u64 (d.a1 : Int), .int .u64 (d.a2 : Int), .int .u64 (d.a3 : Int), .int .u64 (d.a4 : Int), .int .u64 (d.a5 : Int)] 40)) := ((Ext.refl _).alloc _).alloc _
  obtain ⟨av, cv, hua, -, -⟩ := rdR_cell hu
  have HU := Lib.hid hu
  clear hu
  subst hua
  have HF := Lib.hid hf
  have HD := Lib.hid hd
  clear hf hd
  cases hgr : great 0 f.rules
  case true =>
    rw [hgr] at hG
    unfold datV
    have HhG := Lib.hid hG
    clear hG
    have Hhgr := Lib.hid hgr
    clear hgr
    have HhM := Lib.hid hM
    clear hM
    have Hhtw := Lib.hid htw
    clear htw
    have HhE0 := Lib.hid hE0
    clear hE0
    go_enter Try.func13, Try.ntmps13
    go_wp2_with fail
    refine (HAW.out _).mono ?_
    rintro e w1 ⟨rfl, hx1⟩
    obtain ⟨z0, z1, z2, -, -, -, -, -, -, -, -, -⟩ := Hhtw.out.ext hx1
    have HX1 := Lib.hid (HhE0.out.trans hx1)
    clear hx1
    go_wp2_with fail
    refine (HhG.out _ HX1.out).mono ?_
    rintro e w2 ⟨rfl, hx2⟩
    go_wp2_with fail
    go_ret
    exact ⟨rfl, HX1.out.trans hx2⟩
  rw [hgr] at hG
  obtain ⟨hl, hlr⟩ := great_bd hgr
  cases hm : mayF f
  case false =>
    rw [hm] at hM
    unfold datV
    have HhG := Lib.hid hG
    clear hG
    have Hhgr := Lib.hid hgr
    clear hgr
    have HhM := Lib.hid hM
    clear hM
    have Hhm := Lib.hid hm
    clear hm
    have Hhtw := Lib.hid htw
    clear htw
    have HhE0 := Lib.hid hE0
    clear hE0
    go_enter Try.func13, Try.ntmps13
    go_wp2_with fail
    refine (HAW.out _).mono ?_
    rintro e w1 ⟨rfl, hx1⟩
    have htw1 := Hhtw.out.ext hx1
    have HTW1 := Lib.hid htw1
    obtain ⟨z0, z1, z2, -, -, -, -, -, -, -, -, -⟩ := HTW1.out
    have HX1 := Lib.hid (HhE0.out.trans hx1)
    clear hx1 htw1
    go_wp2_with fail
    refine (HhG.out _ HX1.out).mono ?_
    rintro e w2 ⟨rfl, hx2⟩
    clear z0 z1 z2
    obtain ⟨z0, z1, z2, -, -, -, -, -, -, -, -, -⟩ := HTW1.out.ext hx2
    have HX2 := Lib.hid (HX1.out.trans hx2)
    clear hx2
    go_wp2_with fail
    refine (HhM.out _ HX2.out).mono ?_
    rintro e w3 ⟨rfl, hx3⟩
    go_wp2_with fail
    go_ret
    exact ⟨rfl, HX2.out.trans hx3⟩
  have hfz : ∀ W, Ext ((w.alloc (.cells #[.int .i64 f.arch, .slice av f.rules.length cv, .int .u32 (f.dflt : Int)] 25)).alloc (.cells #[.int .u32 (d.nr : Int), .int .u32 (d.ar : Int), .int .u64 (d.ip : Int), .int .u64 (d.a0 : Int), .int .u64 (d.a1 : Int), .int .u64 (d.a2 : Int), .int .u64 (d.a3 : Int), .int .u64 (d.a4 : Int), .int .u64 (d.a5 : Int)] 40)) W → W.frozen? ⟨w.heap.size + 1, 0, none⟩ = false := fun W hW => (World.frozen?_of_block (a := ⟨w.heap.size + 1, 0, none⟩) (hW.block (by simp))).trans (by simp [go_sem])
  have hEm := fun W (hx : Ext w W) => Emit_calls f _ HF.out hm W (rdRR_ext hx HU.out)
  have hRu := fun d hd q hq v W (h : Rd W 4 encY v ((emS f (treeF f)).map SS.fin)) => run_steps HF.out hm d hd q hq v W h
  have hFd := fun nr W (hx : Ext w W) => Find_calls f _ nr hl hlr W (rdRR_ext hx HU.out)
  obtain ⟨-, -, h400, -, -⟩ := may_rules hm
  have hrc := fun W (hx : Ext w W) => rdR_cell (rdRR_ext hx HU.out)
  rw [hm] at hM
  unfold datV at hRu ⊢
  have HhG := Lib.hid hG
  clear hG
  have Hhgr := Lib.hid hgr
  clear hgr
  have HhM := Lib.hid hM
  clear hM
  have Hhm := Lib.hid hm
  clear hm
  have Hhfz := Lib.hid hfz
  clear hfz
  have HhEm := Lib.hid hEm
  clear hEm
  have HhRu := Lib.hid hRu
  clear hRu
  have HhFd := Lib.hid hFd
  clear hFd
  have Hhrc := Lib.hid hrc
  clear hrc
  have Hhtw := Lib.hid htw
  clear htw
  have HhE0 := Lib.hid hE0
  clear hE0
  have Hhlr := Lib.hid hlr
  clear hlr
  go_enter Try.func13, Try.ntmps13
  go_wp2_with fail
  refine (HAW.out _).mono ?_
  rintro e w1 ⟨rfl, hx1⟩
  have htw1 := Hhtw.out.ext hx1
  have HTW1 := Lib.hid htw1
  obtain ⟨z0, z1, z2, -, -, -, -, -, -, -, -, -⟩ := HTW1.out
  have HX1 := Lib.hid (HhE0.out.trans hx1)
  have HY1 := Lib.hid hx1
  clear hx1 htw1
  go_wp2_with fail
  refine (HhG.out _ HX1.out).mono ?_
  rintro e w2 ⟨rfl, hx2⟩
  clear z0 z1 z2
  have htw2 := HTW1.out.ext hx2
  have HTW2 := Lib.hid htw2
  obtain ⟨z0, z1, z2, -, -, -, -, -, -, -, -, -⟩ := HTW2.out
  have HX2 := Lib.hid (HX1.out.trans hx2)
  have HY2 := Lib.hid (HY1.out.trans hx2)
  clear hx2 htw2
  go_wp2_with fail
  refine (HhM.out _ HX2.out).mono ?_
  rintro e w3 ⟨rfl, hx3⟩
  clear z0 z1 z2
  have htw3 := HTW2.out.ext hx3
  have HTW3 := Lib.hid htw3
  obtain ⟨z0, z1, z2, c0, -, -, -, -, -, -, -, -⟩ := HTW3.out
  have HX3 := Lib.hid (HX2.out.trans hx3)
  have hfz3 := Hhfz.out _ (HY2.out.trans hx3)
  clear hx3 htw3
  have hjoin : ∃ d' : Dat, OkD d' := ⟨d, HD.out⟩
  by_cases hi : 0 ≤ i ∧ i < (f.rules.length : Int)
  focus
    obtain ⟨k, rfl⟩ : ∃ k : Nat, i = (k : Int) := ⟨i.toNat, by omega⟩
    have hkl : k < f.rules.length := by omega
    have hcc := Hhrc.out _ HX3.out
    obtain ⟨a', c', e1, -, hcc⟩ := hcc
    simp only [Value.slice.injEq, true_and] at e1
    obtain ⟨rfl, rfl⟩ := e1
    obtain ⟨b, o, ut, rfl, n1, -, -, -⟩ := hcc k hkl
    have htw4 := HTW3.out.nr f.rules[k].nr
    have hx4 := HX3.out.setCell (p := ⟨w.heap.size + 1, 0, none⟩) (by simp) (.int .u32 (f.rules[k].nr : Int))
    have hd4 : OkD { d with nr := f.rules[k].nr } := { HD.out with nr := (HF.out.r _ (List.getElem_mem hkl)).n }
    clear hcc
    go_upto_region 7 with fail
    generalize w3.setCell ⟨w.heap.size + 1, 0, none⟩ (.int .u32 (f.rules[k].nr : Int)) = w4 at *
    generalize ({ d with nr := f.rules[k].nr } : Dat) = d4 at *
    have HTW4 := Lib.hid htw4
    have HX4 := Lib.hid hx4
    have HD4 := Lib.hid hd4
    clear htw4 hx4 hd4 n1
  rotate_left 1
  focus
    have HTW4 := HTW3
    have HX4 := HX3
    have HD4 := HD
    by_cases hi0 : 0 ≤ i
    focus
      have hi1 : ¬ i < (f.rules.length : Int) := fun h => hi ⟨hi0, h⟩
      go_upto_region 7 with fail
    rotate_left 1
    focus
      go_upto_region 7 with fail
  all_goals
    clear z0 z1 z2 c0 hfz3
    obtain ⟨z0, z1, z2, c0, c1, c2, c3, c4, c5, c6, c7, c8⟩ := HTW4.out
    go_wp2_with fail
    go_loop [7, 8] (fun most k => ∃ q kk : Nat, kk = 2 ^ q ∧ most = .int .i64 ((9 + q : Nat) : Int) ∧ k = .int .i64 kk ∧ q < kk ∧ kk ≤ 1602) (fun _ k => 2000 - (intOf k).toNat)
    case atStart => exact ⟨0, 1, rfl, rfl, rfl, by omega, by omega⟩
    case round =>
      obtain ⟨q, kk, hkk, rfl, rfl, hq, hk16⟩ := hrel
      by_cases hlt : kk < 2 * f.rules.length + 1
      · have HKK := Lib.hid hkk
        clear hkk
        go_wp2_with fail
        go_round
        case rel => exact ⟨q + 1, 2 * kk, by rw [HKK.out, Nat.pow_succ]; omega, by go_num, by go_num, by omega, by omega⟩
        case measure => simp [intOf]; omega
      · have hqq : 2 * f.rules.length + 1 ≤ 2 ^ q := by rw [← hkk]; omega
        have Hhqq := Lib.hid hqq
        clear hqq
        clear hkk
        go_wp2_with fail
        refine (HhFd.out _ _ HX4.out).mono ?_
        rintro e w5 ⟨r, ar, cr, rfl, hro, hx5, hfn⟩
        have htst := tst_fnd hfn
        have hrl : r.tests.length ≤ 1000 := by
          rcases hfn with ⟨-, rfl⟩ | ⟨j, hj, -, rfl⟩
          · simp
          · exact Hhlr.out _ (List.getElem_mem hj)
        have HX5 := Lib.hid (HX4.out.trans (hx5.alloc (.cells #[.int .u32 (r.nr : Int), .slice ar r.tests.length cr, .int .u32 (r.action : Int)] 34)))
        have HTW5 := Lib.hid (HTW4.out.ext (hx5.alloc (.cells #[.int .u32 (r.nr : Int), .slice ar r.tests.length cr, .int .u32 (r.action : Int)] 34)))
        clear z0 z1 z2 c0 c1 c2 c3 c4 c5 c6 c7 c8 hro hfn hx5
        obtain ⟨z0, z1, z2, -, -, -, -, -, -, -, -, -⟩ := HTW5.out
        generalize r.tests.length = rl at *
        have Hhtst := Lib.hid htst
        clear htst
        generalize hbv : decide (0 ≤ idxR _ f.rules 0) = bv at *
        cases bv
        all_goals
          go_wp2_with fail
          refine (HhEm.out _ HX5.out).mono ?_
          rintro e w6 ⟨v6, rfl, hx6, hr6⟩
          have HTW6 := Lib.hid (HTW5.out.ext hx6)
          have HX6 := Lib.hid (HX5.out.trans hx6)
          have HR6 := Lib.hid hr6
          clear hx6 hr6 z0 z1 z2
          obtain ⟨-, -, -, c0, c1, c2, c3, c4, c5, c6, c7, c8⟩ := HTW6.out
          go_wp2_with fail
          refine (HhRu.out _ HD4.out q Hhqq.out _ _ HR6.out).mono ?_
          rintro e w7 ⟨st, rfl, ⟨hs1, hs2⟩, hx7⟩
          rw [Hhtst.out] at hs2
          simp only [if_true, if_false, Bool.false_eq_true] at hs2
          have HX7 := Lib.hid (HX6.out.trans hx7)
          clear hx7 c0 c1 c2 c3 c4 c5 c6 c7 c8
          go_wp2_with fail
          go_ret
          first
            | (have e1 : decide ((st : Int) ≤ 9 + (q : Int)) = true := decide_eq_true (by omega)
               rw [e1]
               exact ⟨rfl, HX7.out⟩)
            | (have e1 : decide ((st : Int) ≤ 9 + (q : Int) + 7 * (rl : Int)) = true := decide_eq_true (by omega)
               rw [e1]
               exact ⟨rfl, HX7.out⟩)
end L25M
end Go.Proofs.Ytkmhfjnjfghnjaa

/- Layer 25: the walk of the law CodeEmit. -/
namespace Go.Proofs.Ytkmhfjnjfghnjaa
open Go.RowKit V
attribute [local go_sem] Oper.semAt_some Option.isSome_some
namespace L25M
open L21
open L25 (Sy encY encY_len OkY Dat datV OkD mayA runA runE)
open L25W
theorem row_store {W : World} {b n : Nat} {v x : Value} {xs : List Sy} (h : Rd W 4 encY v xs) (hc : W.cell? ⟨b, 0, none⟩ = some (.int .u32 (n : Int))) : Rd (W.setCell ⟨b, 0, none⟩ x) 4 encY v xs := by
  obtain ⟨a, c, h1, h2, h3, h4⟩ := h
  refine ⟨a, c, h1, h2, h3, fun i hi => ?_⟩
  obtain ⟨g, o, e, k⟩ := h4 i hi
  refine ⟨g, o, e, fun j hj => ?_⟩
  have hk := k j hj
  rw [World.cell?_setCell_other _ _ _ _ (fun e' => ?_)]
  · exact hk
  · obtain ⟨rfl, e2, -⟩ := Addr.mk.inj e'
    rw [← e'] at hk
    have hj0 : j = 0 := by omega
    subst hj0
    rw [hc] at hk
    have := Option.some.inj hk
    simp [encY] at this
set_option maxRecDepth 100000 in
set_option maxHeartbeats 4000000 in
theorem CodeEmit_calls (f : Filter) (u : Value) (hf : OkF f) (d : Dat) (hd : OkD d) (i : Int) (w : World) (hu : RdR w 3 (IsR w) u f.rules) :
    Calls Try.prog 11 #[.agg #[.int .i64 f.arch, u, .int .u32 (f.dflt : Int)], datV d, .int .i64 i] w fun e w' => e = .returned (.bool true) ∧ Ext w w' := by
  have hG := fun W (hx : Ext w W) => Great25_calls f u hf W (rdRR_ext hx hu)
  have htw := two_new w f u d
  have hE0 : Ext w ((w.alloc (.cells #[.int .i64 f.arch, u, .int .u32 (f.dflt : Int)] 25)).alloc (.cells #[.int .u32 (d.nr : Int), .int .u32 (d.ar : Int), .int .u64 (d.ip : Int), .int .u64 (d.a0 : Int), .int .u64 (d.a1 : Int), .int .u64 (d.a2 : Int), .int .u64 (d.a3 : Int), .int .u64 (d.a4 : Int), .int .u64 (d.a5 : Int)] 40)) := ((Ext.refl _).alloc _).alloc _
  obtain ⟨av, cv, hua, -, -⟩ := rdR_cell hu
  have HU := Lib.hid hu
  clear hu
  subst hua
  have HF := Lib.hid hf
  have HD := Lib.hid hd
  clear hf hd
  cases hgr : great 0 f.rules
  case true =>
    rw [hgr] at hG
    unfold datV
    have HhG := Lib.hid hG
    clear hG
    have Hhgr := Lib.hid hgr
    clear hgr
    have Hhtw := Lib.hid htw
    clear htw
    have HhE0 := Lib.hid hE0
    clear hE0
    go_enter Try.func11, Try.ntmps11
    go_upto_region 1 with fail
    obtain ⟨z0, z1, z2, -, -, -, -, -, -, -, -, -⟩ := Hhtw.out
    go_wp2_with fail
    refine (HhG.out _ HhE0.out).mono ?_
    rintro e w2 ⟨rfl, hx2⟩
    go_wp2_with fail
    go_ret
    exact ⟨rfl, HhE0.out.trans hx2⟩
  rw [hgr] at hG
  obtain ⟨hl, hlr⟩ := great_bd hgr
  have hC := fun W (hx : Ext w W) => Copy_calls f _ hl hlr W (rdRR_ext hx HU.out)
  have hS := fun v W (hx : Ext w W) (h : RdR W 3 (IsR W) v f.rules) => refSame_calls f f v _ HF.out W h (rdRR_ext hx HU.out)
  rw [sameF_refl] at hS
  have hrM := fun W (hx : Ext w W) => L21.refMay_calls f _ HF.out W (rdRR_ext hx HU.out)
  cases hm : mayF f
  case false =>
    have hEm := fun v W (h : RdR W 3 (IsR W) v f.rules) => Emit_none f v HF.out hm W h
    rw [hm] at hrM
    unfold datV
    have HhG := Lib.hid hG
    clear hG
    have Hhgr := Lib.hid hgr
    clear hgr
    have HhC := Lib.hid hC
    clear hC
    have HhS := Lib.hid hS
    clear hS
    have HhrM := Lib.hid hrM
    clear hrM
    have HhEm := Lib.hid hEm
    clear hEm
    have Hhm := Lib.hid hm
    clear hm
    have Hhtw := Lib.hid htw
    clear htw
    have HhE0 := Lib.hid hE0
    clear hE0
    go_enter Try.func11, Try.ntmps11
    go_upto_region 1 with fail
    obtain ⟨z0, z1, z2, -, -, -, -, -, -, -, -, -⟩ := Hhtw.out
    go_wp2_with fail
    refine (HhG.out _ HhE0.out).mono ?_
    rintro e w2 ⟨rfl, hx2⟩
    have HX2 := Lib.hid (HhE0.out.trans hx2)
    have HTW2 := Lib.hid (Hhtw.out.ext hx2)
    clear hx2 z0 z1 z2
    obtain ⟨z0, z1, z2, -, -, -, -, -, -, -, -, -⟩ := HTW2.out
    go_wp2_with fail
    refine (HhC.out _ HX2.out).mono ?_
    rintro e w3 ⟨a3, c3, ps, rfl, hps, hrf, hx3⟩
    have hx33 := (Ext.refl w3).alloc (.cells #[.int .i64 f.arch, .slice a3 ps.length c3, .int .u32 (f.dflt : Int)] 25)
    have hnew := heap_alloc_new w3 (.cells #[.int .i64 f.arch, .slice a3 ps.length c3, .int .u32 (f.dflt : Int)] 25)
    obtain ⟨W3, hW3⟩ : ∃ W3, W3 = w3.alloc (.cells #[.int .i64 f.arch, .slice a3 ps.length c3, .int .u32 (f.dflt : Int)] 25) := ⟨_, rfl⟩
    rw [← hW3] at hx33 hnew
    have hr3 := (hrf.ext hx33).rd
    rw [hps] at hr3
    have HR3 := Lib.hid hr3
    have HTW3 := Lib.hid (HTW2.out.ext (hx3.trans hx33))
    have HX3 := Lib.hid (HX2.out.trans (hx3.trans hx33))
    have HW3 := Lib.hid hW3
    have HNW := Lib.hid hnew
    clear hps hrf hx3 hx33 hr3 hW3 z0 z1 z2 hnew
    go_upto_region 4 with fail
    rw [← HW3.out]
    have m0 := blk_cell HNW.out 0
    have m1 := blk_cell HNW.out 1
    have m2 := blk_cell HNW.out 2
    simp at m0 m1 m2
    go_wp2_with fail
    refine (HhEm.out _ _ HR3.out).mono ?_
    rintro e w4 ⟨rfl, hx4⟩
    have HR4 := Lib.hid (rdRR_ext hx4 HR3.out)
    have HX4 := Lib.hid (HX3.out.trans hx4)
    have HTW4 := Lib.hid (HTW3.out.ext hx4)
    replace m0 := hx4.cell m0; replace m1 := hx4.cell m1; replace m2 := hx4.cell m2
    clear hx4
    obtain ⟨z0, z1, z2, -, -, -, -, -, -, -, -, -⟩ := HTW4.out
    go_wp2_with fail
    refine (HhS.out _ _ HX4.out HR4.out).mono ?_
    rintro e w5 ⟨rfl, hx5⟩
    have HX5 := Lib.hid (HX4.out.trans hx5)
    have HTW5 := Lib.hid (HTW4.out.ext hx5)
    clear hx5 z0 z1 z2 m0 m1 m2
    obtain ⟨z0, z1, z2, -, -, -, -, -, -, -, -, -⟩ := HTW5.out
    go_wp2_with fail
    refine (HhrM.out _ HX5.out).mono ?_
    rintro e w6 ⟨rfl, hx6⟩
    go_wp2_with fail
    go_ret
    exact ⟨rfl, HX5.out.trans hx6⟩
  have hEm := fun v W (h : RdR W 3 (IsR W) v f.rules) => Emit_calls f v HF.out hm W h
  obtain ⟨ma, mok, mlen⟩ := emit_facts HF.out hm
  have hel := emit_len HF.out hm
  obtain ⟨-, -, h400, -, -⟩ := may_rules hm
  have hRE : runE ((emS f (treeF f)).map SS.fin) = 0 := by unfold runE; rw [if_pos ma]
  have hRu := fun (x : Dat) (hx : OkD x) v W (h : Rd W 4 encY v ((emS f (treeF f)).map SS.fin)) => L25.refRun_calls v _ mok x hx (by omega) W h
  have hRA : ∀ x : Dat, OkD x → (runA x ((emS f (treeF f)).map SS.fin)).1 = denA f x := fun x hx => by
    have hnr : ∀ r ∈ f.rules, r.nr < 4294967296 := fun r hr => (HF.out.r r hr).n
    obtain ⟨-, -, -, -, hT⟩ := treeF_facts hm hnr
    obtain ⟨st, h4, -, -⟩ := emit_run hx hm hT (treeF_leads hm hnr hx.nr (q := 10) (by show _ ≤ 1024; omega)).1
    rw [h4]
  have hM25 := fun v W (h : Rd W 4 encY v ((emS f (treeF f)).map SS.fin)) => L25.refMay_calls v _ (by omega) W h
  have hDn := fun (x : Dat) (hx : OkD x) W (hW : Ext w W) => refDenote_calls f _ HF.out x hx W (rdRR_ext hW HU.out)
  have hrc := fun W (hx : Ext w W) => rdR_cell (rdRR_ext hx HU.out)
  have hms := fun k (hk : k < f.rules.length) => most_step hk
  rw [hm] at hrM
  rw [ma] at hM25
  rw [hRE] at hRu
  generalize (emS f (treeF f)).map SS.fin = row at *
  unfold datV at hRu hDn ⊢
  have HhG := Lib.hid hG
  clear hG
  have Hhgr := Lib.hid hgr
  clear hgr
  have HhC := Lib.hid hC
  clear hC
  have HhS := Lib.hid hS
  clear hS
  have HhrM := Lib.hid hrM
  clear hrM
  have HhEm := Lib.hid hEm
  clear hEm
  have HhRu := Lib.hid hRu
  clear hRu
  have HhRA := Lib.hid hRA
  clear hRA
  have HhM25 := Lib.hid hM25
  clear hM25
  have HhDn := Lib.hid hDn
  clear hDn
  have Hhrc := Lib.hid hrc
  clear hrc
  have hmt := fun k => most_take hlr h400 k
  have Hhmt := Lib.hid hmt
  clear hmt
  have Hhms := Lib.hid hms
  clear hms
  have Hhm := Lib.hid hm
  clear hm
  have Hhtw := Lib.hid htw
  clear htw
  have HhE0 := Lib.hid hE0
  clear hE0
  have Hhlr := Lib.hid hlr
  clear hlr
  have Hmok := Lib.hid mok
  clear mok
  clear ma hRE
  go_enter Try.func11, Try.ntmps11
  go_upto_region 1 with fail
  obtain ⟨z0, z1, z2, -, -, -, -, -, -, -, -, -⟩ := Hhtw.out
  go_wp2_with fail
  refine (HhG.out _ HhE0.out).mono ?_
  rintro e w2 ⟨rfl, hx2⟩
  have HX2 := Lib.hid (HhE0.out.trans hx2)
  have HZ2 := Lib.hid hx2
  have HTW2 := Lib.hid (Hhtw.out.ext hx2)
  clear hx2 z0 z1 z2
  obtain ⟨z0, z1, z2, -, -, -, -, -, -, -, -, -⟩ := HTW2.out
  go_wp2_with fail
  refine (HhC.out _ HX2.out).mono ?_
  rintro e w3 ⟨a3, c3, ps, rfl, hps, hrf, hx3⟩
  have hx33 := (Ext.refl w3).alloc (.cells #[.int .i64 f.arch, .slice a3 ps.length c3, .int .u32 (f.dflt : Int)] 25)
  have hnew := heap_alloc_new w3 (.cells #[.int .i64 f.arch, .slice a3 ps.length c3, .int .u32 (f.dflt : Int)] 25)
  obtain ⟨W3, hW3⟩ : ∃ W3, W3 = w3.alloc (.cells #[.int .i64 f.arch, .slice a3 ps.length c3, .int .u32 (f.dflt : Int)] 25) := ⟨_, rfl⟩
  rw [← hW3] at hx33 hnew
  have hr3 := (hrf.ext hx33).rd
  rw [hps] at hr3
  have HR3 := Lib.hid hr3
  have HTW3 := Lib.hid (HTW2.out.ext (hx3.trans hx33))
  have HX3 := Lib.hid (HX2.out.trans (hx3.trans hx33))
  have HZ3 := Lib.hid (HZ2.out.trans (hx3.trans hx33))
  have HW3 := Lib.hid hW3
  have HNW := Lib.hid hnew
  clear hps hrf hx3 hx33 hr3 hW3 z0 z1 z2 hnew
  go_upto_region 4 with fail
  rw [← HW3.out]
  have m0 := blk_cell HNW.out 0
  have m1 := blk_cell HNW.out 1
  have m2 := blk_cell HNW.out 2
  simp at m0 m1 m2
  go_wp2_with fail
  refine (HhEm.out _ _ HR3.out).mono ?_
  rintro e w4 ⟨v4, rfl, hx4, hr4⟩
  obtain ⟨ay, cy, rfl, -, -⟩ := L25.rdY_cell hr4
  have HRW4 := Lib.hid hr4
  have HR4 := Lib.hid (rdRR_ext hx4 HR3.out)
  have HX4 := Lib.hid (HX3.out.trans hx4)
  have HZ4 := Lib.hid (HZ3.out.trans hx4)
  have HTW4 := Lib.hid (HTW3.out.ext hx4)
  replace m0 := hx4.cell m0; replace m1 := hx4.cell m1; replace m2 := hx4.cell m2
  clear hx4 hr4
  obtain ⟨z0, z1, z2, -, -, -, -, -, -, -, -, -⟩ := HTW4.out
  go_wp2_with fail
  refine (HhS.out _ _ HX4.out HR4.out).mono ?_
  rintro e w5 ⟨rfl, hx5⟩
  have HX5 := Lib.hid (HX4.out.trans hx5)
  have HZ5 := Lib.hid (HZ4.out.trans hx5)
  have HTW5 := Lib.hid (HTW4.out.ext hx5)
  have HRW5 := Lib.hid (Rd.ext hx5 HRW4.out)
  clear hx5 z0 z1 z2 m0 m1 m2
  obtain ⟨z0, z1, z2, -, -, -, -, -, -, -, -, -⟩ := HTW5.out
  go_wp2_with fail
  refine (HhrM.out _ HX5.out).mono ?_
  rintro e w6 ⟨rfl, hx6⟩
  have HX6 := Lib.hid (HX5.out.trans hx6)
  have HZ6 := Lib.hid (HZ5.out.trans hx6)
  have HTW6 := Lib.hid (HTW5.out.ext hx6)
  have HRW6 := Lib.hid (Rd.ext hx6 HRW5.out)
  clear hx6 z0 z1 z2
  obtain ⟨z0, z1, z2, -, -, -, -, -, -, -, -, -⟩ := HTW6.out
  go_wp2_with fail
  go_loop [10, 11] (fun n k => ∃ k' : Nat, k' ≤ f.rules.length ∧ k = .int .i64 k' ∧ n = .int .i64 ((10 + most (f.rules.take k') : Nat) : Int)) (fun _ k => f.rules.length - (intOf k).toNat)
  case atStart => exact ⟨0, by omega, rfl, rfl⟩
  case round =>
    obtain ⟨k, hk, rfl, rfl⟩ := hrel
    have hmb := Hhmt.out k
    have hmb1 := Hhmt.out (k + 1)
    by_cases hlt : k < f.rules.length
    · have hcc := Hhrc.out _ HX6.out
      obtain ⟨a', c', e1, -, hcc⟩ := hcc
      simp only [Value.slice.injEq, true_and] at e1
      obtain ⟨rfl, rfl⟩ := e1
      obtain ⟨b, o, ut, rfl, n1, n2, -, hut⟩ := hcc k hlt
      obtain ⟨at', ct, rfl, -, -⟩ := rdT_cell hut
      have hst := Hhms.out k hlt
      have hr1 := Hhlr.out _ (List.getElem_mem hlt)
      generalize most (f.rules.take k) = mk at *
      have HB1 := Lib.hid hmb1
      clear hmb1
      generalize f.rules[k].tests.length = tl at *
      have HST := Lib.hid hst
      clear hcc hut hst n1
      go_wp2_with fail
      go_round
      case rel => exact ⟨k + 1, by omega, by go_num, congrArg (Value.int .i64) (by have := HST.out; omega)⟩
      case measure => simp [intOf]; omega
    · obtain rfl : k = f.rules.length := by omega
      rw [List.take_length] at *
      have hd1 : decide (10 + (most f.rules : Int) < (row.length : Int)) = false := decide_eq_false (by omega)
      go_wp2_with fail
      refine (HhM25.out _ _ HRW6.out).mono ?_
      rintro e w7 ⟨rfl, hx7⟩
      have HX7 := Lib.hid (HX6.out.trans hx7)
      have HZ7 := Lib.hid (HZ6.out.trans hx7)
      have HTW7 := Lib.hid (HTW6.out.ext hx7)
      have HRW7 := Lib.hid (Rd.ext hx7 HRW6.out)
      clear hx7 z0 z1 z2
      obtain ⟨z0, z1, z2, c0, -, -, -, -, -, -, -, -⟩ := HTW7.out
      obtain ⟨W8, hW8⟩ : ∃ W8, W8 = w7.alloc (.cells #[.int .u32 (d.nr : Int)] 23) := ⟨_, rfl⟩
      have hx8 : Ext w7 W8 := by rw [hW8]; exact (Ext.refl _).alloc _
      have HW8 := Lib.hid hW8
      have HX8 := Lib.hid (HX7.out.trans hx8)
      have HZ8 := Lib.hid (HZ7.out.trans hx8)
      have HTW8 := Lib.hid (HTW7.out.ext hx8)
      have HRW8 := Lib.hid (Rd.ext hx8 HRW7.out)
      have hn8 : W8.cell? ⟨w7.heap.size, 0, none⟩ = some (.int .u32 (d.nr : Int)) := by rw [hW8]; exact blk_cell (heap_alloc_new w7 _) 0
      have hsz : w.heap.size + 1 < w7.heap.size := World.block_lt_of_cell? _ ⟨w.heap.size + 1, 0, none⟩ c0
      clear hW8 hx8
      go_upto_region 17 with fail
      rw [← HW8.out]
      clear z0 z1 z2 c0
      obtain ⟨z0, z1, z2, c0, -, -, -, -, -, -, -, -⟩ := HTW8.out
      have hf8 : W8.frozen? ⟨w.heap.size + 1, 0, none⟩ = false := (World.frozen?_of_block (a := ⟨w.heap.size + 1, 0, none⟩) (HZ8.out.block (by simp))).trans (by simp [go_sem])
      by_cases hi : 0 ≤ i ∧ i < (f.rules.length : Int)
      focus
        obtain ⟨k0, rfl⟩ : ∃ k : Nat, i = (k : Int) := ⟨i.toNat, by omega⟩
        have hkl : k0 < f.rules.length := by omega
        have hcc := Hhrc.out _ HX8.out
        obtain ⟨a', c', e1, -, hcc⟩ := hcc
        simp only [Value.slice.injEq, true_and] at e1
        obtain ⟨rfl, rfl⟩ := e1
        obtain ⟨b, o, ut, hav, n1, -, -, -⟩ := hcc k0 hkl
        have hnl2 := (HF.out.r _ (List.getElem_mem hkl)).n
        generalize f.rules[k0].nr = nr at *
        obtain ⟨x2, hx2, hx2l⟩ : ∃ x : Nat, IntKind.u32.wrap ((nr : Int) - 1) = (x : Int) ∧ x < 4294967296 := by
          have h1 := Int.emod_nonneg ((nr : Int) - 1) (b := 4294967296) (by decide)
          have h2 := Int.emod_lt_of_pos ((nr : Int) - 1) (b := 4294967296) (by decide)
          refine ⟨(((nr : Int) - 1) % 4294967296).toNat, ?_, by omega⟩
          rw [Int.toNat_of_nonneg h1]; rfl
        obtain ⟨x3, hx3, hx3l⟩ : ∃ x : Nat, IntKind.u32.wrap ((nr : Int) + 1) = (x : Int) ∧ x < 4294967296 := by
          have h1 := Int.emod_nonneg ((nr : Int) + 1) (b := 4294967296) (by decide)
          have h2 := Int.emod_lt_of_pos ((nr : Int) + 1) (b := 4294967296) (by decide)
          refine ⟨(((nr : Int) + 1) % 4294967296).toNat, ?_, by omega⟩
          rw [Int.toNat_of_nonneg h1]; rfl
        have z1' := z1
        rw [hav] at z1'
        clear hcc z1
        go_upto_region 20 with fail
        obtain ⟨WC, hWC⟩ : ∃ WC, WC = W8.alloc (.cells #[.int .u32 (d.nr : Int), .int .u32 (nr : Int), .int .u32 (x2 : Int), .int .u32 (x3 : Int)] 23) := ⟨_, rfl⟩
        have hnew := heap_alloc_new W8 (.cells #[.int .u32 (d.nr : Int), .int .u32 (nr : Int), .int .u32 (x2 : Int), .int .u32 (x3 : Int)] 23)
        have hxC : Ext W8 WC := by rw [hWC]; exact (Ext.refl _).alloc _
        rw [← hWC] at hnew
        have n0 := blk_cell hnew 0
        have n1 := blk_cell hnew 1
        have n2 := blk_cell hnew 2
        have n3 := blk_cell hnew 3
        simp at n0 n1 n2 n3
        rw [← hWC]
        have hsz8 := HX8.out.size
        have hsz9 : w7.heap.size ≤ W8.heap.size := by rw [HW8.out]; simp
        obtain ⟨g, nrs, hnl, hng, hnc, hgn⟩ : ∃ (g : Nat) (nrs : List Nat), nrs.length = 4 ∧ g = W8.heap.size ∧ (∀ j (h : j < nrs.length), WC.cell? ⟨g, j, none⟩ = some (.int .u32 (nrs[j] : Int))) ∧ ∀ x ∈ nrs, x < 4294967296 := ⟨_, [d.nr, nr, x2, x3], rfl, rfl, fun j hj => by
          match j, hj with
          | 0, _ => exact n0
          | 1, _ => exact n1
          | 2, _ => exact n2
          | 3, _ => exact n3, fun x hx => by
          simp at hx
          have := HD.out.nr
          rcases hx with rfl | rfl | rfl | rfl <;> omega⟩
        rw [← hng]
        have hsl : Value.slice (some ⟨g, 0, none⟩) 4 4 = Value.slice (some ⟨g, 0, none⟩) nrs.length nrs.length := by rw [hnl]
        rw [hsl]
        clear hsl
        have hgb : g ≠ w.heap.size + 1 := by omega
        have HNL : Hid (nrs.length ≤ 4) := Lib.hid (by omega)
        have HNC0 := Lib.hid hnc
        have hXC := HX8.out.trans hxC
        have hTWC := HTW8.out.ext hxC
        have hRWC := Rd.ext hxC HRW8.out
        have hfC := hxC.frozen c0 hf8
        clear hnl hn8 hng HX8 HTW8 HRW8 HZ8 HW8 hnc hf8 z0 z1' z2 c0 hi hsz8 hsz9 hxC hnew n0 n1 n2 n3 hWC hav
      rotate_left 1
      focus
        by_cases hi0 : 0 ≤ i
        focus
          have hi1 : ¬ i < (f.rules.length : Int) := fun h => hi ⟨hi0, h⟩
          go_upto_region 20 with fail
        rotate_left 1
        focus
          go_upto_region 20 with fail
        all_goals
          obtain ⟨g, nrs, hnl, hng, hnc, hgn⟩ : ∃ (g : Nat) (nrs : List Nat), nrs.length = 1 ∧ g = w7.heap.size ∧ (∀ j (h : j < nrs.length), W8.cell? ⟨g, j, none⟩ = some (.int .u32 (nrs[j] : Int))) ∧ ∀ x ∈ nrs, x < 4294967296 := ⟨_, [d.nr], rfl, rfl, fun j hj => by
            obtain rfl : j = 0 := by simpa using hj
            exact hn8, fun x hx => by simp at hx; subst hx; exact HD.out.nr⟩
          rw [← hng]
          have hsl : Value.slice (some ⟨g, 0, none⟩) 1 1 = Value.slice (some ⟨g, 0, none⟩) nrs.length nrs.length := by rw [hnl]
          rw [hsl]
          clear hsl
          have hgb : g ≠ w.heap.size + 1 := by omega
          have HNL : Hid (nrs.length ≤ 4) := Lib.hid (by omega)
          have HNC0 := Lib.hid hnc
          have hXC := HX8.out
          have hTWC := HTW8.out
          have hRWC := HRW8.out
          have hfC := hf8
          generalize W8 = WC at *
          clear hnl hn8 hng HX8 HTW8 HRW8 HZ8 HW8 hnc hf8 z0 z1 z2 c0 hi
      all_goals
        go_wp2_with fail
        go_loopw [14] (fun j wr => ∃ (k x : Nat), k ≤ nrs.length ∧ j = .int .i64 k ∧ Ext w wr ∧ Two wr w.heap.size f (.slice av f.rules.length cv) { d with nr := x } ∧ x < 4294967296 ∧ Rd wr 4 encY (.slice ay row.length cy) row ∧ (∀ j (h : j < nrs.length), wr.cell? ⟨g, j, none⟩ = some (.int .u32 (nrs[j] : Int))) ∧ wr.frozen? ⟨w.heap.size + 1, 0, none⟩ = false) (fun j _ => nrs.length - (intOf j).toNat)
        case atStart => exact ⟨0, d.nr, by omega, rfl, hXC, hTWC, HD.out.nr, hRWC, HNC0.out, hfC⟩
        case round =>
          obtain ⟨k, x, hk, rfl, hx, htwx, hxl, hrw, hnc2, hfz⟩ := hrel
          have HX := Lib.hid hx
          have HTW := Lib.hid htwx
          have HRW := Lib.hid hrw
          have HNC := Lib.hid hnc2
          clear hx htwx hrw hnc2
          by_cases hlt : k < nrs.length
          · have hnk := HNC.out k hlt
            have hnl2 := hgn _ (List.getElem_mem hlt)
            obtain ⟨z0, z1, z2, c0, -, -, -, -, -, -, -, -⟩ := HTW.out
            go_upto_region 24 with fail
            have hzero : wr.cell? ⟨w.heap.size + 1, 0, none⟩ = some (.int .u32 (x : Int)) := c0
            have htw2 := HTW.out.nr nrs[k]
            have hrw2 := row_store (x := .int .u32 (nrs[k] : Int)) HRW.out hzero
            have hx2 : Ext w (wr.setCell ⟨w.heap.size + 1, 0, none⟩ (.int .u32 (nrs[k] : Int))) := HX.out.setCell (p := ⟨w.heap.size + 1, 0, none⟩) (by simp) _
            have hnc3 : ∀ j (h : j < nrs.length), (wr.setCell ⟨w.heap.size + 1, 0, none⟩ (.int .u32 (nrs[k] : Int))).cell? ⟨g, j, none⟩ = some (.int .u32 (nrs[j] : Int)) := fun j hj => by
              rw [World.cell?_setCell_other _ _ _ _ (fun e => hgb (Addr.mk.inj e).1.symm)]
              exact HNC.out j hj
            have hfz3 : (wr.setCell ⟨w.heap.size + 1, 0, none⟩ (.int .u32 (nrs[k] : Int))).frozen? ⟨w.heap.size + 1, 0, none⟩ = false := by simpa [go_sem] using hfz
            have hdk : OkD { d with nr := nrs[k] } := { HD.out with nr := hnl2 }
            generalize hws : wr.setCell ⟨w.heap.size + 1, 0, none⟩ (.int .u32 (nrs[k] : Int)) = ws at *
            clear hws
            have htw3 : Two ws w.heap.size f (.slice av f.rules.length cv) { d with nr := nrs[k] } := htw2
            clear htw2
            generalize nrs[k] = nk at *
            clear z0 z1 z2 c0 hzero hnk hfz
            have HTW3 := Lib.hid htw3
            have HNC3 := Lib.hid hnc3
            clear htw3 hnc3
            obtain ⟨z0, z1, z2, c0, c1, c2, c3, c4, c5, c6, c7, c8⟩ := HTW3.out
            have hRR := HhRu.out { d with nr := nk } hdk _ _ hrw2
            rw [HhRA.out _ hdk] at hRR
            have hDD := HhDn.out { d with nr := nk } hdk
            have HRR := Lib.hid hRR
            have HDD := Lib.hid hDD
            clear hRR hDD
            have hnb := HNL.out
            have HX2 := Lib.hid hx2
            have HRW2 := Lib.hid hrw2
            have HDK := Lib.hid hdk
            clear hx2 hrw2
            go_wp2_with fail
            refine HRR.out.mono ?_
            rintro e wa ⟨rfl, hxa⟩
            have HXA := Lib.hid (HX2.out.trans hxa)
            have HTWA := Lib.hid (HTW3.out.ext hxa)
            have HRWA := Lib.hid (Rd.ext hxa HRW2.out)
            have HNCA : Hid (∀ j (h : j < nrs.length), wa.cell? ⟨g, j, none⟩ = some (.int .u32 (nrs[j] : Int))) := Lib.hid (fun j hj => hxa.cell (HNC3.out j hj))
            have hfa := hxa.frozen c0 hfz3
            clear hxa z0 z1 z2 c0 c1 c2 c3 c4 c5 c6 c7 c8
            obtain ⟨z0, z1, z2, c0, c1, c2, c3, c4, c5, c6, c7, c8⟩ := HTWA.out
            go_wp2_with fail
            refine (HDD.out _ HXA.out).mono ?_
            rintro e wb ⟨rfl, hxb⟩
            have hXB := HXA.out.trans hxb
            have hTWB := HTWA.out.ext hxb
            have hRWB := Rd.ext hxb HRWA.out
            have hNCB : ∀ j (h : j < nrs.length), wb.cell? ⟨g, j, none⟩ = some (.int .u32 (nrs[j] : Int)) := fun j hj => hxb.cell (HNCA.out j hj)
            have hfB := hxb.frozen c0 hfa
            have HK := Lib.hid (show ∃ y : Nat, k + 1 ≤ nrs.length ∧ Value.int .i64 ((k + 1 : Nat) : Int) = .int .i64 ((k + 1 : Nat) : Int) ∧ Ext w wb ∧ Two wb w.heap.size f (.slice av f.rules.length cv) { d with nr := y } ∧ y < 4294967296 ∧ Rd wb 4 encY (.slice ay row.length cy) row ∧ (∀ j (h : j < nrs.length), wb.cell? ⟨g, j, none⟩ = some (.int .u32 (nrs[j] : Int))) ∧ wb.frozen? ⟨w.heap.size + 1, 0, none⟩ = false from ⟨nk, by omega, rfl, hXB, hTWB, hnl2, hRWB, hNCB, hfB⟩)
            clear hxb hXB hTWB hRWB hNCB hfB z0 z1 z2 c0 c1 c2 c3 c4 c5 c6 c7 c8
            go_wp2_with fail
            go_roundw
            case rel =>
              obtain ⟨y, r1, r2, r3⟩ := HK.out
              exact ⟨k + 1, y, r1, by go_num, r3⟩
            case measure => have := HNL.out; simp [intOf]; omega
          · obtain rfl : k = nrs.length := by omega
            go_wp2_with fail
            go_ret
            exact ⟨rfl, HX.out⟩
end L25M
end Go.Proofs.Ytkmhfjnjfghnjaa

