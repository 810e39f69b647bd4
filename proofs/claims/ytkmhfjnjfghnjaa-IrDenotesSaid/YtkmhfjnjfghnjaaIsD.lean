/- Layer 21: the walk of the law IrDenotes. -/
import Derived.Test.YtkmhfjnjfghnjaaIsB
import Derived.Test.YtkmhfjnjfghnjaaIrX
import Derived.Test.YtkmhfjnjfghnjaaIrU
import Derived.Test.YtkmhfjnjfghnjaaIrE
namespace Go.Proofs.Ytkmhfjnjfghnjaa
open Go.RowKit V
namespace L21
open L25 (Dat datV OkD)
theorem xwc {W : World} {p : Addr} {v : Value} (h : W.cell? p = some v) : ∀ x : XW W, x.w.cell? p = some v := fun x => x.h.cell h
set_option maxRecDepth 100000 in
set_option maxHeartbeats 4000000 in
theorem IrDenotes_calls (f : Filter) (u : Value) (hf : OkF f) (d : Dat) (hd : OkD d) (nr : Nat) (w : World) (hu : RdR w 3 (IsR w) u f.rules) :
    Calls Try.prog 5 #[.agg #[.int .i64 f.arch, u, .int .u32 (f.dflt : Int)], datV d, .int .u32 (nr : Int)] w fun e w' => e = .returned (.bool true) ∧ Ext w w' := by
  have hG := fun W (hx : Ext w W) => Great_calls f u hf W (rdRR_ext hx hu)
  have HU := Lib.hid hu
  have HF := Lib.hid hf
  cases hgr : great 0 f.rules
  case true =>
    rw [hgr] at hG
    obtain ⟨av, cv, rfl, -, -⟩ := rdR_cell hu
    unfold datV
    have HhG := Lib.hid hG
    clear hG
    have Hhgr := Lib.hid hgr
    clear hgr
    clear hu hf
    go_enter Try.func5, Try.ntmps5
    go_wp2_with fail
    refine (HhG.out _ (((Ext.refl _).alloc _).alloc _)).mono ?_
    rintro e w1 ⟨rfl, hx1⟩
    go_wp2_with fail
    go_ret
    exact ⟨rfl, (((Ext.refl _).alloc _).alloc _).trans hx1⟩
  rw [hgr] at hG
  obtain ⟨hl, hlr⟩ := great_bd hgr
  have hC := fun W (hx : Ext w W) => Copy_calls f u hl hlr W (rdRR_ext hx hu)
  have hRF := fun W (hx : Ext w W) => refFind_calls f.arch f.dflt u f.rules nr hf.l W (rdRR_ext hx hu)
  have hFd := fun v W (h : RdR W 3 (IsR W) v f.rules) => Find_calls f v nr hl hlr W h
  have hM := fun v W (h : RdR W 3 (IsR W) v f.rules) => May_calls f v hf W h
  have hrM := fun W (hx : Ext w W) => refMay_calls f u hf W (rdRR_ext hx hu)
  have hD := fun v W (h : RdR W 3 (IsR W) v f.rules) => Denote_calls f v hf d hd W h
  have hrD := fun W (hx : Ext w W) => refDenote_calls f u hf d hd W (rdRR_ext hx hu)
  have hS := fun v W (hx : Ext w W) (h : RdR W 3 (IsR W) v f.rules) => refSame_calls f f v u hf W h (rdRR_ext hx hu)
  have hHo := fun (t : Test) (ht : OkT t) W => Holds_calls t ht d hd W
  have hrHo := fun (t : Test) (ht : OkT t) W => refHolds_calls t ht d hd W
  have hok := hf.r
  rw [sameF_refl] at hS
  obtain ⟨ar, rs, df⟩ := f
  dsimp only at *
  obtain ⟨av, cv, rfl, -, hca⟩ := rdR_cell hu
  generalize mayF ⟨ar, rs, df⟩ = mf at *
  generalize denA ⟨ar, rs, df⟩ d = dn at *
  unfold datV at hD hrD hHo hrHo ⊢
  have HhG := Lib.hid hG
  clear hG
  have HhC := Lib.hid hC
  clear hC
  have HhRF := Lib.hid hRF
  clear hRF
  have HhFd := Lib.hid hFd
  clear hFd
  have HhM := Lib.hid hM
  clear hM
  have HhrM := Lib.hid hrM
  clear hrM
  have HhD := Lib.hid hD
  clear hD
  have HhrD := Lib.hid hrD
  clear hrD
  have HhS := Lib.hid hS
  clear hS
  have HhHo := Lib.hid hHo
  clear hHo
  have HhrHo := Lib.hid hrHo
  clear hrHo
  have Hhok := Lib.hid hok
  clear hok
  have Hhca := Lib.hid hca
  clear hca
  have Hhlr := Lib.hid hlr
  clear hlr
  have Hhgr := Lib.hid hgr
  clear hgr
  clear hu hf
  go_enter Try.func5, Try.ntmps5
  go_wp2_with fail
  refine (HhG.out _ (((Ext.refl _).alloc _).alloc _)).mono ?_
  rintro e w1 ⟨rfl, hx1⟩
  have z0 := hx1.cell (p := ⟨w.heap.size, 0, none⟩) (by simp [go_sem]; rfl)
  have z1 := hx1.cell (p := ⟨w.heap.size, 1, none⟩) (by simp [go_sem]; rfl)
  have z2 := hx1.cell (p := ⟨w.heap.size, 2, none⟩) (by simp [go_sem]; rfl)
  have hcd : Cda w1 (w.heap.size + 1) d := ⟨hx1.cell (by simp [go_sem]), hx1.cell (by simp [go_sem]), hx1.cell (by simp [go_sem]), hx1.cell (by simp [go_sem]), hx1.cell (by simp [go_sem]), hx1.cell (by simp [go_sem]), hx1.cell (by simp [go_sem]), hx1.cell (by simp [go_sem]), hx1.cell (by simp [go_sem])⟩
  have HX1 := Lib.hid ((((Ext.refl w).alloc _).alloc _).trans hx1)
  have HCD1 := Lib.hid hcd
  have HZ0 := Lib.hid z0
  have HZ1 := Lib.hid z1
  have HZ2 := Lib.hid z2
  clear hx1 hcd
  go_wp2_with fail
  refine (HhC.out _ HX1.out).mono ?_
  rintro e w2 ⟨a1, c1, ps, rfl, hps, hrf, hx2⟩
  have hpl : ps.length = rs.length := by rw [← hps, List.length_map]
  have hrd2 := hrf.rd
  rw [hps] at hrd2
  obtain ⟨W2, hW2⟩ : ∃ W2, W2 = w2.alloc (.cells #[.int .i64 ar, .slice a1 ps.length c1, .int .u32 (df : Int)] 25) := ⟨_, rfl⟩
  have hx12 : Ext w1 W2 := by rw [hW2]; exact hx2.alloc _
  have m0 : W2.cell? ⟨w2.heap.size, 0, none⟩ = some (.int .i64 ar) := by rw [hW2]; simp [go_sem]
  have m1 : W2.cell? ⟨w2.heap.size, 1, none⟩ = some (.slice a1 ps.length c1) := by rw [hW2]; simp [go_sem]
  have m2 : W2.cell? ⟨w2.heap.size, 2, none⟩ = some (.int .u32 (df : Int)) := by rw [hW2]; simp [go_sem]
  have HRD2 : Hid (RdR W2 3 (IsR W2) (.slice a1 ps.length c1) rs) := Lib.hid (by rw [hW2]; exact rdRR_ext ((Ext.refl _).alloc _) hrd2)
  have HX2 := Lib.hid (HX1.out.trans hx12)
  have HX12 := Lib.hid hx12
  have HM0 := Lib.hid m0
  have HM1 := Lib.hid m1
  have HM2 := Lib.hid m2
  have HW2 := Lib.hid hW2
  have Hhpl := Lib.hid hpl
  clear hpl
  clear hps hrf hrd2 hx2 hx12 hW2 z0 z1 z2
  go_wp2_with fail
  rw [← HW2.out]
  refine (HhFd.out _ _ HRD2.out).mono ?_
  rintro e w3 ⟨r, a3, c3, rfl, ho3, hx3, hfi⟩
  obtain ⟨rn, ts, ra⟩ := r
  dsimp only at *
  have hts : ∀ t ∈ ts, OkT t := by
    rcases hfi with ⟨-, h⟩ | ⟨i, hi, -, h⟩
    · have : ts = [] := congrArg Rule.tests h
      rw [this]; intro t ht; cases ht
    · have : ts = (rs[i]'hi).tests := congrArg Rule.tests h
      rw [this]; exact (Hhok.out _ (List.getElem_mem hi)).t
  have htl : ts.length ≤ 1000 := by
    rcases hfi with ⟨-, h⟩ | ⟨i, hi, -, h⟩
    · have : ts = [] := congrArg Rule.tests h
      rw [this]; simp
    · have : ts = (rs[i]'hi).tests := congrArg Rule.tests h
      rw [this]; exact Hhlr.out _ (List.getElem_mem hi)
  obtain ⟨W3, hW3⟩ : ∃ W3, W3 = w3.alloc (.cells #[.int .u32 (rn : Int), .slice a3 ts.length c3, .int .u32 (ra : Int)] 34) := ⟨_, rfl⟩
  have hx23 : Ext W2 W3 := by rw [hW3]; exact hx3.alloc _
  have r0 : W3.cell? ⟨w3.heap.size, 0, none⟩ = some (.int .u32 (rn : Int)) := by rw [hW3]; simp [go_sem]
  have r1 : W3.cell? ⟨w3.heap.size, 1, none⟩ = some (.slice a3 ts.length c3) := by rw [hW3]; simp [go_sem]
  have r2 : W3.cell? ⟨w3.heap.size, 2, none⟩ = some (.int .u32 (ra : Int)) := by rw [hW3]; simp [go_sem]
  have HO3 : Hid (W3.ownsRow W2.heap.size 37 4 (.slice a3 ts.length c3) ts.length (ts.flatMap encT)) := Lib.hid (by rw [hW3]; exact ho3.alloc _)
  have HG3 : Hid (∀ b o, a3 = some ⟨b, o, none⟩ → b < w3.heap.size) := Lib.hid (fun b o e => (ho3.lt b (by rw [e]; rfl)).2)
  have q0 := fun o => ((Ext.refl w3).alloc o).cell (((HX12.out.trans hx3)).cell HZ0.out)
  have q1 := fun o => ((Ext.refl w3).alloc o).cell (((HX12.out.trans hx3)).cell HZ1.out)
  have q2 := fun o => ((Ext.refl w3).alloc o).cell (((HX12.out.trans hx3)).cell HZ2.out)
  have HX23 := Lib.hid hx23
  have HR1 := Lib.hid r1
  have HW3 := Lib.hid hW3
  have HT := Lib.hid hts
  have HFI := Lib.hid hfi
  have z0 := (HX12.out.trans hx23).cell HZ0.out
  have z1 := (HX12.out.trans hx23).cell HZ1.out
  have z2 := (HX12.out.trans hx23).cell HZ2.out
  have HZ0' := Lib.hid z0
  have HZ1' := Lib.hid z1
  have HZ2' := Lib.hid z2
  have HXw3 := Lib.hid (HX2.out.trans hx23)
  clear ho3 hx3 hx23 hW3 hts hfi m0 m1 m2
  have hcase : (idxR nr rs 0 = -1 ∧ (⟨rn, ts, ra⟩ : Rule) = ⟨0, [], 0⟩) ∨ ∃ i, ∃ h : i < rs.length, idxR nr rs 0 = (i : Int) ∧ (⟨rn, ts, ra⟩ : Rule) = rs[i]'h := HFI.out
  have hcont : True := trivial
  rcases hcase with ⟨h1, h2⟩ | ⟨i, hi, h1, h2⟩
  · have d0 : decide (0 ≤ idxR nr rs 0) = false := decide_eq_false (by omega)
    have hsr := fun W (h : Rd W 4 encT (.slice a3 ts.length c3) ts) => refSameRule_calls ⟨rn, ts, ra⟩ ⟨0, [], 0⟩ (.slice a3 ts.length c3) (.slice none 0 0) (by dsimp only; omega) W h (rd_none _ _ _)
    have hq : sameR ⟨rn, ts, ra⟩ ⟨0, [], 0⟩ = true := by rw [h2]; rfl
    have e0 : ((0 : Nat) : Int) = 0 := rfl
    rw [hq] at hsr
    dsimp only at hsr
    rw [e0] at hsr
    rw [h1] at HhRF
    have Hhsr := Lib.hid hsr
    clear hsr
    have Hh1 := Lib.hid h1
    clear h1
    clear h2 hq e0
    go_wp2_with fail
    rw [← HW3.out]
    refine (HhRF.out _ HXw3.out).mono ?_
    rintro e w4 ⟨rfl, hx4⟩
    have k0 := xwc (hx4.cell r0)
    have k1 := xwc (hx4.cell r1)
    have k2 := xwc (hx4.cell r2)
    have HX4 := Lib.hid hx4
    have HRd : Hid (Rd w4 4 encT (.slice a3 ts.length c3) ts) := Lib.hid (Rd.ext hx4 (rd_of_own encT_len HO3.out))
    clear hx4 z0 z1 z2 q0 q1 q2
    go_wp2_with fail
    refine wp_region_kept (by kernel_rfl) (by kernel_rfl) ?_
    repeat (any_goals (first | go_big_quiet_step ((go_at_call 24; exact calls_kept (Hhsr.out _ (HRd.out.ext (XW.h _))))) | quiet_step ((go_at_call 24; exact calls_kept (Hhsr.out _ (HRd.out.ext (XW.h _)))))))
    all_goals (refine wpQuiet_nil ?_; intro _ hw9; obtain ⟨xq, hw8⟩ := hw9; subst hw8)
    have HX5 := Lib.hid (HX4.out.trans xq.h)
    clear k0 k1 k2
    generalize xq.w = W5 at *
    have c1 := HX5.out.cell HR1.out
    have HX25 := Lib.hid (HX23.out.trans HX5.out)
    have HO5 := Lib.hid (own_ext HO3.out HX5.out)
    clear r0 r1 r2
    go_wp2_with fail
    go_loopw [11] (fun i wr => ∃ (k : Nat) (ts' : List Test), k ≤ ts.length ∧ i = .int .i64 k ∧ ts'.length = ts.length ∧ (∀ t ∈ ts', OkT t) ∧ wr.ownsRow W2.heap.size 37 4 (.slice a3 ts.length c3) ts.length (ts'.flatMap encT) ∧ Ext W2 wr ∧ wr.cell? ⟨w3.heap.size, 1, none⟩ = some (.slice a3 ts.length c3)) (fun i _ => ts.length - (intOf i).toNat)
    case atStart => exact ⟨0, ts, by omega, rfl, rfl, HT.out, HO5.out, HX25.out, c1⟩
    case round =>
      obtain ⟨k, ts', hk, rfl, hlen, hokt, ho, hx, c1r⟩ := hrel
      have HX := Lib.hid hx
      have HLEN := Lib.hid hlen
      have HO := Lib.hid ho
      have HOKT := Lib.hid hokt
      have hcd := (HCD1.out.ext HX12.out).ext hx
      have d0x := xwc hcd.c0
      have d1x := xwc hcd.c1
      have d2x := xwc hcd.c2
      have d3x := xwc hcd.c3
      have d4x := xwc hcd.c4
      have d5x := xwc hcd.c5
      have d6x := xwc hcd.c6
      have d7x := xwc hcd.c7
      have d8x := xwc hcd.c8
      have c1x := xwc c1r
      clear c1 hcd
      by_cases hlt : k < ts.length
      · have hkl : k < ts'.length := by rw [HLEN.out]; exact hlt
        have ho' : wr.ownsRow W2.heap.size 37 4 (.slice a3 ts'.length c3) ts'.length (ts'.flatMap encT) := by rw [hlen]; exact ho
        obtain ⟨g, cg, hge, hgb, hgl, hgf⟩ := own_parts ho' (by omega)
        simp only [Value.slice.injEq] at hge
        obtain ⟨rfl, -, rfl⟩ := hge
        have hgn : g < w3.heap.size := HG3.out g 0 rfl
        have hrd := rd_of_own encT_len ho'
        obtain ⟨a', c', e', -, hcell⟩ := rdT_cell hrd
        simp only [Value.slice.injEq] at e'
        obtain ⟨rfl, -, rfl⟩ := e'
        obtain ⟨b', o', e', t0, t1, t2, t3⟩ := hcell k hkl
        simp only [Option.some.injEq, Addr.mk.injEq, and_true] at e'
        obtain ⟨rfl, rfl⟩ := e'
        rw [Nat.zero_add] at t0 t1 t2 t3
        have hot := hokt _ (List.getElem_mem hkl)
        have HO' := Lib.hid ho'
        have t0x := xwc t0
        have t1x := xwc t1
        have t2x := xwc t2
        have t3x := xwc t3
        have HTK : Hid (∃ t, t = ts'[k]'hkl ∧ OkT t) := Lib.hid ⟨_, rfl, hot⟩
        have HTE : Hid (∀ y : Int, encT ⟨y, (ts'[k]'hkl).mask, (ts'[k]'hkl).value, (ts'[k]'hkl).action⟩ = (encT (ts'[k]'hkl)).set 0 (.int .i64 y)) := Lib.hid (fun y => rfl)
        have HFG : Hid (∀ j, ∀ x : XW wr, x.w.frozen? ⟨g, j, none⟩ = false) := Lib.hid (fun j x => (World.frozen?_of_block (a := ⟨g, j, none⟩) (x.h.block hgl)).trans (hgf j))
        obtain ⟨t, ht⟩ : ∃ t, t = ts'[k]'hkl := ⟨_, rfl⟩
        rw [← ht] at t0x t1x t2x t3x hot
        obtain ⟨ta, tm, tv, tx⟩ := t
        dsimp only at t0x t1x t2x t3x hot
        have hH := fun W => HhHo.out ⟨ta, tm, tv, tx⟩ hot W
        have hrH := fun W => HhrHo.out ⟨ta, tm, tv, tx⟩ hot W
        dsimp only at hH hrH
        generalize holdsA ⟨ta, tm, tv, tx⟩ d = hb at *
        have HhH := Lib.hid hH
        clear hH
        have HhrH := Lib.hid hrH
        clear hrH
        have HTEQ := Lib.hid ht
        have HGB := Lib.hid hgb
        clear ht t0 t1 t2 t3 hx hlen ho hokt ho' hrd hcell hot hgf hgb
        go_wp2_with fail
        refine wp_region_kept (by kernel_rfl) (by kernel_rfl) ?_
        repeat (any_goals (first | go_big_quiet_step ((first | (go_at_call 25; exact calls_kept (HhH.out _)) | (go_at_call 26; exact calls_kept (HhrH.out _)))) | quiet_step ((first | (go_at_call 25; exact calls_kept (HhH.out _)) | (go_at_call 26; exact calls_kept (HhrH.out _))))))
        all_goals (refine wpQuiet_nil ?_; intro _ hw9; obtain ⟨xr, hw8⟩ := hw9; subst hw8)
        have c1y := c1x xr
        have t0y := t0x xr
        have f0y := HFG.out (k * 4) xr
        have hgy := World.block_lt_of_cell? _ _ t0y
        have hbb : ((hb : Bool) != hb) = false := by cases hb <;> rfl
        clear d0x d1x d2x d3x d4x d5x d6x d7x d8x c1x t0x t1x t2x t3x
        go_wp2_with fail
        go_roundw
        case rel =>
          obtain ⟨hs1, -⟩ := own_store encT_len (own_ext HO'.out xr.h) k 0 (.int .i64 9) ⟨9, (ts'[k]'hkl).mask, (ts'[k]'hkl).value, (ts'[k]'hkl).action⟩ hkl (by decide) (HTE.out 9)
          refine ⟨k + 1, ts'.set k ⟨9, (ts'[k]'hkl).mask, (ts'[k]'hkl).value, (ts'[k]'hkl).action⟩, by omega, by go_num, by rw [List.length_set]; exact HLEN.out, fun t ht => ?_, ?_, (HX.out.trans xr.h).setCell HGB.out _, ?_⟩
          · rcases List.mem_or_eq_of_mem_set ht with h | h
            · exact HOKT.out t h
            · have ho := HOKT.out _ (List.getElem_mem hkl)
              rw [h]; exact ⟨(by decide : (-9223372036854775808 : Int) ≤ 9), (by decide : (9 : Int) ≤ 9223372036854775807), ho.m, ho.v, ho.x⟩
          · rw [HLEN.out, Nat.add_zero] at hs1
            exact hs1
          · rw [World.cell?_setCell_far _ _ _ _ (by dsimp only; omega)]
            exact c1y
        case measure => simp [intOf]; omega
      · have m0x := xwc (hx.cell HM0.out)
        have m1x := xwc (hx.cell HM1.out)
        have m2x := xwc (hx.cell HM2.out)
        have z0x := xwc ((HX12.out.trans hx).cell HZ0.out)
        have z1x := xwc ((HX12.out.trans hx).cell HZ1.out)
        have z2x := xwc ((HX12.out.trans hx).cell HZ2.out)
        have HMR : Hid (∀ x : XW wr, RdR x.w 3 (IsR x.w) (.slice a1 ps.length c1) rs) := Lib.hid (fun x => rdRR_ext (hx.trans x.h) HRD2.out)
        have HWX : Hid (∀ x : XW wr, Ext w x.w) := Lib.hid (fun x => (HX2.out.trans hx).trans x.h)
        have hmm : ((mf : Bool) == mf) = true := by cases mf <;> rfl
        clear hx hlen ho hokt c1x
        go_wp2_with fail
        refine wp_region_kept (by kernel_rfl) (by kernel_rfl) ?_
        repeat (any_goals (first | go_big_quiet_step ((first | (go_at_call 27; exact calls_kept (HhM.out _ _ (HMR.out _))) | (go_at_call 20; exact calls_kept (HhrM.out _ (HWX.out _))) | (go_at_call 28; exact calls_kept (HhD.out _ _ (HMR.out _))) | (go_at_call 29; exact calls_kept (HhrD.out _ (HWX.out _))) | (go_at_call 17; exact calls_kept (HhS.out _ _ (HWX.out _) (HMR.out _))))) | quiet_step ((first | (go_at_call 27; exact calls_kept (HhM.out _ _ (HMR.out _))) | (go_at_call 20; exact calls_kept (HhrM.out _ (HWX.out _))) | (go_at_call 28; exact calls_kept (HhD.out _ _ (HMR.out _))) | (go_at_call 29; exact calls_kept (HhrD.out _ (HWX.out _))) | (go_at_call 17; exact calls_kept (HhS.out _ _ (HWX.out _) (HMR.out _)))))))
        all_goals (refine wpQuiet_nil ?_; intro _ hw9; obtain ⟨xr, hw8⟩ := hw9; subst hw8)
        have HZ := Lib.hid (HWX.out xr)
        clear m0x m1x m2x z0x z1x z2x d0x d1x d2x d3x d4x d5x d6x d7x d8x
        go_wp2
        go_ret
        exact ⟨rfl, HZ.out⟩
  · have d0 : decide (0 ≤ idxR nr rs 0) = true := decide_eq_true (by omega)
    obtain ⟨b, o, vi, hav, g1, g2, g3, g4⟩ := Hhca.out i hi
    rw [← h2] at g1 g3 g4
    dsimp only at g1 g3 g4
    have hsr := fun W (h : Rd W 4 encT (.slice a3 ts.length c3) ts) (hx : Ext w W) => refSameRule_calls ⟨rn, ts, ra⟩ ⟨rn, ts, ra⟩ (.slice a3 ts.length c3) vi (by dsimp only; omega) W h (g4.ext hx)
    rw [sameR_refl] at hsr
    dsimp only at hsr
    obtain ⟨ai, ci, rfl, -, -⟩ := rdT_cell g4
    rw [h1] at HhRF
    have hi2 : (i : Int) < (rs.length : Int) := by omega
    have hi3 : (0 : Int) ≤ (i : Int) := by omega
    have Hhsr := Lib.hid hsr
    clear hsr
    have Hh1 := Lib.hid h1
    clear h1
    clear h2 g4
    subst hav
    go_wp2_with fail
    rw [← HW3.out]
    refine (HhRF.out _ HXw3.out).mono ?_
    rintro e w4 ⟨rfl, hx4⟩
    have k0 := xwc (hx4.cell r0)
    have k1 := xwc (hx4.cell r1)
    have k2 := xwc (hx4.cell r2)
    have k3 := xwc (hx4.cell z1)
    have k4 := xwc ((HXw3.out.trans hx4).cell g1)
    have k5 := xwc ((HXw3.out.trans hx4).cell g2)
    have k6 := xwc ((HXw3.out.trans hx4).cell g3)
    have HXw4 := Lib.hid (HXw3.out.trans hx4)
    have HX4 := Lib.hid hx4
    have HRd : Hid (Rd w4 4 encT (.slice a3 ts.length c3) ts) := Lib.hid (Rd.ext hx4 (rd_of_own encT_len HO3.out))
    clear hx4 z0 z1 z2 q0 q1 q2 g1 g2 g3
    go_wp2_with fail
    refine wp_region_kept (by kernel_rfl) (by kernel_rfl) ?_
    repeat (any_goals (first | go_big_quiet_step ((go_at_call 24; exact calls_kept (Hhsr.out _ (HRd.out.ext (XW.h _)) (HXw4.out.trans (XW.h _))))) | quiet_step ((go_at_call 24; exact calls_kept (Hhsr.out _ (HRd.out.ext (XW.h _)) (HXw4.out.trans (XW.h _)))))))
    all_goals (refine wpQuiet_nil ?_; intro _ hw9; obtain ⟨xq, hw8⟩ := hw9; subst hw8)
    have HX5 := Lib.hid (HX4.out.trans xq.h)
    clear k0 k1 k2 k3 k4 k5 k6
    generalize xq.w = W5 at *
    have c1 := HX5.out.cell HR1.out
    have HX25 := Lib.hid (HX23.out.trans HX5.out)
    have HO5 := Lib.hid (own_ext HO3.out HX5.out)
    clear r0 r1 r2
    go_wp2_with fail
    go_loopw [11] (fun i wr => ∃ (k : Nat) (ts' : List Test), k ≤ ts.length ∧ i = .int .i64 k ∧ ts'.length = ts.length ∧ (∀ t ∈ ts', OkT t) ∧ wr.ownsRow W2.heap.size 37 4 (.slice a3 ts.length c3) ts.length (ts'.flatMap encT) ∧ Ext W2 wr ∧ wr.cell? ⟨w3.heap.size, 1, none⟩ = some (.slice a3 ts.length c3)) (fun i _ => ts.length - (intOf i).toNat)
    case atStart => exact ⟨0, ts, by omega, rfl, rfl, HT.out, HO5.out, HX25.out, c1⟩
    case round =>
      obtain ⟨k, ts', hk, rfl, hlen, hokt, ho, hx, c1r⟩ := hrel
      have HX := Lib.hid hx
      have HLEN := Lib.hid hlen
      have HO := Lib.hid ho
      have HOKT := Lib.hid hokt
      have hcd := (HCD1.out.ext HX12.out).ext hx
      have d0x := xwc hcd.c0
      have d1x := xwc hcd.c1
      have d2x := xwc hcd.c2
      have d3x := xwc hcd.c3
      have d4x := xwc hcd.c4
      have d5x := xwc hcd.c5
      have d6x := xwc hcd.c6
      have d7x := xwc hcd.c7
      have d8x := xwc hcd.c8
      have c1x := xwc c1r
      clear c1 hcd
      by_cases hlt : k < ts.length
      · have hkl : k < ts'.length := by rw [HLEN.out]; exact hlt
        have ho' : wr.ownsRow W2.heap.size 37 4 (.slice a3 ts'.length c3) ts'.length (ts'.flatMap encT) := by rw [hlen]; exact ho
        obtain ⟨g, cg, hge, hgb, hgl, hgf⟩ := own_parts ho' (by omega)
        simp only [Value.slice.injEq] at hge
        obtain ⟨rfl, -, rfl⟩ := hge
        have hgn : g < w3.heap.size := HG3.out g 0 rfl
        have hrd := rd_of_own encT_len ho'
        obtain ⟨a', c', e', -, hcell⟩ := rdT_cell hrd
        simp only [Value.slice.injEq] at e'
        obtain ⟨rfl, -, rfl⟩ := e'
        obtain ⟨b', o', e', t0, t1, t2, t3⟩ := hcell k hkl
        simp only [Option.some.injEq, Addr.mk.injEq, and_true] at e'
        obtain ⟨rfl, rfl⟩ := e'
        rw [Nat.zero_add] at t0 t1 t2 t3
        have hot := hokt _ (List.getElem_mem hkl)
        have HO' := Lib.hid ho'
        have t0x := xwc t0
        have t1x := xwc t1
        have t2x := xwc t2
        have t3x := xwc t3
        have HTK : Hid (∃ t, t = ts'[k]'hkl ∧ OkT t) := Lib.hid ⟨_, rfl, hot⟩
        have HTE : Hid (∀ y : Int, encT ⟨y, (ts'[k]'hkl).mask, (ts'[k]'hkl).value, (ts'[k]'hkl).action⟩ = (encT (ts'[k]'hkl)).set 0 (.int .i64 y)) := Lib.hid (fun y => rfl)
        have HFG : Hid (∀ j, ∀ x : XW wr, x.w.frozen? ⟨g, j, none⟩ = false) := Lib.hid (fun j x => (World.frozen?_of_block (a := ⟨g, j, none⟩) (x.h.block hgl)).trans (hgf j))
        obtain ⟨t, ht⟩ : ∃ t, t = ts'[k]'hkl := ⟨_, rfl⟩
        rw [← ht] at t0x t1x t2x t3x hot
        obtain ⟨ta, tm, tv, tx⟩ := t
        dsimp only at t0x t1x t2x t3x hot
        have hH := fun W => HhHo.out ⟨ta, tm, tv, tx⟩ hot W
        have hrH := fun W => HhrHo.out ⟨ta, tm, tv, tx⟩ hot W
        dsimp only at hH hrH
        generalize holdsA ⟨ta, tm, tv, tx⟩ d = hb at *
        have HhH := Lib.hid hH
        clear hH
        have HhrH := Lib.hid hrH
        clear hrH
        have HTEQ := Lib.hid ht
        have HGB := Lib.hid hgb
        clear ht t0 t1 t2 t3 hx hlen ho hokt ho' hrd hcell hot hgf hgb
        go_wp2_with fail
        refine wp_region_kept (by kernel_rfl) (by kernel_rfl) ?_
        repeat (any_goals (first | go_big_quiet_step ((first | (go_at_call 25; exact calls_kept (HhH.out _)) | (go_at_call 26; exact calls_kept (HhrH.out _)))) | quiet_step ((first | (go_at_call 25; exact calls_kept (HhH.out _)) | (go_at_call 26; exact calls_kept (HhrH.out _))))))
        all_goals (refine wpQuiet_nil ?_; intro _ hw9; obtain ⟨xr, hw8⟩ := hw9; subst hw8)
        have c1y := c1x xr
        have t0y := t0x xr
        have f0y := HFG.out (k * 4) xr
        have hgy := World.block_lt_of_cell? _ _ t0y
        have hbb : ((hb : Bool) != hb) = false := by cases hb <;> rfl
        clear d0x d1x d2x d3x d4x d5x d6x d7x d8x c1x t0x t1x t2x t3x
        go_wp2_with fail
        go_roundw
        case rel =>
          obtain ⟨hs1, -⟩ := own_store encT_len (own_ext HO'.out xr.h) k 0 (.int .i64 9) ⟨9, (ts'[k]'hkl).mask, (ts'[k]'hkl).value, (ts'[k]'hkl).action⟩ hkl (by decide) (HTE.out 9)
          refine ⟨k + 1, ts'.set k ⟨9, (ts'[k]'hkl).mask, (ts'[k]'hkl).value, (ts'[k]'hkl).action⟩, by omega, by go_num, by rw [List.length_set]; exact HLEN.out, fun t ht => ?_, ?_, (HX.out.trans xr.h).setCell HGB.out _, ?_⟩
          · rcases List.mem_or_eq_of_mem_set ht with h | h
            · exact HOKT.out t h
            · have ho := HOKT.out _ (List.getElem_mem hkl)
              rw [h]; exact ⟨(by decide : (-9223372036854775808 : Int) ≤ 9), (by decide : (9 : Int) ≤ 9223372036854775807), ho.m, ho.v, ho.x⟩
          · rw [HLEN.out, Nat.add_zero] at hs1
            exact hs1
          · rw [World.cell?_setCell_far _ _ _ _ (by dsimp only; omega)]
            exact c1y
        case measure => simp [intOf]; omega
      · have m0x := xwc (hx.cell HM0.out)
        have m1x := xwc (hx.cell HM1.out)
        have m2x := xwc (hx.cell HM2.out)
        have z0x := xwc ((HX12.out.trans hx).cell HZ0.out)
        have z1x := xwc ((HX12.out.trans hx).cell HZ1.out)
        have z2x := xwc ((HX12.out.trans hx).cell HZ2.out)
        have HMR : Hid (∀ x : XW wr, RdR x.w 3 (IsR x.w) (.slice a1 ps.length c1) rs) := Lib.hid (fun x => rdRR_ext (hx.trans x.h) HRD2.out)
        have HWX : Hid (∀ x : XW wr, Ext w x.w) := Lib.hid (fun x => (HX2.out.trans hx).trans x.h)
        have hmm : ((mf : Bool) == mf) = true := by cases mf <;> rfl
        clear hx hlen ho hokt c1x
        go_wp2_with fail
        refine wp_region_kept (by kernel_rfl) (by kernel_rfl) ?_
        repeat (any_goals (first | go_big_quiet_step ((first | (go_at_call 27; exact calls_kept (HhM.out _ _ (HMR.out _))) | (go_at_call 20; exact calls_kept (HhrM.out _ (HWX.out _))) | (go_at_call 28; exact calls_kept (HhD.out _ _ (HMR.out _))) | (go_at_call 29; exact calls_kept (HhrD.out _ (HWX.out _))) | (go_at_call 17; exact calls_kept (HhS.out _ _ (HWX.out _) (HMR.out _))))) | quiet_step ((first | (go_at_call 27; exact calls_kept (HhM.out _ _ (HMR.out _))) | (go_at_call 20; exact calls_kept (HhrM.out _ (HWX.out _))) | (go_at_call 28; exact calls_kept (HhD.out _ _ (HMR.out _))) | (go_at_call 29; exact calls_kept (HhrD.out _ (HWX.out _))) | (go_at_call 17; exact calls_kept (HhS.out _ _ (HWX.out _) (HMR.out _)))))))
        all_goals (refine wpQuiet_nil ?_; intro _ hw9; obtain ⟨xr, hw8⟩ := hw9; subst hw8)
        have HZ := Lib.hid (HWX.out xr)
        clear m0x m1x m2x z0x z1x z2x d0x d1x d2x d3x d4x d5x d6x d7x d8x
        go_wp2
        go_ret
        exact ⟨rfl, HZ.out⟩
end L21
end Go.Proofs.Ytkmhfjnjfghnjaa
