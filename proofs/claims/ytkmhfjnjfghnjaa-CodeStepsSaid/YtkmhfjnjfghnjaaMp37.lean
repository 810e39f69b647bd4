import Derived.Test.YtkmhfjnjfghnjaaMp23
/- Layer 21: the walk of the reference's Denote. -/
namespace Go.Proofs.Ytkmhfjnjfghnjaa
open Go.RowKit V
namespace L21
open L25 (Dat datV OkD)
open L08 (ofA)
set_option maxRecDepth 100000 in
set_option maxHeartbeats 2000000 in
theorem refDenote_calls (f : Filter) (u : Value) (hf : OkF f) (d : Dat) (hd : OkD d) (w : World) (hu : RdR w 3 (IsR w) u f.rules) :
    Calls Try.prog 29 #[.agg #[.int .i64 f.arch, u, .int .u32 (f.dflt : Int)], datV d] w fun e w' => e = .returned (.int .u32 (denA f d : Nat)) ∧ Ext w w' := by
  have hO := fun W => L08.refOf_calls d.ar d.nr hd.nr W
  have hFi := fun W (hx : Ext w W) => refFind_calls f.arch f.dflt u f.rules d.nr hf.l W (rdRR_ext hx hu)
  have hHl := fun (t : Test) (ht : OkT t) W => refHolds_calls t ht d hd W
  have hok := hf.r
  have hlen := hf.l
  have how : ownA f d = ((ofA d.ar d.nr).2 && ((ofA d.ar d.nr).1 == f.arch)) := rfl
  obtain ⟨av, cv, rfl, -, hca⟩ := rdR_cell hu
  unfold datV at hHl ⊢
  generalize (ofA d.ar d.nr).1 = oa at *
  generalize (ofA d.ar d.nr).2 = ob at *
  clear hu
  have HhO := Lib.hid hO
  clear hO
  have HhFi := Lib.hid hFi
  clear hFi
  have HhHl := Lib.hid hHl
  clear hHl
  have Hhok := Lib.hid hok
  clear hok
  have Hhca := Lib.hid hca
  clear hca
  cases ob
  · rw [Bool.false_and] at how
    rw [denA_not how]
    have Hhow := Lib.hid how
    clear how
    go_enter Try.func29, Try.ntmps29
    go_wp2_with fail
    refine (HhO.out _).mono ?_
    rintro e w1 ⟨rfl, hx1⟩
    go_wp2_with fail
    go_ret
    exact ⟨rfl, (((Ext.refl _).alloc _).alloc _).trans hx1⟩
  rw [Bool.true_and] at how
  have hq : (oa != f.arch) = !(oa == f.arch) := rfl
  cases hab : (oa == f.arch)
  · rw [hab] at how hq
    rw [denA_not how]
    rw [Bool.not_false] at hq
    have Hhow := Lib.hid how
    clear how
    have Hhab := Lib.hid hab
    clear hab
    go_enter Try.func29, Try.ntmps29
    go_wp2_with fail
    refine (HhO.out _).mono ?_
    rintro e w1 ⟨rfl, hx1⟩
    have z0 := hx1.cell (p := ⟨w.heap.size, 0, none⟩) (by simp [go_sem]; rfl)
    go_wp2_with fail
    go_ret
    exact ⟨rfl, (((Ext.refl _).alloc _).alloc _).trans hx1⟩
  rw [hab] at how hq
  rw [denA_own how]
  rw [Bool.not_true] at hq
  have Hhow := Lib.hid how
  clear how
  have Hhab := Lib.hid hab
  clear hab
  obtain ⟨ar, rs, df⟩ := f
  dsimp only at *
  rcases idxR_find d.nr rs 0 with ⟨h1, -⟩ | ⟨i, hi, h1, -⟩
  · rw [denL_no h1]
    rw [h1] at HhFi
    clear h1
    go_enter Try.func29, Try.ntmps29
    go_wp2_with fail
    refine (HhO.out _).mono ?_
    rintro e w1 ⟨rfl, hx1⟩
    have z0 := hx1.cell (p := ⟨w.heap.size, 0, none⟩) (by simp [go_sem]; rfl)
    have z1 := hx1.cell (p := ⟨w.heap.size, 1, none⟩) (by simp [go_sem]; rfl)
    have z2 := hx1.cell (p := ⟨w.heap.size, 2, none⟩) (by simp [go_sem]; rfl)
    have y0 := hx1.cell (p := ⟨w.heap.size + 1, 0, none⟩) (by simp [go_sem]; rfl)
    have HX1 := Lib.hid ((((Ext.refl w).alloc _).alloc _).trans hx1)
    clear hx1
    go_wp2_with fail
    refine (HhFi.out _ HX1.out).mono ?_
    rintro e w2 ⟨rfl, hx2⟩
    replace z2 := hx2.cell z2
    have HX2 := Lib.hid (HX1.out.trans hx2)
    clear hx2 z0 z1 y0
    go_wp2_with fail
    go_ret
    exact ⟨rfl, HX2.out⟩
  · rw [Nat.zero_add] at h1
    rw [denL_yes hi h1]
    have hokr := Hhok.out _ (List.getElem_mem hi)
    rw [h1] at HhFi
    clear h1
    obtain ⟨b, o, v, rfl, g1, g2, g3, g4⟩ := Hhca.out i hi
    generalize rs[i]'hi = r0 at *
    obtain ⟨rn, ts, ra⟩ := r0
    dsimp only at *
    have hg4 := g4
    obtain ⟨at', ct, rfl, -, hte⟩ := rdT_cell g4
    have htl := hokr.l
    have Hhokr := Lib.hid hokr
    clear hokr
    have Hhte := Lib.hid hte
    clear hte
    clear hg4 g4
    go_enter Try.func29, Try.ntmps29
    go_wp2_with fail
    refine (HhO.out _).mono ?_
    rintro e w1 ⟨rfl, hx1⟩
    have z0 := hx1.cell (p := ⟨w.heap.size, 0, none⟩) (by simp [go_sem]; rfl)
    have z1 := hx1.cell (p := ⟨w.heap.size, 1, none⟩) (by simp [go_sem]; rfl)
    have z2 := hx1.cell (p := ⟨w.heap.size, 2, none⟩) (by simp [go_sem]; rfl)
    have hcd : Cda w1 (w.heap.size + 1) d := ⟨hx1.cell (by simp [go_sem]), hx1.cell (by simp [go_sem]), hx1.cell (by simp [go_sem]), hx1.cell (by simp [go_sem]), hx1.cell (by simp [go_sem]), hx1.cell (by simp [go_sem]), hx1.cell (by simp [go_sem]), hx1.cell (by simp [go_sem]), hx1.cell (by simp [go_sem])⟩
    have y0 := hcd.c0
    have HCD := Lib.hid hcd
    have HX1 := Lib.hid ((((Ext.refl w).alloc _).alloc _).trans hx1)
    clear hx1 hcd
    go_wp2_with fail
    refine (HhFi.out _ HX1.out).mono ?_
    rintro e w2 ⟨rfl, hx2⟩
    replace z1 := hx2.cell z1
    have HX2 := Lib.hid (HX1.out.trans hx2)
    have HCD2 := Lib.hid (HCD.out.ext hx2)
    replace g1 := HX2.out.cell g1
    replace g2 := HX2.out.cell g2
    replace g3 := HX2.out.cell g3
    clear hx2 z0 z2 y0
    have hi2 : (i : Int) < (rs.length : Int) := by omega
    go_wp2_with fail
    obtain ⟨W3, hW3⟩ : ∃ W3, W3 = w2.alloc (.cells #[.int .u32 (rn : Int), .slice at' ts.length ct, .int .u32 (ra : Int)] 34) := ⟨_, rfl⟩
    have hxw : Ext w2 W3 := by rw [hW3]; exact (Ext.refl _).alloc _
    have c1 : W3.cell? ⟨w2.heap.size, 1, none⟩ = some (.slice at' ts.length ct) := by rw [hW3]; simp [go_sem]
    have c2 : W3.cell? ⟨w2.heap.size, 2, none⟩ = some (.int .u32 (ra : Int)) := by rw [hW3]; simp [go_sem]
    rw [← hW3]
    have HCD3 := Lib.hid (HCD2.out.ext hxw)
    have HX3 := Lib.hid (HX2.out.trans hxw)
    have HC1 := Lib.hid c1
    have HC2 := Lib.hid c2
    clear hW3 hxw g1 g2 g3 z1 c1 c2
    go_loopw [9] (fun i wr => ∃ k : Nat, k ≤ ts.length ∧ i = .int .i64 k ∧ Ext W3 wr ∧ fstA d ts ra = fstA d (ts.drop k) ra) (fun i _ => ts.length - (intOf i).toNat)
    case atStart => exact ⟨0, by omega, rfl, Ext.refl _, rfl⟩
    case round =>
      obtain ⟨k, hk, rfl, hx, heq⟩ := hrel
      have HX := Lib.hid hx
      by_cases hlt : k < ts.length
      · obtain ⟨b3, o3, rfl, t0, t1, t2, t3⟩ := Hhte.out k hlt
        have c1 := hx.cell HC1.out
        rw [fstA_step hlt] at heq
        have hot := Hhokr.out.t _ (List.getElem_mem hlt)
        replace t3 := (HX3.out.trans hx).cell t3
        have k1 : ∀ x : XW wr, x.w.cell? ⟨w2.heap.size, 1, none⟩ = some (.slice (some ⟨b3, o3, none⟩) ts.length ct) := fun x => x.h.cell c1
        have k2 : ∀ x : XW wr, x.w.cell? ⟨b3, o3 + k * 4, none⟩ = some (.int .i64 (ts[k]'hlt).arg) := fun x => ((HX3.out.trans hx).trans x.h).cell t0
        have k3 : ∀ x : XW wr, x.w.cell? ⟨b3, o3 + k * 4 + 1, none⟩ = some (.int .u64 ((ts[k]'hlt).mask : Int)) := fun x => ((HX3.out.trans hx).trans x.h).cell t1
        have k4 : ∀ x : XW wr, x.w.cell? ⟨b3, o3 + k * 4 + 2, none⟩ = some (.int .u64 ((ts[k]'hlt).value : Int)) := fun x => ((HX3.out.trans hx).trans x.h).cell t2
        have k5 : ∀ x : XW wr, x.w.cell? ⟨b3, o3 + k * 4 + 3, none⟩ = some (.int .u32 ((ts[k]'hlt).action : Int)) := fun x => x.h.cell t3
        have m0 : ∀ x : XW wr, x.w.cell? ⟨w.heap.size + 1, 0, none⟩ = some (.int .u32 (d.nr : Int)) := fun x => ((HCD3.out.ext hx).ext x.h).c0
        have m1 : ∀ x : XW wr, x.w.cell? ⟨w.heap.size + 1, 1, none⟩ = some (.int .u32 (d.ar : Int)) := fun x => ((HCD3.out.ext hx).ext x.h).c1
        have m2 : ∀ x : XW wr, x.w.cell? ⟨w.heap.size + 1, 2, none⟩ = some (.int .u64 (d.ip : Int)) := fun x => ((HCD3.out.ext hx).ext x.h).c2
        have m3 : ∀ x : XW wr, x.w.cell? ⟨w.heap.size + 1, 3, none⟩ = some (.int .u64 (d.a0 : Int)) := fun x => ((HCD3.out.ext hx).ext x.h).c3
        have m4 : ∀ x : XW wr, x.w.cell? ⟨w.heap.size + 1, 4, none⟩ = some (.int .u64 (d.a1 : Int)) := fun x => ((HCD3.out.ext hx).ext x.h).c4
        have m5 : ∀ x : XW wr, x.w.cell? ⟨w.heap.size + 1, 5, none⟩ = some (.int .u64 (d.a2 : Int)) := fun x => ((HCD3.out.ext hx).ext x.h).c5
        have m6 : ∀ x : XW wr, x.w.cell? ⟨w.heap.size + 1, 6, none⟩ = some (.int .u64 (d.a3 : Int)) := fun x => ((HCD3.out.ext hx).ext x.h).c6
        have m7 : ∀ x : XW wr, x.w.cell? ⟨w.heap.size + 1, 7, none⟩ = some (.int .u64 (d.a4 : Int)) := fun x => ((HCD3.out.ext hx).ext x.h).c7
        have m8 : ∀ x : XW wr, x.w.cell? ⟨w.heap.size + 1, 8, none⟩ = some (.int .u64 (d.a5 : Int)) := fun x => ((HCD3.out.ext hx).ext x.h).c8
        clear hx t0 t1 t2 t3
        generalize ts[k]'hlt = t at *
        have hC := fun W => HhHl.out t hot W
        have hv : holdP d t = holdsA t d := rfl
        rw [hv] at heq
        have Hhv := Lib.hid hv
        clear hv
        generalize holdsA t d = hb at *
        obtain ⟨ta, tm, tv, tx⟩ := t
        dsimp only at *
        have HhC := Lib.hid hC
        clear hC
        have Hhot := Lib.hid hot
        clear hot
        cases hb
        all_goals
          simp only [if_true, if_false, Bool.false_eq_true] at heq
          have Hheq := Lib.hid heq
          clear heq
          go_wp2_with fail
          refine wp_region_kept (by kernel_rfl) (by kernel_rfl) ?_
          repeat (any_goals (first | go_big_quiet_step ((go_at_call 26; exact calls_kept (HhC.out _))) | quiet_step ((go_at_call 26; exact calls_kept (HhC.out _)))))
          all_goals (refine wpQuiet_nil ?_; intro _ hw9; obtain ⟨xq, hw8⟩ := hw9; subst hw8)
          go_wp2
        · go_roundw
          case rel => exact ⟨k + 1, by omega, by go_num, HX.out.trans xq.h, Hheq.out⟩
          case measure => simp [intOf]; omega
        · go_ret
          exact ⟨by rw [Hheq.out]; rfl, (HX3.out.trans HX.out).trans xq.h⟩
      · obtain rfl : k = ts.length := by omega
        rw [fstA_end] at heq
        have c1 := hx.cell HC1.out
        have c2 := hx.cell HC2.out
        have Hheq := Lib.hid heq
        clear heq
        clear hx
        go_wp2
        go_ret
        exact ⟨by rw [Hheq.out]; rfl, HX3.out.trans HX.out⟩
end L21
end Go.Proofs.Ytkmhfjnjfghnjaa

