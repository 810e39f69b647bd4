import Derived.Test.YtkmhfjnjfghnjaaMp21
import Derived.Test.YtkmhfjnjfghnjaaMp22
import Derived.Test.YtkmhfjnjfghnjaaMp19
/- Layer 21: the walks of Denote and of the reference's Denote. -/
namespace Go.Proofs.Ytkmhfjnjfghnjaa
open Go.RowKit V
namespace L21
open L25 (Dat datV OkD)
open L08 (ofA)
theorem idxR_find (nr : Nat) : ∀ (rs : List Rule) (k : Nat), (idxR nr rs k = -1 ∧ rs.find? (fun r => r.nr == nr) = none) ∨ ∃ i, ∃ h : i < rs.length, idxR nr rs k = ((k + i : Nat) : Int) ∧ rs.find? (fun r => r.nr == nr) = some (rs[i]'h)
  | [], k => .inl ⟨rfl, rfl⟩
  | t :: r, k => by
    cases hp : (t.nr == nr)
    · rcases idxR_find nr r (k + 1) with ⟨h1, h2⟩ | ⟨i, h, h1, h2⟩
      · exact .inl ⟨by simp only [idxR, hp]; exact h1, by rw [List.find?_cons, hp]; exact h2⟩
      · refine .inr ⟨i + 1, by simp; omega, ?_, by rw [List.find?_cons, hp]; simpa using h2⟩
        simp only [idxR, hp]
        have e : ((k + 1 + i : Nat) : Int) = ((k + (i + 1) : Nat) : Int) := by omega
        rw [← e]; exact h1
    · exact .inr ⟨0, by simp, by simp [idxR, hp], by rw [List.find?_cons, hp]; rfl⟩
theorem denL_no {d : Dat} {df : Nat} {rs : List Rule} (h : idxR d.nr rs 0 = -1) : denL d df rs = df := by
  rcases idxR_find d.nr rs 0 with ⟨-, h2⟩ | ⟨i, hi, h1, -⟩
  · unfold denL; rw [h2]
  · omega
theorem denL_yes {d : Dat} {df : Nat} {rs : List Rule} {i : Nat} (hi : i < rs.length) (h : idxR d.nr rs 0 = (i : Int)) : denL d df rs = fstA d rs[i].tests rs[i].action := by
  rcases idxR_find d.nr rs 0 with ⟨h1, -⟩ | ⟨j, hj, h1, h2⟩
  · omega
  · obtain rfl : i = j := by omega
    unfold denL; rw [h2]
theorem fstA_yes {d : Dat} {ts : List Test} {t : Test} {x : Nat} (h : FndT d ts t) (ha : ts.any (holdP d) = true) : fstA d ts x = t.action := by
  unfold FndT at h
  rw [if_pos ha] at h
  unfold fstA; rw [h]
theorem fstA_no {d : Dat} {ts : List Test} {t : Test} {x : Nat} (h : FndT d ts t) (ha : ts.any (holdP d) = false) : fstA d ts x = x := by
  unfold FndT at h
  rw [if_neg (by rw [ha]; simp)] at h
  unfold fstA; rw [h]
theorem fstA_step {d : Dat} {ts : List Test} {x k : Nat} (h : k < ts.length) : fstA d (ts.drop k) x = if holdP d ts[k] = true then ts[k].action else fstA d (ts.drop (k + 1)) x := by
  rw [List.drop_eq_getElem_cons h, fstA_cons]
theorem fstA_end (d : Dat) (ts : List Test) (x : Nat) : fstA d (ts.drop ts.length) x = x := by rw [List.drop_length]; rfl
theorem denA_not {f : Filter} {d : Dat} (h : ownA f d = false) : denA f d = 2147418112 := by unfold denA; rw [h]; rfl
theorem denA_own {f : Filter} {d : Dat} (h : ownA f d = true) : denA f d = denL d f.dflt f.rules := by unfold denA; rw [h]; rfl
set_option maxRecDepth 100000 in
set_option maxHeartbeats 1000000 in
theorem Denote_calls (f : Filter) (u : Value) (hf : OkF f) (d : Dat) (hd : OkD d) (w : World) (hu : RdR w 3 (IsR w) u f.rules) :
    Calls Try.prog 28 #[.agg #[.int .i64 f.arch, u, .int .u32 (f.dflt : Int)], datV d] w fun e w' => e = .returned (.int .u32 (denA f d : Nat)) ∧ Ext w w' := by
  have hO := fun W => L08.Of_calls d.ar d.nr hd.nr W
  have hFst := fun W (hx : Ext w W) B (hB : W.cell? ⟨B, 0, none⟩ = some (.int .u32 (d.nr : Int))) => denoteFirst_calls u f.rules d.nr B hf.l W hB (rdRR_ext hx hu)
  have hHld := fun B v (ts : List Test) (hl : ts.length ≤ 140737488351232) (hok : ∀ t ∈ ts, OkT t) W (hB : Cda W B d) (hv : Rd W 4 encT v ts) => firstHold_calls d hd B v ts hl hok W hB hv
  have hok := hf.r
  have how : ownA f d = ((ofA d.ar d.nr).2 && ((ofA d.ar d.nr).1 == f.arch)) := rfl
  obtain ⟨av, cv, rfl, -, -⟩ := rdR_cell hu
  unfold datV
  generalize (ofA d.ar d.nr).1 = oa at *
  generalize (ofA d.ar d.nr).2 = ob at *
  clear hu
  have HhO := Lib.hid hO
  clear hO
  have HhFst := Lib.hid hFst
  clear hFst
  have HhHld := Lib.hid hHld
  clear hHld
  have Hhok := Lib.hid hok
  clear hok
  cases ob
  · rw [Bool.false_and] at how
    rw [denA_not how]
    have Hhow := Lib.hid how
    clear how
    go_enter Try.func28, Try.ntmps28
    go_wp2_with fail
    refine (HhO.out _).mono ?_
    rintro e w1 ⟨rfl, hx1⟩
    go_wp2_with fail
    go_ret
    exact ⟨rfl, (((Ext.refl _).alloc _).alloc _).trans hx1⟩
  rw [Bool.true_and] at how
  have hq : (oa != f.arch) = !(oa == f.arch) := rfl
  cases hab : (oa == f.arch)
  · rw [hab] at how hq
    rw [denA_not how]
    rw [Bool.not_false] at hq
    have Hhow := Lib.hid how
    clear how
    have Hhab := Lib.hid hab
    clear hab
    go_enter Try.func28, Try.ntmps28
    go_wp2_with fail
    refine (HhO.out _).mono ?_
    rintro e w1 ⟨rfl, hx1⟩
    have z0 := hx1.cell (p := ⟨w.heap.size, 0, none⟩) (by simp [go_sem]; rfl)
    go_wp2_with fail
    go_ret
    exact ⟨rfl, (((Ext.refl _).alloc _).alloc _).trans hx1⟩
  rw [hab] at how hq
  rw [denA_own how]
  rw [Bool.not_true] at hq
  have Hhow := Lib.hid how
  clear how
  have Hhab := Lib.hid hab
  clear hab
  obtain ⟨ar, rs, df⟩ := f
  dsimp only at *
  rcases idxR_find d.nr rs 0 with ⟨h1, -⟩ | ⟨i, hi, h1, -⟩
  · rw [denL_no h1]
    have HI := Lib.hid h1
    rw [h1] at HhFst
    clear h1
    go_enter Try.func28, Try.ntmps28
    go_wp2_with fail
    refine (HhO.out _).mono ?_
    rintro e w1 ⟨rfl, hx1⟩
    have z0 := hx1.cell (p := ⟨w.heap.size, 0, none⟩) (by simp [go_sem]; rfl)
    have z1 := hx1.cell (p := ⟨w.heap.size, 1, none⟩) (by simp [go_sem]; rfl)
    have z2 := hx1.cell (p := ⟨w.heap.size, 2, none⟩) (by simp [go_sem]; rfl)
    have hcd : Cda w1 (w.heap.size + 1) d := ⟨hx1.cell (by simp [go_sem]), hx1.cell (by simp [go_sem]), hx1.cell (by simp [go_sem]), hx1.cell (by simp [go_sem]), hx1.cell (by simp [go_sem]), hx1.cell (by simp [go_sem]), hx1.cell (by simp [go_sem]), hx1.cell (by simp [go_sem]), hx1.cell (by simp [go_sem])⟩
    have HX1 := Lib.hid ((((Ext.refl w).alloc _).alloc _).trans hx1)
    have HCD := Lib.hid hcd
    clear hx1 hcd
    go_wp2_with fail
    refine (HhFst.out _ HX1.out _ HCD.out.c0).mono ?_
    rintro e w2 ⟨r, v, rfl, hx2, hfnd⟩
    rcases hfnd with ⟨-, rfl, rfl⟩ | ⟨i, hi, h1, -, -⟩
    case inr => exact absurd (HI.out.symm.trans h1) (by omega)
    replace z2 := hx2.cell z2
    have HX2 := Lib.hid (HX1.out.trans hx2)
    have q2 := fun o => ((Ext.refl w2).alloc o).cell z2
    clear z0 z1 hx2 z2
    dsimp only
    go_wp2_with fail
    go_ret
    exact ⟨rfl, HX2.out.alloc _⟩
  · rw [Nat.zero_add] at h1
    rw [denL_yes hi h1]
    have hokr := Hhok.out _ (List.getElem_mem hi)
    have hd0 : decide (0 ≤ idxR d.nr rs 0) = true := decide_eq_true (by omega)
    rw [hd0] at HhFst
    have HI := Lib.hid h1
    have Hhd0 := Lib.hid hd0
    clear hd0
    clear h1
    have hR : ∀ (r : Rule) (v : Value) (W : World), FndR W d.nr rs r v → r = rs[i]'hi ∧ Rd W 4 encT v r.tests := fun r v W h => by
      rcases h with ⟨h1, -, -⟩ | ⟨j, hj, h1, rfl, h2⟩
      · exact absurd (h1.symm.trans HI.out) (by omega)
      · obtain rfl : j = i := by have := h1.symm.trans HI.out; omega
        exact ⟨rfl, h2⟩
    have HhR := Lib.hid hR
    clear hR
    generalize rs[i]'hi = r0 at *
    obtain ⟨rn, ts, ra⟩ := r0
    dsimp only at *
    cases hany : ts.any (holdP d)
    · have hv0 : fstA d ts ra = ra := by
        rcases idxH_cases (holdP d) ts 0 with ⟨-, -, h⟩ | ⟨j, hj, -, -, h⟩
        · unfold fstA; rw [h]
        · rw [hany] at h; cases h
      rw [hv0]
      have hHq := fun B v (hl : ts.length ≤ 140737488351232) (hok : ∀ t ∈ ts, OkT t) W (hB : Cda W B d) (hv : Rd W 4 encT v ts) => HhHld.out B v ts hl hok W hB hv
      rw [hany] at hHq
      have Hhv0 := Lib.hid hv0
      clear hv0
      have HhHq := Lib.hid hHq
      clear hHq
      have Hhany := Lib.hid hany
      clear hany
      have Hhokr := Lib.hid hokr
      clear hokr
      go_enter Try.func28, Try.ntmps28
      go_wp2_with fail
      refine (HhO.out _).mono ?_
      rintro e w1 ⟨rfl, hx1⟩
      have z0 := hx1.cell (p := ⟨w.heap.size, 0, none⟩) (by simp [go_sem]; rfl)
      have z1 := hx1.cell (p := ⟨w.heap.size, 1, none⟩) (by simp [go_sem]; rfl)
      have z2 := hx1.cell (p := ⟨w.heap.size, 2, none⟩) (by simp [go_sem]; rfl)
      have hcd : Cda w1 (w.heap.size + 1) d := ⟨hx1.cell (by simp [go_sem]), hx1.cell (by simp [go_sem]), hx1.cell (by simp [go_sem]), hx1.cell (by simp [go_sem]), hx1.cell (by simp [go_sem]), hx1.cell (by simp [go_sem]), hx1.cell (by simp [go_sem]), hx1.cell (by simp [go_sem]), hx1.cell (by simp [go_sem])⟩
      have HX1 := Lib.hid ((((Ext.refl w).alloc _).alloc _).trans hx1)
      have HCD := Lib.hid hcd
      clear hx1 hcd
      go_wp2_with fail
      refine (HhFst.out _ HX1.out _ HCD.out.c0).mono ?_
      rintro e w2 ⟨r, v, rfl, hx2, hfnd⟩
      obtain ⟨rfl, hrd⟩ := HhR.out _ _ _ hfnd
      have HCD2 := Lib.hid (HCD.out.ext hx2)
      have HX2 := Lib.hid (HX1.out.trans hx2)
      replace hrd := hrd.ext hx2
      clear z0 z1 hx2 hfnd z2
      dsimp only at hrd ⊢
      obtain ⟨avv, cvv, rfl, -, -⟩ := rdT_cell hrd
      have HRD := Lib.hid hrd
      clear hrd
      go_wp2_with fail
      refine (HhHq.out _ _ Hhokr.out.l Hhokr.out.t _ (HCD2.out.ext ((Ext.refl _).alloc _)) (HRD.out.ext ((Ext.refl _).alloc _))).mono ?_
      rintro e w3 ⟨t, rfl, hx3, hft⟩
      have y2 := hx3.cell (p := ⟨w2.heap.size, 2, none⟩) (by simp [go_sem]; rfl)
      have HX3 := Lib.hid ((HX2.out.alloc _).trans hx3)
      have q2 := fun o => ((Ext.refl w3).alloc o).cell y2
      clear hx3 hft y2
      go_wp2_with fail
      go_ret
      exact ⟨rfl, HX3.out.alloc _⟩
    · obtain ⟨t0, ht0⟩ : ∃ t0, ts.find? (holdP d) = some t0 := by
        rcases idxH_cases (holdP d) ts 0 with ⟨-, h, -⟩ | ⟨j, hj, -, h, -⟩
        · rw [hany] at h; cases h
        · exact ⟨_, h⟩
      have hv0 : fstA d ts ra = t0.action := by unfold fstA; rw [ht0]
      rw [hv0]
      have hHq := fun B v (hl : ts.length ≤ 140737488351232) (hok : ∀ t ∈ ts, OkT t) W (hB : Cda W B d) (hv : Rd W 4 encT v ts) => HhHld.out B v ts hl hok W hB hv
      rw [hany] at hHq
      have hF0 : ∀ t, FndT d ts t → t = t0 := fun t h => by
        unfold FndT at h
        rw [ht0, hany] at h
        exact (Option.some.inj h).symm
      have HhF0 := Lib.hid hF0
      clear hF0
      have Hht0 := Lib.hid ht0
      clear ht0
      have Hhv0 := Lib.hid hv0
      clear hv0
      have HhHq := Lib.hid hHq
      clear hHq
      have Hhany := Lib.hid hany
      clear hany
      have Hhokr := Lib.hid hokr
      clear hokr
      go_enter Try.func28, Try.ntmps28
      go_wp2_with fail
      refine (HhO.out _).mono ?_
      rintro e w1 ⟨rfl, hx1⟩
      have z0 := hx1.cell (p := ⟨w.heap.size, 0, none⟩) (by simp [go_sem]; rfl)
      have z1 := hx1.cell (p := ⟨w.heap.size, 1, none⟩) (by simp [go_sem]; rfl)
      have z2 := hx1.cell (p := ⟨w.heap.size, 2, none⟩) (by simp [go_sem]; rfl)
      have hcd : Cda w1 (w.heap.size + 1) d := ⟨hx1.cell (by simp [go_sem]), hx1.cell (by simp [go_sem]), hx1.cell (by simp [go_sem]), hx1.cell (by simp [go_sem]), hx1.cell (by simp [go_sem]), hx1.cell (by simp [go_sem]), hx1.cell (by simp [go_sem]), hx1.cell (by simp [go_sem]), hx1.cell (by simp [go_sem])⟩
      have HX1 := Lib.hid ((((Ext.refl w).alloc _).alloc _).trans hx1)
      have HCD := Lib.hid hcd
      clear hx1 hcd
      go_wp2_with fail
      refine (HhFst.out _ HX1.out _ HCD.out.c0).mono ?_
      rintro e w2 ⟨r, v, rfl, hx2, hfnd⟩
      obtain ⟨rfl, hrd⟩ := HhR.out _ _ _ hfnd
      have HCD2 := Lib.hid (HCD.out.ext hx2)
      have HX2 := Lib.hid (HX1.out.trans hx2)
      replace hrd := hrd.ext hx2
      clear z0 z1 hx2 hfnd z2
      dsimp only at hrd ⊢
      obtain ⟨avv, cvv, rfl, -, -⟩ := rdT_cell hrd
      have HRD := Lib.hid hrd
      clear hrd
      go_wp2_with fail
      refine (HhHq.out _ _ Hhokr.out.l Hhokr.out.t _ (HCD2.out.ext ((Ext.refl _).alloc _)) (HRD.out.ext ((Ext.refl _).alloc _))).mono ?_
      rintro e w3 ⟨t, rfl, hx3, hft⟩
      obtain rfl := HhF0.out _ hft
      have HX3 := Lib.hid ((HX2.out.alloc _).trans hx3)
      clear hx3 hft
      go_wp2_with fail
      go_ret
      exact ⟨rfl, HX3.out.alloc _⟩
end L21
end Go.Proofs.Ytkmhfjnjfghnjaa

