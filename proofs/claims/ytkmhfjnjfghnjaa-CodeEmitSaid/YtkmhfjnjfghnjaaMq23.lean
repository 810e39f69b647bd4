import Derived.Test.YtkmhfjnjfghnjaaMq14
import Derived.Test.YtkmhfjnjfghnjaaMq22
import Derived.Test.YtkmhfjnjfghnjaaMq3
import Derived.RangeFuncBox
import Derived.Deep.RegionLaw
import Derived.Deep.DeepCutAuto
import Derived.Test.YtkmhfjnjfghnjaaMq2
/- Layer 21: the walks of Denote and of the reference's Denote. -/
namespace Go.Proofs.Ytkmhfjnjfghnjaa
open Go.RowKit V
namespace L21
open L25 (Dat datV OkD)
open L08 (ofA)
theorem idxR_find (nr : Nat) : ∀ (rs : List Rule) (k : Nat), (idxR nr rs k = -1 ∧ rs.find? (fun r => r.nr == nr) = none) ∨ ∃ i, ∃ h : i < rs.length, idxR nr rs k = ((k + i : Nat) : Int) ∧ rs.find? (fun r => r.nr == nr) = some (rs[i]'h)
  | [], k => .inl ⟨rfl, rfl⟩
  | t :: r, k => by
    cases hp : (t.nr == nr)
    · rcases idxR_find nr r (k + 1) with ⟨h1, h2⟩ | ⟨i, h, h1, h2⟩
      · exact .inl ⟨by simp only [idxR, hp]; exact h1, by rw [List.find?_cons, hp]; exact h2⟩
      · refine .inr ⟨i + 1, by simp; omega, ?_, by rw [List.find?_cons, hp]; simpa using h2⟩
        simp only [idxR, hp]
        have e : ((k + 1 + i : Nat) : Int) = ((k + (i + 1) : Nat) : Int) := by omega
        rw [← e]; exact h1
    · exact .inr ⟨0, by simp, by simp [idxR, hp], by rw [List.find?_cons, hp]; rfl⟩
theorem denL_no {d : Dat} {df : Nat} {rs : List Rule} (h : idxR d.nr rs 0 = -1) : denL d df rs = df := by
  rcases idxR_find d.nr rs 0 with ⟨-, h2⟩ | ⟨i, hi, h1, -⟩
  · unfold denL; rw [h2]
  · omega
theorem denL_yes {d : Dat} {df : Nat} {rs : List Rule} {i : Nat} (hi : i < rs.length) (h : idxR d.nr rs 0 = (i : Int)) : denL d df rs = fstA d rs[i].tests rs[i].action := by
  rcases idxR_find d.nr rs 0 with ⟨h1, -⟩ | ⟨j, hj, h1, h2⟩
  · omega
  · obtain rfl : i = j := by omega
    unfold denL; rw [h2]
theorem fstA_yes {d : Dat} {ts : List Test} {t : Test} {x : Nat} (h : FndT d ts t) (ha : ts.any (holdP d) = true) : fstA d ts x = t.action := by
  unfold FndT at h
  rw [if_pos ha] at h
  unfold fstA; rw [h]
theorem fstA_no {d : Dat} {ts : List Test} {t : Test} {x : Nat} (h : FndT d ts t) (ha : ts.any (holdP d) = false) : fstA d ts x = x := by
  unfold FndT at h
  rw [if_neg (by rw [ha]; simp)] at h
  unfold fstA; rw [h]
theorem fstA_step {d : Dat} {ts : List Test} {x k : Nat} (h : k < ts.length) : fstA d (ts.drop k) x = if holdP d ts[k] = true then ts[k].action else fstA d (ts.drop (k + 1)) x := by
  rw [List.drop_eq_getElem_cons h, fstA_cons]
theorem fstA_end (d : Dat) (ts : List Test) (x : Nat) : fstA d (ts.drop ts.length) x = x := by rw [List.drop_length]; rfl
theorem denA_not {f : Filter} {d : Dat} (h : ownA f d = false) : denA f d = 2147418112 := by unfold denA; rw [h]; rfl
theorem denA_own {f : Filter} {d : Dat} (h : ownA f d = true) : denA f d = denL d f.dflt f.rules := by unfold denA; rw [h]; rfl
set_option maxRecDepth 100000 in
set_option maxHeartbeats 1000000 in
theorem Denote_calls (f : Filter) (u : Value) (hf : OkF f) (d : Dat) (hd : OkD d) (w : World) (hu : RdR w 3 (IsR w) u f.rules) :
    Calls Try.prog 28 #[.agg #[.int .i64 f.arch, u, .int .u32 (f.dflt : Int)], datV d] w fun e w' => e = .returned (.int .u32 (denA f d : Nat)) ∧ Ext w w' := by
  have hO := fun W => L08.Of_calls d.ar d.nr hd.nr W
  have hFst := fun W (hx : Ext w W) B (hB : W.cell? ⟨B, 0, none⟩ = some (.int .u32 (d.nr : Int))) => denoteFirst_calls u f.rules d.nr B hf.l W hB (rdRR_ext hx hu)
  have hHld := fun B v (ts : List Test) (hl : ts.length ≤ 140737488351232) (hok : ∀ t ∈ ts, OkT t) W (hB : Cda W B d) (hv : Rd W 4 encT v ts) => firstHold_calls d hd B v ts hl hok W hB hv
  have hok := hf.r
  have how : ownA f d = ((ofA d.ar d.nr).2 && ((ofA d.ar d.nr).1 == f.arch)) := rfl
  obtain ⟨av, cv, rfl, -, -⟩ := rdR_cell hu
  unfold datV
  generalize (ofA d.ar d.nr).1 = oa at *
  generalize (ofA d.ar d.nr).2 = ob at *
  clear hu
  have HhO := Lib.hid hO
  clear hO
  have HhFst := Lib.hid hFst
  clear hFst
  have HhHld := Lib.hid hHld
  clear hHld
  have Hhok := Lib.hid hok
  clear hok
  cases ob
  · rw [Bool.false_and] at how
    rw [denA_not how]
    have Hhow := Lib.hid how
    clear how
    go_enter Try.func28, Try.ntmps28
    go_wp2_with fail
    refine (HhO.out _).mono ?_
    rintro e w1 ⟨rfl, hx1⟩
    go_wp2_with fail
    go_ret
    exact ⟨rfl, (((Ext.refl _).alloc _).alloc _).trans hx1⟩
  rw [Bool.true_and] at how
  have hq : (oa != f.arch) = !(oa == f.arch) := rfl
  cases hab : (oa == f.arch)
  · rw [hab] at how hq
    rw [denA_not how]
    rw [Bool.not_false] at hq
    have Hhow := Lib.hid how
    clear how
    have Hhab := Lib.hid hab
    clear hab
    go_enter Try.func28, Try.ntmps28
    go_wp2_with fail
    refine (HhO.out _).mono ?_
    rintro e w1 ⟨rfl, hx1⟩
    have z0 := hx1.cell (p := ⟨w.heap.size, 0, none⟩) (by simp [go_sem]; rfl)
    go_wp2_with fail
    go_ret
    exact ⟨rfl, (((Ext.refl _).alloc _).alloc _).trans hx1⟩
  rw [hab] at how hq
  rw [denA_own how]
  rw [Bool.not_true] at hq
  have Hhow := Lib.hid how
  clear how
  have Hhab := Lib.hid hab
  clear hab
  obtain ⟨ar, rs, df⟩ := f
  dsimp only at *
  rcases idxR_find d.nr rs 0 with ⟨h1, -⟩ | ⟨i, hi, h1, -⟩
  · rw [denL_no h1]
    have HI := Lib.hid h1
    rw [h1] at HhFst
    clear h1
    go_enter Try.func28, Try.ntmps28
    go_wp2_with fail
    refine (HhO.out _).mono ?_
    rintro e w1 ⟨rfl, hx1⟩
    have z0 := hx1.cell (p := ⟨w.heap.size, 0, none⟩) (by simp [go_sem]; rfl)
    have z1 := hx1.cell (p := ⟨w.heap.size, 1, none⟩) (by simp [go_sem]; rfl)
    have z2 := hx1.cell (p := ⟨w.heap.size, 2, none⟩) (by simp [go_sem]; rfl)
    have hcd : Cda w1 (w.heap.size + 1) d := ⟨hx1.cell (by simp [go_sem]), hx1.cell (by simp [go_sem]), hx1.cell (by simp [go_sem]), hx1.cell (by simp [go_sem]), hx1.cell (by simp [go_sem]), hx1.cell (by simp [go_sem]), hx1.cell (by simp [go_sem]), hx1.cell (by simp [go_sem]), hx1.cell (by simp [go_sem])⟩
    have HX1 := Lib.hid ((((Ext.refl w).alloc _).alloc _).trans hx1)
    have HCD := Lib.hid hcd
    clear hx1 hcd
    go_wp2_with fail
    refine (HhFst.out _ HX1.out _ HCD.out.c0).mono ?_
    rintro e w2 ⟨r, v, rfl, hx2, hfnd⟩
    rcases hfnd with ⟨-, rfl, rfl⟩ | ⟨i, hi, h1, -, -⟩
    case inr => exact absurd (HI.out.symm.trans h1) (by omega)
    replace z2 := hx2.cell z2
    have HX2 := Lib.hid (HX1.out.trans hx2)
    have q2 := fun o => ((Ext.refl w2).alloc o).cell z2
    clear z0 z1 hx2 z2
    dsimp only
    go_wp2_with fail
    go_ret
    exact ⟨rfl, HX2.out.alloc _⟩
  · rw [Nat.zero_add] at h1
    rw [denL_yes hi h1]
    have hokr := Hhok.out _ (List.getElem_mem hi)
    have hd0 : decide (0 ≤ idxR d.nr rs 0) = true := decide_eq_true (by omega)
    rw [hd0] at HhFst
    have HI := Lib.hid h1
    have Hhd0 := Lib.hid hd0
    clear hd0
    clear h1
    have hR : ∀ (r : Rule) (v : Value) (W : World), FndR W d.nr rs r v → r = rs[i]'hi ∧ Rd W 4 encT v r.tests := fun r v W h => by
      rcases h with ⟨h1, -, -⟩ | ⟨j, hj, h1, rfl, h2⟩
      · exact absurd (h1.symm.trans HI.out) (by omega)
      · obtain rfl : j = i := by have := h1.symm.trans HI.out; omega
        exact ⟨rfl, h2⟩
    have HhR := Lib.hid hR
    clear hR
    generalize rs[i]'hi = r0 at *
    obtain ⟨rn, ts, ra⟩ := r0
    dsimp only at *
    cases hany : ts.any (holdP d)
    · have hv0 : fstA d ts ra = ra := by
        rcases idxH_cases (holdP d) ts 0 with ⟨-, -, h⟩ | ⟨j, hj, -, -, h⟩
        · unfold fstA; rw [h]
        · rw [hany] at h; cases h
      rw [hv0]
      have hHq := fun B v (hl : ts.length ≤ 140737488351232) (hok : ∀ t ∈ ts, OkT t) W (hB : Cda W B d) (hv : Rd W 4 encT v ts) => HhHld.out B v ts hl hok W hB hv
      rw [hany] at hHq
      have Hhv0 := Lib.hid hv0
      clear hv0
      have HhHq := Lib.hid hHq
      clear hHq
      have Hhany := Lib.hid hany
      clear hany
      have Hhokr := Lib.hid hokr
      clear hokr
      go_enter Try.func28, Try.ntmps28
      go_wp2_with fail
      refine (HhO.out _).mono ?_
      rintro e w1 ⟨rfl, hx1⟩
      have z0 := hx1.cell (p := ⟨w.heap.size, 0, none⟩) (by simp [go_sem]; rfl)
      have z1 := hx1.cell (p := ⟨w.heap.size, 1, none⟩) (by simp [go_sem]; rfl)
      have z2 := hx1.cell (p := ⟨w.heap.size, 2, none⟩) (by simp [go_sem]; rfl)
      have hcd : Cda w1 (w.heap.size + 1) d := ⟨hx1.cell (by simp [go_sem]), hx1.cell (by simp [go_sem]), hx1.cell (by simp [go_sem]), hx1.cell (by simp [go_sem]), hx1.cell (by simp [go_sem]), hx1.cell (by simp [go_sem]), hx1.cell (by simp [go_sem]), hx1.cell (by simp [go_sem]), hx1.cell (by simp [go_sem])⟩
      have HX1 := Lib.hid ((((Ext.refl w).alloc _).alloc _).trans hx1)
      have HCD := Lib.hid hcd
      clear hx1 hcd
      go_wp2_with fail
      refine (HhFst.out _ HX1.out _ HCD.out.c0).mono ?_
      rintro e w2 ⟨r, v, rfl, hx2, hfnd⟩
      obtain ⟨rfl, hrd⟩ := HhR.out _ _ _ hfnd
      have HCD2 := Lib.hid (HCD.out.ext hx2)
      have HX2 := Lib.hid (HX1.out.trans hx2)
      replace hrd := hrd.ext hx2
      clear z0 z1 hx2 hfnd z2
      dsimp only at hrd ⊢
      obtain ⟨avv, cvv, rfl, -, -⟩ := rdT_cell hrd
      have HRD := Lib.hid hrd
      clear hrd
      go_wp2_with fail
      refine (HhHq.out _ _ Hhokr.out.l Hhokr.out.t _ (HCD2.out.ext ((Ext.refl _).alloc _)) (HRD.out.ext ((Ext.refl _).alloc _))).mono ?_
      rintro e w3 ⟨t, rfl, hx3, hft⟩
      have y2 := hx3.cell (p := ⟨w2.heap.size, 2, none⟩) (by simp [go_sem]; rfl)
      have HX3 := Lib.hid ((HX2.out.alloc _).trans hx3)
      have q2 := fun o => ((Ext.refl w3).alloc o).cell y2
      clear hx3 hft y2
      go_wp2_with fail
      go_ret
      exact ⟨rfl, HX3.out.alloc _⟩
    · obtain ⟨t0, ht0⟩ : ∃ t0, ts.find? (holdP d) = some t0 := by
        rcases idxH_cases (holdP d) ts 0 with ⟨-, h, -⟩ | ⟨j, hj, -, h, -⟩
        · rw [hany] at h; cases h
        · exact ⟨_, h⟩
      have hv0 : fstA d ts ra = t0.action := by unfold fstA; rw [ht0]
      rw [hv0]
      have hHq := fun B v (hl : ts.length ≤ 140737488351232) (hok : ∀ t ∈ ts, OkT t) W (hB : Cda W B d) (hv : Rd W 4 encT v ts) => HhHld.out B v ts hl hok W hB hv
      rw [hany] at hHq
      have hF0 : ∀ t, FndT d ts t → t = t0 := fun t h => by
        unfold FndT at h
        rw [ht0, hany] at h
        exact (Option.some.inj h).symm
      have HhF0 := Lib.hid hF0
      clear hF0
      have Hht0 := Lib.hid ht0
      clear ht0
      have Hhv0 := Lib.hid hv0
      clear hv0
      have HhHq := Lib.hid hHq
      clear hHq
      have Hhany := Lib.hid hany
      clear hany
      have Hhokr := Lib.hid hokr
      clear hokr
      go_enter Try.func28, Try.ntmps28
      go_wp2_with fail
      refine (HhO.out _).mono ?_
      rintro e w1 ⟨rfl, hx1⟩
      have z0 := hx1.cell (p := ⟨w.heap.size, 0, none⟩) (by simp [go_sem]; rfl)
      have z1 := hx1.cell (p := ⟨w.heap.size, 1, none⟩) (by simp [go_sem]; rfl)
      have z2 := hx1.cell (p := ⟨w.heap.size, 2, none⟩) (by simp [go_sem]; rfl)
      have hcd : Cda w1 (w.heap.size + 1) d := ⟨hx1.cell (by simp [go_sem]), hx1.cell (by simp [go_sem]), hx1.cell (by simp [go_sem]), hx1.cell (by simp [go_sem]), hx1.cell (by simp [go_sem]), hx1.cell (by simp [go_sem]), hx1.cell (by simp [go_sem]), hx1.cell (by simp [go_sem]), hx1.cell (by simp [go_sem])⟩
      have HX1 := Lib.hid ((((Ext.refl w).alloc _).alloc _).trans hx1)
      have HCD := Lib.hid hcd
      clear hx1 hcd
      go_wp2_with fail
      refine (HhFst.out _ HX1.out _ HCD.out.c0).mono ?_
      rintro e w2 ⟨r, v, rfl, hx2, hfnd⟩
      obtain ⟨rfl, hrd⟩ := HhR.out _ _ _ hfnd
      have HCD2 := Lib.hid (HCD.out.ext hx2)
      have HX2 := Lib.hid (HX1.out.trans hx2)
      replace hrd := hrd.ext hx2
      clear z0 z1 hx2 hfnd z2
      dsimp only at hrd ⊢
      obtain ⟨avv, cvv, rfl, -, -⟩ := rdT_cell hrd
      have HRD := Lib.hid hrd
      clear hrd
      go_wp2_with fail
      refine (HhHq.out _ _ Hhokr.out.l Hhokr.out.t _ (HCD2.out.ext ((Ext.refl _).alloc _)) (HRD.out.ext ((Ext.refl _).alloc _))).mono ?_
      rintro e w3 ⟨t, rfl, hx3, hft⟩
      obtain rfl := HhF0.out _ hft
      have HX3 := Lib.hid ((HX2.out.alloc _).trans hx3)
      clear hx3 hft
      go_wp2_with fail
      go_ret
      exact ⟨rfl, HX3.out.alloc _⟩
end L21
end Go.Proofs.Ytkmhfjnjfghnjaa

/- Cut out of XTreeD, XTreeE, XTreeG by wip/tools/cutout.py: what Build_calls, infoN lean on. -/
namespace Go.Proofs.Ytkmhfjnjfghnjaa
open Go.RowKit V
namespace L24
open L23
theorem infoN : (Try.prog.info? 148).map (fun i => (i.zero, i.size, i.bytes)) = some (some (.agg #[.bool false, .int .i64 0, .int .u32 0, .int .i64 0, .int .i64 0]), 5, 40) := by kernel_rfl
/-- a slice of nodes that a call made, from a block on -/
def OwnN (w : World) (base : Nat) (v : Value) (xs : List Node) : Prop := w.ownsRow base 148 5 v xs.length (xs.flatMap encN)
theorem OwnN.rd {w : World} {base : Nat} {v : Value} {xs : List Node} (h : OwnN w base v xs) : Rd w 5 encN v xs := rd_of_own encN_len h
theorem OwnN.ext {w w' : World} {base : Nat} {v : Value} {xs : List Node} (h : OwnN w base v xs) (hx : Ext w w') : OwnN w' base v xs := by
  obtain ⟨h1, h2⟩ := h
  refine ⟨h1, ?_⟩
  rcases h2 with h2 | ⟨g, cap, cur, hv, hg, hh, r⟩
  · exact .inl h2
  · exact .inr ⟨g, cap, cur, hv, hg, (hx.block (Array.getElem?_eq_some_iff.1 hh).1).trans hh, r⟩
theorem OwnN.base {W : World} {base base' : Nat} {u : Value} {xs : List Node} (h : OwnN W base u xs) (hb : base' ≤ base) : OwnN W base' u xs := by
  obtain ⟨h1, h2⟩ := h
  refine ⟨h1, ?_⟩
  rcases h2 with h2 | ⟨g, cap, cur, hv, hg, r⟩
  · exact .inl h2
  · exact .inr ⟨g, cap, cur, hv, by omega, r⟩
/-- what is kept by a turn of the closure: all ahead of its own memory, but the tree's box -/
abbrev Kp (base Bt : Nat) : Nat → Prop := fun k => k < base ∧ k ≠ Bt
theorem kp_alloc {base Bt : Nat} {a w : World} (h : Keep (Kp base Bt) a w) (hb : base ≤ w.heap.size) (o : Obj) : Keep (Kp base Bt) a (w.alloc o) := h.trans (Keep.alloc w (fun k hk => by have := hk.1; omega) o)
theorem kp_drew {base Bt : Nat} {a w : World} (h : Keep (Kp base Bt) a w) : Keep (Kp base Bt) a w.drew := ⟨h.os, h.tape, h.output, h.size, h.block⟩
theorem kp_drewN {base Bt : Nat} {a w : World} (h : Keep (Kp base Bt) a w) (n : Nat) : Keep (Kp base Bt) a (w.drewN n) := by
  induction n with
  | zero => exact h
  | succ n ih => exact kp_drew ih
theorem kp_grown {base Bt : Nat} {a w w' : World} {u : Value} (h : Keep (Kp base Bt) a w) (hb : base ≤ w.heap.size) (hg : w.grownBy w' u.ownBlock) (hlo : ∀ k, u.ownBlock = some k → base ≤ k ∧ k < w.heap.size) : Keep (Kp base Bt) a w' :=
  h.trans ⟨hg.os, hg.tape, hg.output, hg.size, fun k hk => hg.block k (by have := hk.1; omega) (fun e => by have := (hlo k e.symm).1; have := hk.1; omega)⟩
theorem kp_set {base Bt : Nat} {a w : World} (h : Keep (Kp base Bt) a w) (v : Value) : Keep (Kp base Bt) a (w.setCell ⟨Bt, 0, none⟩ v) := h.trans (Keep.setCell w (fun h => h.2 rfl) v)
theorem kp_store {base Bt : Nat} {a w : World} (h : Keep (Kp base Bt) a w) {p : Addr} (hp : base ≤ p.block) (v : Value) : Keep (Kp base Bt) a (w.setCell p v) := h.trans (Keep.setCell w (fun h => by have := h.1; omega) v)
theorem bt_after {w w4 : World} {o : Obj} {B t : Nat} {v : Value} {row : Option Nat} (h : Boxed w B t v) (hg : (w.alloc o).drew.grownBy w4 row) (hne : some B ≠ row) : Boxed w4 B t v :=
  Boxed.kept (W := (w.alloc o).drew) (h.alloc o) hg hne
theorem ownN_set {w : World} {base B : Nat} {v : Value} {xs : List Node} (h : OwnN w base v xs) (hB : B < base) (u : Value) : OwnN (w.setCell ⟨B, 0, none⟩ u) base v xs := ownsRow_setCell_below (a := ⟨B, 0, none⟩) h hB u
theorem ownN_of {w : World} {base n : Nat} {v : Value} {xs : List Node} (h : w.ownsRow base 148 5 v n (xs.flatMap encN)) (hn : n = xs.length) : OwnN w base v xs := by subst hn; exact h
def growF (Bt Bg : Nat) : Value := .func (.func 102) #[] #[.pointer (some ⟨Bt, 0, none⟩), .pointer (some ⟨Bg, 0, none⟩)]
def GrowPost (base Bt : Nat) (out : List Node) (w : World) (e : Ending) (w' : World) : Prop :=
  e = .returned (.tuple #[]) ∧ ∃ u', Boxed w' Bt 111 u' ∧ OwnN w' base u' out ∧ Keep (Kp base Bt) w w'
set_option maxRecDepth 100000 in
set_option maxHeartbeats 1000000 in
theorem grow_one (Bt Bg base : Nat) (hBt : Bt < base) (l : List Span) (v u : Value) (out : List Node) (w : World) (h1 : l.length = 1) (ho : out.length ≤ 100000) (hb : base ≤ w.heap.size)
    (bt : Boxed w Bt 111 u) (hown : OwnN w base u out) (hR : Rd w 3 encS v l) :
    Calls Try.prog 102 #[v, .pointer (some ⟨Bt, 0, none⟩), .pointer (some ⟨Bg, 0, none⟩)] w (GrowPost base Bt (out ++ tre l out.length) w) := by
  obtain ⟨ad, c, rfl, hac, hca⟩ := rdS_cell hR
  clear hR
  obtain ⟨b, o, rfl, -, -, f3⟩ := hca 0 (by omega)
  rw [Nat.zero_mul, Nat.add_zero] at f3
  have hk0 : (l.length : Int) / 2 = 0 := by omega
  have hb1 : (0 : Int) < (l.length : Int) := by omega
  have hb2 : 0 < l.length := by omega
  have htr := tre_one (a := out.length) h1
  have hwy : wy l 0 = l[0].way := wy_get (by omega)
  rw [← hwy] at f3
  clear hwy
  rw [htr]
  generalize wy l 0 = y at *
  have cbt := bt.cell
  have hlo := hown.lt
  have hbo : ∀ o, (w.alloc o).cell? ⟨Bt, 0, none⟩ = some u := fun o => (bt.alloc o).cell
  have hel : out.length + [(⟨true, y, 0, 0, 0⟩ : Node)].length = out.length + 1 := rfl
  clear htr
  have Hh1 := Lib.hid h1
  clear h1
  have Hhown := Lib.hid hown
  clear hown
  have Hhlo := Lib.hid hlo
  clear hlo
  have Hbt := Lib.hid bt
  clear hca
  go_enter Try.func102, Try.ntmps102
  go_wp2
  (go_region_law ((refine step_app_g rfl (.tmp 11) (.tmp 17) _ rfl Try.underlying111 infoN rfl (by decide) encN_len encN_one base _ _ out [⟨true, y, 0, 0, 0⟩] (by rfl) (by rfl) (by exact World.ownsRow.alloc Hhown.out _) (Rd.ext ((Ext.refl _).drew) (rd_lit encN_len w [⟨true, y, 0, 0, 0⟩] _ _ rfl)) (by simp; omega) (by decide) (by simp; omega) ?_; intro au4 cu4 w4 ho4 hg4; rw [hel] at ho4 ⊢; have bt4 := bt_after Hbt.out hg4 (by intro e; have := (Hhlo.out _ e.symm).1; omega); have cbt4 := bt4.cell; have cbf4 := bt4.frozen; have Hbt4 := Lib.hid bt4; have Hho4 := Lib.hid ho4; have Hhg4 := Lib.hid hg4; clear bt4 ho4 hg4)))
  all_goals
    go_wp2
    refine bodyPost_ret (results_none rfl _ _ _) rfl ?_
    refine ⟨rfl, _, Hbt4.out.set _, ownN_set (ownN_of Hho4.out (by simp)) hBt _, ?_⟩
    exact kp_set (kp_grown (kp_drew (kp_alloc (Keep.refl _ _) hb _)) (by simp; omega) Hhg4.out (fun k hk => ⟨(Hhlo.out k hk).1, by have := (Hhlo.out k hk).2; simp; omega⟩)) _
def GrowMid (base Bt : Nat) (out : List Node) (w w' : World) : Prop := ∃ u', Boxed w' Bt 111 u' ∧ OwnN w' base u' out ∧ Keep (Kp base Bt) w w'
set_option maxRecDepth 100000 in
set_option maxHeartbeats 2000000 in
theorem grow_more (Bt Bg base : Nat) (hBt : Bt < base) (hBg : Bg < base) (hne : Bg ≠ Bt) (l : List Span) (v u : Value) (out : List Node) (w : World) (h2 : 2 ≤ l.length) (hl : l.length ≤ 1000) (ho : out.length + 2 * l.length ≤ 100000) (hb : base ≤ w.heap.size)
    (bt : Boxed w Bt 111 u) (bg : Boxed w Bg 144 (growF Bt Bg)) (hown : OwnN w base u out) (hok : ∀ s ∈ l, OkS s) (hR : ∀ W, Keep (Kp base Bt) w W → Rd W 3 encS v l)
    (ih : ∀ (l' : List Span) (v u : Value) (out : List Node) (w : World), l'.length < l.length → 0 < l'.length → out.length + 2 * l'.length ≤ 100000 → base ≤ w.heap.size → Boxed w Bt 111 u → Boxed w Bg 144 (growF Bt Bg) → OwnN w base u out → (∀ s ∈ l', OkS s) →
      (∀ W, Keep (Kp base Bt) w W → Rd W 3 encS v l') → Calls Try.prog 102 #[v, .pointer (some ⟨Bt, 0, none⟩), .pointer (some ⟨Bg, 0, none⟩)] w (GrowPost base Bt (out ++ tre l' out.length) w)) :
    Calls Try.prog 102 #[v, .pointer (some ⟨Bt, 0, none⟩), .pointer (some ⟨Bg, 0, none⟩)] w (GrowPost base Bt (out ++ tre l out.length) w) := by
  obtain ⟨ad, c, rfl, hac, hca⟩ := rdS_cell (hR w (Keep.refl _ _))
  obtain ⟨au, cu, rfl, -⟩ := rdN_cell hown.rd
  obtain ⟨k, hk⟩ : ∃ k, k = l.length / 2 := ⟨_, rfl⟩
  have hk' : (l.length : Int) / 2 = (k : Int) := by omega
  have hkz : ((k : Int) == 0) = false := by simp; omega
  have htr := tre_cons (a := out.length) h2
  rw [← hk] at htr
  have hkl : k < l.length := by omega
  have hb1 : (k : Int) < (l.length : Int) := by omega
  have hb3 : (k : Int) ≤ (c : Int) := by omega
  have hb4 : (0 : Int) ≤ (k : Int) := by omega
  have hb5 : (l.length : Int) ≤ (c : Int) := by omega
  have hb6 : (k : Int) ≤ (l.length : Int) := by omega
  have hlt : (l.take k).length = k := by rw [List.length_take]; omega
  have hld : (l.drop k).length = l.length - k := by rw [List.length_drop]
  obtain ⟨b, o, rfl, f1, -, -⟩ := hca k hkl
  have hlo : loAt l k = l[k].lo := loAt_get hkl
  rw [← hlo] at f1
  clear hlo hca
  generalize loAt l k = lo at *
  have cbt := bt.cell
  have cbf := bt.frozen
  have hol := hown.lt
  have hws : IntKind.i64.wrap ((out.length : Int) + 1) = (out.length : Int) + 1 := IntWalk.i64_in _ (by omega)
  rw [htr]
  clear htr
  have Hhk := Lib.hid hk
  clear hk
  have Hhlt := Lib.hid hlt
  clear hlt
  have Hhld := Lib.hid hld
  clear hld
  have HhR := Lib.hid hR
  clear hR
  have Hih := Lib.hid ih
  clear ih
  have Hhown := Lib.hid hown
  clear hown
  have Hhol := Lib.hid hol
  clear hol
  have Hbt := Lib.hid bt
  have Hbg := Lib.hid bg
  clear bg
  have Hhok := Lib.hid hok
  clear hok
  go_enter Try.func102, Try.ntmps102
  go_upto_region 4 with fail
  go_cut [] (fun wx => GrowMid base Bt (out ++ [⟨false, 0, lo, (out.length : Int) + 1, 0⟩]) w wx)
  case first =>
    have hbo : ∀ o, (w.alloc o).cell? ⟨Bt, 0, none⟩ = some (.slice au out.length cu) := fun o => (Hbt.out.alloc o).cell
    (go_region_law ((refine step_app_g rfl (.tmp 21) (.tmp 30) _ rfl Try.underlying111 infoN rfl (by decide) encN_len encN_one base _ _ out [⟨false, 0, lo, (out.length : Int) + 1, 0⟩] (by rfl) (by rfl) (by exact World.ownsRow.alloc Hhown.out _) (Rd.ext ((Ext.refl _).drew) (rd_lit encN_len w [⟨false, 0, lo, (out.length : Int) + 1, 0⟩] _ _ rfl)) (by simp; omega) (by decide) (by simp; omega) ?_; intro au4 cu4 w4 ho4 hg4; have bt4 := bt_after Hbt.out hg4 (by intro e; have := (Hhol.out _ e.symm).1; omega); have cbt4 := bt4.cell; have cbf4 := bt4.frozen; have Hbt4 := Lib.hid bt4; have Hho4 := Lib.hid ho4; have Hhg4 := Lib.hid hg4; clear bt4 ho4 hg4)))
    all_goals
      go_wp2_with fail
      go_meet
      exact ⟨_, Hbt4.out.set _, ownN_set (ownN_of Hho4.out (by simp)) hBt _, kp_set (kp_grown (kp_drew (kp_alloc (Keep.refl _ _) hb _)) (by simp; omega) Hhg4.out (fun k hk => ⟨(Hhol.out k hk).1, by have := (Hhol.out k hk).2; simp; omega⟩)) _⟩
  case rest =>
    obtain ⟨u5, b5, o5, k5⟩ := hcut
    have bg5 : Boxed wc Bg 144 (growF Bt Bg) := (k5.block Bg ⟨hBg, hne⟩).trans Hbg.out
    have hl5 : (out ++ [(⟨false, 0, lo, (out.length : Int) + 1, 0⟩ : Node)]).length = out.length + 1 := by simp
    have hr1 := fun n => Hih.out (l.take k) (.slice (some ⟨b, o, none⟩) k k) u5 (out ++ [(⟨false, 0, lo, (out.length : Int) + 1, 0⟩ : Node)]) (wc.drewN n) (by rw [Hhlt.out]; omega) (by rw [Hhlt.out]; omega) (by rw [hl5, Hhlt.out]; omega) (by rw [heap_drewN]; exact Nat.le_trans hb k5.size) (by unfold Boxed; rw [heap_drewN]; exact b5) (by unfold Boxed; rw [heap_drewN]; exact bg5) (ownsRow_drewN o5 n) (fun s hs => Hhok.out s (List.mem_of_mem_take hs)) (fun W hW => (HhR.out W ((kp_drewN k5 n).trans hW)).take (by omega) (Nat.le_refl _) (by intro h; cases h))
    have cbg5 : wc.cell? ⟨Bg, 0, none⟩ = some (.func (.func 102) #[] #[.pointer (some ⟨Bt, 0, none⟩), .pointer (some ⟨Bg, 0, none⟩)]) := bg5.cell
    have K5 := Lib.hid k5
    have BG5 := Lib.hid bg5
    have Hhl5 := Lib.hid hl5
    have Hr1 := Lib.hid (hr1 1)
    clear hr1 b5 o5 k5 bg5 hl5
    go_wp2_with fail
    (go_region_held3 (fun w' => w'.cell? ⟨Bg, 0, none⟩ = some (.func (.func 102) #[] #[.pointer (some ⟨Bt, 0, none⟩), .pointer (some ⟨Bg, 0, none⟩)])) (first | exact cbg5 | exact (Keep.cell HK6.out ⟨hBg, hne⟩).trans cbg5)
      (first | (go_at_call 102; refine Hr1.out.mono ?_; rintro e w6 ⟨rfl, u6, b6, o6, k6⟩; have HK6 := Lib.hid k6; have HB6 := Lib.hid b6; have HO6 := Lib.hid o6; clear k6 b6 o6)))
    have hL6 : (out ++ [(⟨false, 0, lo, (out.length : Int) + 1, 0⟩ : Node)] ++ tre (l.take k) (out ++ [(⟨false, 0, lo, (out.length : Int) + 1, 0⟩ : Node)]).length).length = out.length + 2 * k := by
      rw [List.length_append, Hhl5.out, tre_len _ (by rw [Hhlt.out]; omega), Hhlt.out]; omega
    have o6 := HO6.out
    have b6 := HB6.out
    rw [Hhl5.out] at hL6 o6
    obtain ⟨L6, hL6v⟩ : ∃ L6, L6 = out ++ [(⟨false, 0, lo, (out.length : Int) + 1, 0⟩ : Node)] ++ tre (l.take k) (out.length + 1) := ⟨_, rfl⟩
    rw [← hL6v] at hL6 o6
    have hg6 : L6[out.length]? = some ⟨false, 0, lo, (out.length : Int) + 1, 0⟩ := by rw [hL6v, List.append_assoc, List.getElem?_append_right (Nat.le_refl _), Nat.sub_self]; rfl
    obtain ⟨hlt6, hg6⟩ := List.getElem?_eq_some_iff.1 hg6
    obtain ⟨g6, c6, rfl, hgb6, hgs6, hfz6⟩ := own_parts o6 (by omega)
    obtain ⟨a6, c6', e6, -, hc6⟩ := rdN_cell o6.rd
    obtain ⟨b7, o7, e7, -, -, -, -, m5⟩ := hc6 out.length hlt6
    simp only [Value.slice.injEq] at e6
    rw [← e6.1] at e7
    obtain ⟨rfl, rfl⟩ : g6 = b7 ∧ 0 = o7 := by simpa using e7
    rw [Nat.zero_add] at m5
    have hst := fun x => own_store (e := 148) encN_len o6 out.length 4 (.int .i64 x) ⟨false, 0, lo, (out.length : Int) + 1, x⟩ hlt6 (by decide) (by rw [hg6]; rfl)
    have hfz := hfz6 (out.length * 5 + 4)
    have cb6 := b6.cell
    have hlt6' : (out.length : Int) < (L6.length : Int) := by omega
    rw [hL6] at cb6 hlt6'
    have hst7 := fun x => (hst x).1
    rw [hL6] at hst7
    have hb6n : g6 ≠ Bt := by omega
    have hv6 : L6.set out.length ⟨false, 0, lo, (out.length : Int) + 1, ((out.length + 2 * k : Nat) : Int)⟩ = out ++ ⟨false, 0, lo, (out.length : Int) + 1, (out.length : Int) + 1 + (2 * k - 1 : Nat)⟩ :: tre (l.take k) (out.length + 1) := by
      rw [hL6v, List.append_assoc, List.set_append_right _ _ (Nat.le_refl _), Nat.sub_self]
      simp
      omega
    rw [hL6] at b6
    generalize hq : out.length + 2 * k = q at *
    have Hhst := Lib.hid hst
    clear hst
    have Hhst7 := Lib.hid hst7
    clear hst7
    have HhL6 := Lib.hid hL6
    clear hL6
    have HhL6v := Lib.hid hL6v
    clear hL6v
    have Hhg6 := Lib.hid hg6
    clear hg6
    have Hhfz6 := Lib.hid hfz6
    clear hfz6
    have Hhv6 := Lib.hid hv6
    clear hv6
    have Hb6 := Lib.hid b6
    clear b6
    have Ho6 := Lib.hid o6
    clear o6
    have Hhq := Lib.hid hq
    clear hq
    clear HB6 HO6 hc6 e6 e7
    go_wp2_with fail
    have b7 : Boxed (w6.setCell ⟨g6, out.length * 5 + 4, none⟩ (.int .i64 (q : Int))) Bt 111 (.slice (some ⟨g6, 0, none⟩) q c6) := by
      unfold Boxed; rw [Below.heap_setCell _ _ _ _ (by simp only; omega)]; exact Hb6.out
    have k7 : Keep (Kp base Bt) w (w6.setCell ⟨g6, out.length * 5 + 4, none⟩ (.int .i64 (q : Int))) := kp_store ((kp_drewN K5.out 1).trans HK6.out) hgb6 _
    have o7 := Hhst7.out (q : Int)
    have hL7 : (L6.set out.length (⟨false, 0, lo, (out.length : Int) + 1, (q : Int)⟩ : Node)).length = q := by rw [List.length_set]; exact HhL6.out
    have o7' : OwnN (w6.setCell ⟨g6, out.length * 5 + 4, none⟩ (.int .i64 (q : Int))) base (.slice (some ⟨g6, 0, none⟩) q c6) (L6.set out.length ⟨false, 0, lo, (out.length : Int) + 1, (q : Int)⟩) := ownN_of o7 hL7.symm
    have hv6 := Hhv6.out
    have hqv := Hhq.out
    generalize (w6.setCell ⟨g6, out.length * 5 + 4, none⟩ (.int .i64 (q : Int))) = w7 at *
    generalize (L6.set out.length (⟨false, 0, lo, (out.length : Int) + 1, (q : Int)⟩ : Node)) = L7 at *
    have bg7 : Boxed w7 Bg 144 (growF Bt Bg) := (k7.block Bg ⟨hBg, hne⟩).trans Hbg.out
    have hr2 := Hih.out (l.drop k) (.slice (some ⟨b, o + k * 3, none⟩) (l.length - k) (l.length - k)) _ L7 (w7.drewN 1) (by rw [Hhld.out]; omega) (by rw [Hhld.out]; omega) (by rw [hL7, Hhld.out]; omega) (by rw [heap_drewN]; exact Nat.le_trans hb k7.size) (by unfold Boxed; rw [heap_drewN]; exact b7) (by unfold Boxed; rw [heap_drewN]; exact bg7) (ownsRow_drewN o7' 1) (fun s hs => Hhok.out s (List.mem_of_mem_drop hs)) (fun W hW => (HhR.out W ((kp_drewN k7 1).trans hW)).drop (by omega) (fun _ => by simp only [Option.map_some, Addr.add]; rw [if_neg (by omega)]) (by intro h; cases h) (Nat.le_refl _))
    rw [hL7] at hr2
    have cbg7 : w7.cell? ⟨Bg, 0, none⟩ = some (.func (.func 102) #[] #[.pointer (some ⟨Bt, 0, none⟩), .pointer (some ⟨Bg, 0, none⟩)]) := bg7.cell
    have hnek : ¬ l.length = k := by omega
    have hnek2 : ¬ k = 0 := by omega
    have hnek3 : ¬ k * 3 = 0 := by omega
    have hqn : q = out.length + 1 + (2 * k - 1) := by omega
    have K7 := Lib.hid k7
    have Hhr2 := Lib.hid hr2
    clear hr2
    have Hhv6 := Lib.hid hv6
    clear hv6
    have Hhqv := Lib.hid hqv
    clear hqv
    have HhL7 := Lib.hid hL7
    clear hL7
    have Hhqn := Lib.hid hqn
    clear hqn
    clear b7 o7 o7' k7 bg7 cb6 hfz m5 cbg5 Hhst Hhst7 Hhv6 Hb6 Ho6 HhL6 HhL6v Hhq
    (go_region_held3 (fun w' => w'.cell? ⟨Bg, 0, none⟩ = some (.func (.func 102) #[] #[.pointer (some ⟨Bt, 0, none⟩), .pointer (some ⟨Bg, 0, none⟩)])) (first | exact cbg7 | exact (Keep.cell HK8.out ⟨hBg, hne⟩).trans cbg7)
      (first | (go_at_call 102; refine Hhr2.out.mono ?_; rintro e w8 ⟨rfl, u8, b8, o8, k8⟩; have HK8 := Lib.hid k8; have HB8 := Lib.hid b8; have HO8 := Lib.hid o8; clear k8 b8 o8)))
    go_wp2_with fail
    refine bodyPost_ret (results_none rfl _ _ _) rfl ⟨rfl, u8, HB8.out, ?_, (kp_drewN K7.out 1).trans HK8.out⟩
    have o8 := HO8.out
    rw [Hhqn.out] at o8
    simpa [Hhv6.out] using o8
theorem grow_calls (Bt Bg base : Nat) (hBt : Bt < base) (hBg : Bg < base) (hne : Bg ≠ Bt) : ∀ (m : Nat) (l : List Span) (v u : Value) (out : List Node) (w : World), l.length ≤ m → 0 < l.length → l.length ≤ 1000 → out.length + 2 * l.length ≤ 100000 → base ≤ w.heap.size →
    Boxed w Bt 111 u → Boxed w Bg 144 (growF Bt Bg) → OwnN w base u out → (∀ s ∈ l, OkS s) → (∀ W, Keep (Kp base Bt) w W → Rd W 3 encS v l) →
    Calls Try.prog 102 #[v, .pointer (some ⟨Bt, 0, none⟩), .pointer (some ⟨Bg, 0, none⟩)] w (GrowPost base Bt (out ++ tre l out.length) w) := by
  intro m
  induction m with
  | zero => intro l v u out w h1 h2; omega
  | succ m ih =>
    intro l v u out w h1 h2 h3 h4 h5 bt bg ho hok hR
    by_cases h : l.length = 1
    · exact grow_one Bt Bg base hBt l v u out w h (by omega) h5 bt ho (hR w (Keep.refl _ _))
    · exact grow_more Bt Bg base hBt hBg hne l v u out w (by omega) h3 h4 h5 bt bg ho hok hR (fun l' v u out w a1 a2 a3 a4 a5 a6 a7 a8 a9 => ih l' v u out w (by omega) a2 (by omega) a3 a4 a5 a6 a7 a8 a9)
theorem rd_kept {α : Type} {w W : World} {n : Nat} {enc : α → List Value} {v : Value} {xs : List α} (h : Rd w n enc v xs) (hk : ∀ k, k < w.heap.size → W.heap[k]? = w.heap[k]?) : Rd W n enc v xs := by
  obtain ⟨a, c, h1, h2, h3, h4⟩ := h
  refine ⟨a, c, h1, h2, h3, fun i hi => ?_⟩
  obtain ⟨b, o, e, hat⟩ := h4 i hi
  refine ⟨b, o, e, fun j hj => ?_⟩
  have := hat j hj
  rw [World.cell?_of_block (w := w) (hk b (World.block_lt_of_cell? _ _ this))]
  exact this
set_option maxRecDepth 100000 in
set_option maxHeartbeats 1000000 in
theorem Build_calls (v : Value) (l : List Span) (hl : l.length ≤ 1000) (hok : ∀ s ∈ l, OkS s) (w : World) (hv : Rd w 3 encS v l) :
    Calls Try.prog 74 #[v] w fun e w' => ∃ u, e = .returned (.tuple #[u, .int .i64 (buildA l).2]) ∧ Ext w w' ∧ OwnN w' w.heap.size u (buildA l).1 := by
  have hWh := Whole_calls v l (by omega) hok w hv
  cases hw : whole l
  case false =>
    have hA : buildA l = ([], 240) := by unfold buildA; rw [hw]; rfl
    rw [hA]
    rw [hw] at hWh
    have HhWh := Lib.hid hWh
    clear hWh
    have Hhw := Lib.hid hw
    clear hw
    have HhA := Lib.hid hA
    clear hA
    go_enter Try.func74, Try.ntmps74
    go_wp2_with (go_at_call 101; refine HhWh.out.mono ?_; rintro e w1 ⟨rfl, hx1⟩)
    go_ret2
    exact ⟨_, rfl, hx1, World.ownsRow_nil _ _ _ _⟩
  case true =>
    have hA : buildA l = (tre l 0, 0) := by unfold buildA; rw [hw]; rfl
    have hp := whole_pos hw
    rw [hA]
    rw [hw] at hWh
    have HhWh := Lib.hid hWh
    clear hWh
    have Hhw := Lib.hid hw
    clear hw
    have HhA := Lib.hid hA
    clear hA
    go_enter Try.func74, Try.ntmps74
    go_wp2_with (go_at_call 101; refine HhWh.out.mono ?_; rintro e w1 ⟨rfl, hx1⟩)
    have b1 := Boxed.new w1 111 (.slice none 0 0)
    have b2 := Boxed.new (w1.alloc (.cells #[.slice none 0 0] 111)) 144 (growF w1.heap.size (w1.heap.size + 1))
    rw [World.size_alloc] at b2
    replace b1 := b1.alloc (.cells #[growF w1.heap.size (w1.heap.size + 1)] 144)
    have hE0 : Ext w1 ((w1.alloc (.cells #[.slice none 0 0] 111)).alloc (.cells #[growF w1.heap.size (w1.heap.size + 1)] 144)) := ((Ext.refl w1).alloc _).alloc _
    have hsz0 : ((w1.alloc (.cells #[.slice none 0 0] 111)).alloc (.cells #[growF w1.heap.size (w1.heap.size + 1)] 144)).heap.size = w1.heap.size + 2 := by simp
    unfold growF at b1 b2 hE0 hsz0
    generalize ((w1.alloc (.cells #[.slice none 0 0] 111)).alloc _) = W0 at *
    have hv1 := hv.ext hx1
    refine (grow_calls w1.heap.size (w1.heap.size + 1) (w1.heap.size + 2) (by omega) (by omega) (by omega) l.length l v (.slice none 0 0) [] W0 (Nat.le_refl _) hp hl (by simp; omega) (by omega) b1 b2 (World.ownsRow_nil _ _ _ _) hok
      (fun W hW => rd_kept hv1 (fun k hk => (hW.block k ⟨by omega, by omega⟩).trans (hE0.block hk)))).mono ?_
    rintro e w2 ⟨rfl, u, bu, hu, hk⟩
    have cu := bu.cell
    have HX2 := Lib.hid (hx1.trans (Below.trans hE0 (hk.below (fun k hk => ⟨by omega, by omega⟩))))
    have HU := Lib.hid (hu.base (base' := w.heap.size) (by have := hx1.size; omega))
    clear hk hu bu hE0 b1 b2 hsz0
    go_wp2_with fail
    go_ret2
    exact ⟨_, rfl, HX2.out, by simpa using HU.out⟩
end L24
end Go.Proofs.Ytkmhfjnjfghnjaa

