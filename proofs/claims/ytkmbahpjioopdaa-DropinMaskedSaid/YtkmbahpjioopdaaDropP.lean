/- Layer 14: the walk of the law DropinMasked. -/
import Derived.Test.YtkmbahpjioopdaaDropO
namespace Go.Proofs.Ytkmbahpjioopdaa
open Go.RowKit V
attribute [local go_sem] Oper.semAt_some Option.isSome_some
namespace L12
/-- a row of elements lies as it lay where another block grows -/
theorem rd_grown {α : Type} {n : Nat} {enc : α → List Value} {W W' : World} {g g1 c : Nat} {xs : List α} (h : Rd W n enc (.slice (some ⟨g, 0, none⟩) xs.length c) xs) (hg : W.grownBy W' (some g1)) (hne : g ≠ g1) : Rd W' n enc (.slice (some ⟨g, 0, none⟩) xs.length c) xs := by
  obtain ⟨a', c', e, h2, h3, h4⟩ := h
  refine ⟨a', c', e, h2, h3, fun i hi => ?_⟩
  obtain ⟨b, o, eb, hat⟩ := h4 i hi
  refine ⟨b, o, eb, fun j hj => ?_⟩
  have hb : b = g := by
    simp only [Value.slice.injEq] at e
    rw [eb] at e
    have := e.1
    simp at this
    exact this.1.symm
  subst hb
  exact hg.cell (hat j hj) (fun e' => hne (by cases e'; rfl))
/-- a literal of one file -/
theorem rd_lit1 {W : World} {p : PF} {a b c : Value} {t : TypeId} {g : Nat} (h : encF p = [a, b, c]) (hg : g = W.heap.size) : Rd (W.alloc (.cells #[a, b, c] t)) 3 encF (.slice (some ⟨g, 0, none⟩) [p].length [p].length) [p] := by
  have h2 := rd_lit encF_len W [p] t g hg
  rw [List.flatMap_singleton, h] at h2
  exact h2
set_option maxRecDepth 100000 in
set_option maxHeartbeats 8000000 in
theorem DropinMasked_calls (m : PF) (v : Value) (ps : List PF) (wh mo : Int) (vb : Value) (bb : List UInt8) (hl : ps.length ≤ maxLen) (w : World) (hgm : Good w m) (hv : Rd w 3 encF v ps) (hg : ∀ p ∈ ps, Good w p) (hvb : Rd w 1 encB vb bb) :
    Calls Try.prog 6 #[fV m, v, .int .i64 wh, .int .i64 mo, vb] w fun e w' => e = .returned (.bool true) ∧ Ext w w' := by
  have HAW : Hid (∀ W, Calls Try.prog 15 #[] W fun e w' => e = .returned (.bool true) ∧ Ext W w') := Lib.hid awake14_calls
  have hG := fun W (hx : Ext w W) => Great14_calls m v ps hl W (hv.ext hx)
  have hvR := Lib.hid hv
  obtain ⟨a, c, rfl, hac, hca⟩ := rdF_cell hv
  have hvB := Lib.hid hvb
  obtain ⟨ab, cb, rfl, hbc, -⟩ := rdB_cell hvb
  have hn1 := heap_alloc_new w (.cells #[.string (str m.nm), .int .i64 m.dir, .slice m.a m.bs.length m.c] 24)
  have hx1 : Ext w (w.alloc (.cells #[.string (str m.nm), .int .i64 m.dir, .slice m.a m.bs.length m.c] 24)) := (Ext.refl _).alloc _
  have m0 := blk_cell hn1 0
  have m1 := blk_cell hn1 1
  have m2 := blk_cell hn1 2
  simp at m0 m1 m2
  have HX1 := Lib.hid hx1
  have HN1 := Lib.hid hn1
  clear hx1 hv hn1 hvb
  unfold fV at hG ⊢
  cases hgr : greatD m.f (ps.map PF.f)
  case true =>
    rw [hgr] at hG
    have HhG := Lib.hid hG
    clear hG
    have Hhca := Lib.hid hca
    clear hca
    go_enter Try.func6, Try.ntmps6
    go_wp2_with fail
    refine (HhG.out _ HX1.out).mono ?_
    rintro e w2 ⟨rfl, hx2⟩
    have HX2 := Lib.hid (HX1.out.trans hx2)
    clear hx2
    go_wp2_with fail
    refine (HAW.out _).mono ?_
    rintro e w3 ⟨rfl, hx3⟩
    go_wp2_with fail
    go_ret
    exact ⟨rfl, HX2.out.trans hx3⟩
  rw [hgr] at hG
  obtain ⟨hom, hop, h20⟩ := okF_of hgr
  have hMg := fun W (hx : Ext w W) v' ps' (hop' : ∀ p ∈ ps', OkF p) (hg' : ∀ p ∈ ps', Good w p) (hl' : ps'.length ≤ 1000000) (hv' : Rd W 3 encF v' ps') => Merge_calls m v' ps' hl' hom hop' W (Good.ext hx hgm) hv' (fun p hp => (hg' p hp).ext hx)
  clear hgr
  unfold fV at hMg
  have HhG := Lib.hid hG
  clear hG
  have Hhca := Lib.hid hca
  clear hca
  have HhMg := Lib.hid hMg
  clear hMg
  have Hhop := Lib.hid hop
  clear hop
  have Hhg := Lib.hid hg
  clear hg
  have Hhgm := Lib.hid hgm
  clear hgm
  have Hhom := Lib.hid hom
  clear hom
  go_enter Try.func6, Try.ntmps6
  go_wp2_with fail
  refine (HhG.out _ HX1.out).mono ?_
  rintro e w2 ⟨rfl, hx2⟩
  have HX2 := Lib.hid (HX1.out.trans hx2)
  have HN2 := Lib.hid (blk_ext HN1.out hx2)
  clear hx2 m0 m1 m2
  by_cases hbad : ps.length = 0 ∨ 15 < ps.length ∨ 2000 < bb.length
  · by_cases h0 : ps.length = 0
    · have e0 : ((ps.length : Int) == 0) = true := by rw [h0]; rfl
      go_wp2_with fail
      refine (HAW.out _).mono ?_
      rintro e w3 ⟨rfl, hx3⟩
      go_wp2_with fail
      go_ret
      exact ⟨rfl, HX2.out.trans hx3⟩
    · have e0 : ((ps.length : Int) == 0) = false := by rw [beq_eq_false_iff_ne]; omega
      by_cases h15 : 15 < ps.length
      · have e1 : decide ((15 : Int) < (ps.length : Int)) = true := decide_eq_true (by omega)
        go_wp2_with fail
        refine (HAW.out _).mono ?_
        rintro e w3 ⟨rfl, hx3⟩
        go_wp2_with fail
        go_ret
        exact ⟨rfl, HX2.out.trans hx3⟩
      · have e1 : decide ((15 : Int) < (ps.length : Int)) = false := decide_eq_false (by omega)
        have e2 : decide ((2000 : Int) < (bb.length : Int)) = true := decide_eq_true (by omega)
        go_wp2_with fail
        refine (HAW.out _).mono ?_
        rintro e w3 ⟨rfl, hx3⟩
        go_wp2_with fail
        go_ret
        exact ⟨rfl, HX2.out.trans hx3⟩
  have h15 : ps.length ≤ 15 := by omega
  have h1 : 0 < ps.length := by omega
  have hb2 : bb.length ≤ 2000 := by omega
  have e0 : ((ps.length : Int) == 0) = false := by rw [beq_eq_false_iff_ne]; omega
  have e1 : decide ((15 : Int) < (ps.length : Int)) = false := decide_eq_false (by omega)
  have e2 : decide ((2000 : Int) < (bb.length : Int)) = false := decide_eq_false (by omega)
  obtain ⟨q, hq⟩ : ∃ q : Nat, (q : Int) = wh % 18446744073709551616 := ⟨(wh % 18446744073709551616).toNat, by omega⟩
  have hw1 : IntKind.u64.wrap wh = (q : Int) := by rw [hq]; simp [IntKind.wrap, IntKind.signed, IntKind.bits]
  have hqb : q < 18446744073709551616 := by omega
  obtain ⟨k0, hk0⟩ : ∃ k0, k0 = q % ps.length := ⟨_, rfl⟩
  have hkl : k0 < ps.length := by rw [hk0]; exact Nat.mod_lt _ (by omega)
  have hqm : ((q : Int) % (ps.length : Int)) = (k0 : Int) := by rw [hk0]; omega
  have hw3 : IntKind.i64.wrap (k0 : Int) = (k0 : Int) := IntWalk.i64_in _ (by omega)
  obtain ⟨b, o, rfl, c0, c1, c2⟩ := Hhca.out k0 hkl
  replace c0 := HX2.out.cell c0; replace c1 := HX2.out.cell c1; replace c2 := HX2.out.cell c2
  have hxm : ps[k0] ∈ ps := List.getElem_mem hkl
  have HXM := Lib.hid hxm
  have HHB : Hid (¬ (ps.length = 0 ∨ 15 < ps.length ∨ 2000 < bb.length)) := Lib.hid hbad
  clear hq hk0 hxm hbad
  generalize ps[k0] = x at *
  go_upto_region 4 with fail
  clear hqb hqm hw1 hw3
  have hn3 := heap_alloc_new w2 (.cells #[.string (str x.nm), .int .i64 x.dir, .slice x.a x.bs.length x.c] 24)
  have hx3 : Ext w2 (w2.alloc (.cells #[.string (str x.nm), .int .i64 x.dir, .slice x.a x.bs.length x.c] 24)) := (Ext.refl _).alloc _
  have hN3 := blk_ext HN2.out hx3
  generalize w2.alloc (.cells #[.string (str x.nm), .int .i64 x.dir, .slice x.a x.bs.length x.c] 24) = W3 at *
  have x0 := blk_cell hn3 0
  have x1 := blk_cell hn3 1
  simp at x0 x1
  have HX3 := Lib.hid (HX2.out.trans hx3)
  have HN3 := Lib.hid hN3
  clear hn3 hx3 hN3 c0 c1 c2
  by_cases hdir : x.dir < 0 ∨ 1000000 < x.dir
  · by_cases hneg : x.dir < 0
    · have d1 : decide (x.dir < 0) = true := decide_eq_true hneg
      go_wp2_with fail
      refine (HAW.out _).mono ?_
      rintro e w4 ⟨rfl, hx4⟩
      go_wp2_with fail
      go_ret
      exact ⟨rfl, HX3.out.trans hx4⟩
    · have d1 : decide (x.dir < 0) = false := decide_eq_false hneg
      have d2 : decide ((1000000 : Int) < x.dir) = true := decide_eq_true (by omega)
      go_wp2_with fail
      refine (HAW.out _).mono ?_
      rintro e w4 ⟨rfl, hx4⟩
      go_wp2_with fail
      go_ret
      exact ⟨rfl, HX3.out.trans hx4⟩
  have d1 : decide (x.dir < 0) = false := decide_eq_false (by omega)
  have d2 : decide ((1000000 : Int) < x.dir) = false := decide_eq_false (by omega)
  obtain ⟨q2, hq2⟩ : ∃ q2 : Nat, (q2 : Int) = mo % 18446744073709551616 := ⟨(mo % 18446744073709551616).toNat, by omega⟩
  have hv1 : IntKind.u64.wrap mo = (q2 : Int) := by rw [hq2]; simp [IntKind.wrap, IntKind.signed, IntKind.bits]
  obtain ⟨t, ht⟩ : ∃ t, t = q2 % 10 := ⟨_, rfl⟩
  have htl : t < 10 := by omega
  have hvm : ((q2 : Int) % 10) = (t : Int) := by rw [ht]; omega
  have hv3 : IntKind.i64.wrap (t : Int) = (t : Int) := IntWalk.i64_in _ (by omega)
  have hv4 : IntKind.i64.wrap (x.dir + (t : Int)) = x.dir + (t : Int) := IntWalk.i64_in _ (by omega)
  have hq2b : q2 < 18446744073709551616 := by omega
  clear hq2 ht
  go_upto_region 7 with fail
  clear hv1 hvm hv3 hv4 hq2b
  have hpm : ∃ pm : PF, pm = ⟨x.nm, x.dir + (t : Int), bb, ab, cb⟩ := ⟨_, rfl⟩
  obtain ⟨pm, hpm⟩ := hpm
  have hn4 := heap_alloc_new W3 (.cells #[.string (str x.nm), .int .i64 (x.dir + (t : Int)), .slice ab bb.length cb] 24)
  have hx4 : Ext W3 (W3.alloc (.cells #[.string (str x.nm), .int .i64 (x.dir + (t : Int)), .slice ab bb.length cb] 24)) := (Ext.refl _).alloc _
  have hN4 := blk_ext HN3.out hx4
  have HS3 : Hid (W3.heap.size < (W3.alloc (.cells #[.string (str x.nm), .int .i64 (x.dir + (t : Int)), .slice ab bb.length cb] 24)).heap.size) := Lib.hid (by simp)
  generalize W3.alloc (.cells #[.string (str x.nm), .int .i64 (x.dir + (t : Int)), .slice ab bb.length cb] 24) = W4 at *
  have HX4 := Lib.hid (HX3.out.trans hx4)
  have HN4 := Lib.hid hN4
  have HM4 := Lib.hid hn4
  clear x0 x1 hx4 hN4 hn4
  have hokx := Hhop.out x HXM.out
  have hokpm : OkF pm := by rw [hpm]; exact ⟨hokx.n, by show bb.length ≤ _; omega⟩
  have hgpm : Good w pm := by rw [hpm]; exact hvB.out
  have hmrg : mergeL m.f (ps.map PF.f) = mergeL m.f ((ps ++ [pm]).map PF.f) := by
    rw [List.map_append]
    exact merge_mask (x := x.f) (by rw [List.length_map]; exact h15) (List.mem_map.2 ⟨x, HXM.out, rfl⟩) (by rw [hpm]; rfl) (by rw [hpm]; show x.dir ≤ x.dir + (t : Int); omega)
  have hM1 := fun W (hx : Ext w W) => HhMg.out W hx (.slice (some ⟨b, o, none⟩) ps.length c) ps Hhop.out Hhg.out (by omega) (hvR.out.ext hx)
  have hM2 := fun W (hx : Ext w W) v' (hv' : Rd W 3 encF v' (ps ++ [pm])) => HhMg.out W hx v' (ps ++ [pm]) (fun p hp => (List.mem_append.1 hp).elim (Hhop.out p) (fun h => by simp at h; subst h; exact hokpm)) (fun p hp => (List.mem_append.1 hp).elim (Hhg.out p) (fun h => by simp at h; subst h; exact hgpm)) (by rw [List.length_append]; simp; omega) hv'
  rw [← hmrg] at hM2
  obtain ⟨hla, hln⟩ := mergeL_lens m.f (ps.map PF.f)
  generalize mergeL m.f (ps.map PF.f) = R at *
  have m0 := blk_cell HN4.out 0
  have m1 := blk_cell HN4.out 1
  have m2 := blk_cell HN4.out 2
  simp at m0 m1 m2
  have hencp : encF pm = [.string (str x.nm), .int .i64 (x.dir + (t : Int)), .slice ab bb.length cb] := by rw [hpm]; rfl
  have HhM1 := Lib.hid hM1
  clear hM1
  have HhM2 := Lib.hid hM2
  clear hM2
  have Hhla := Lib.hid hla
  clear hla
  have Hhln := Lib.hid hln
  clear hln
  clear hmrg hokx hokpm hgpm hac hl hbc
  go_wp2_with fail
  refine (HhM1.out _ HX4.out).mono ?_
  rintro e w5 ⟨ua, un, rfl, hx5, hoa, hon⟩
  have hb5 := blk_ext HN4.out hx5
  have hm5 := blk_ext HM4.out hx5
  clear m0 m1 m2
  have m0 := blk_cell hb5 0
  have m1 := blk_cell hb5 1
  have m2 := blk_cell hb5 2
  have y0 := blk_cell hm5 0
  have y1 := blk_cell hm5 1
  have y2 := blk_cell hm5 2
  simp at m0 m1 m2 y0 y1 y2
  have HX5 := Lib.hid (HX4.out.trans hx5)
  have HA5 := Lib.hid (rd_of_own encAF_len hoa)
  have HN5 := Lib.hid (rd_of_own encNF_len hon)
  clear hb5 hm5 hx5 hoa hon
  go_upto_region 8 with fail
  go_cut [15, 16] (fun cc oo wx => Ext w5 wx ∧ Rd wx 5 encAF cc R.1 ∧ Rd wx 4 encNF oo R.2)
  case first =>
    have m0a := fun o => ((Ext.refl w5).alloc o).cell m0
    have m1a := fun o => ((Ext.refl w5).alloc o).cell m1
    have m2a := fun o => ((Ext.refl w5).alloc o).cell m2
    have y0a := fun o => ((Ext.refl w5).alloc o).cell y0
    have y1a := fun o => ((Ext.refl w5).alloc o).cell y1
    have y2a := fun o => ((Ext.refl w5).alloc o).cell y2
    have m0b := fun o o' => (((Ext.refl w5).alloc o).alloc o').cell m0
    have m1b := fun o o' => (((Ext.refl w5).alloc o).alloc o').cell m1
    have m2b := fun o o' => (((Ext.refl w5).alloc o).alloc o').cell m2
    have y0b := fun o o' => (((Ext.refl w5).alloc o).alloc o').cell y0
    have y1b := fun o o' => (((Ext.refl w5).alloc o).alloc o').cell y1
    have y2b := fun o o' => (((Ext.refl w5).alloc o).alloc o').cell y2
    have hl0 : ([] : List PF).length + ps.length = ps.length := by simp
    have hl9 : ps.length + [pm].length = ps.length + 1 := rfl
    (go_region_law (first
      | (refine step_app_g rfl (.tmp 76) (.tmp 78) _ rfl Try.underlying25 infoF rfl (by decide) encF_len encF_one w5.heap.size _ _ ps [pm] (by rfl) (by rfl) (by first | exact HO6.out | exact World.ownsRow.alloc HO6.out _) (by first | exact HRL.out | exact rd_lit1 hencp rfl) (by rw [hl9]; omega) (by decide) (by first | exact HX6.out.size | exact (HX6.out.alloc _).size) ?_
         intro au7 cu7 w7 ho7 hg7
         have hx7 : Ext w5 w7 := Ext.grown (by first | exact HX6.out | exact HX6.out.alloc _) hg7 (fun j e => (HO6.out.lt j e).1)
         have HO7 := Lib.hid ho7
         have HX7 := Lib.hid hx7
         have m07 := hx7.cell m0
         have m17 := hx7.cell m1
         have m27 := hx7.cell m2
         clear ho7 hg7 hx7)
      | (refine step_app_g rfl (.tmp 74) (.tmp 75) _ rfl Try.underlying25 infoF rfl (by decide) encF_len encF_one w5.heap.size (.slice (some ⟨w5.heap.size, 0, none⟩) 0 0) _ [] ps (by rfl) (by rfl) (by first | exact own_lit encF_len w5 [] _ _ w5.heap.size rfl (Nat.le_refl _) (by simp) | exact World.ownsRow.alloc (own_lit encF_len w5 [] _ _ w5.heap.size rfl (Nat.le_refl _) (by simp)) (.cells #[.string (str x.nm), .int .i64 (x.dir + (t : Int)), .slice ab bb.length cb] 24) | exact own_lit encF_len (w5.alloc (.cells #[.string (str x.nm), .int .i64 (x.dir + (t : Int)), .slice ab bb.length cb] 24)) [] _ _ w5.heap.size (by simp) (by simp) (by simp)) (hvR.out.ext (HX5.out.trans (by repeat (first | exact Ext.refl _ | apply Ext.drew | apply Ext.alloc)))) (by rw [hl0]; omega) (by decide) (by first | (simp; done) | (simp; omega)) ?_
         intro au6 cu6 w6 ho6 hg6
         rw [hl0] at ho6 ⊢
         have hx6 : Ext w5 w6 := Ext.grown (by repeat (first | exact Ext.refl _ | apply Ext.drew | apply Ext.alloc)) hg6 (fun j e => by simp [Value.ownBlock] at e; omega)
         first
           | (have HRL := Lib.hid (rd_grown (rd_lit1 (W := w5) hencp rfl) hg6 (by simp)))
           | (have HRL := Lib.hid (rd_grown ((rd_lit1 (W := w5) (t := 24) hencp rfl).ext (((Ext.refl _).alloc (.cells #[] 24)).drew)) hg6 (by simp)))
           | (have HRL := Lib.hid (rd_grown ((rd_lit1 (W := w5.alloc (.cells #[] 24)) (g := w5.heap.size + 1) (t := 24) hencp (by simp)).ext ((Ext.refl _).drew)) hg6 (by simp)))
           | skip
         have HO6 := Lib.hid ho6
         have HX6 := Lib.hid hx6
         have m06 := hx6.cell m0
         have m06a := fun o => (hx6.alloc o).cell m0
         have m16 := hx6.cell m1
         have m16a := fun o => (hx6.alloc o).cell m1
         have m26 := hx6.cell m2
         have m26a := fun o => (hx6.alloc o).cell m2
         have y06 := hx6.cell y0
         have y06a := fun o => (hx6.alloc o).cell y0
         have y16 := hx6.cell y1
         have y16a := fun o => (hx6.alloc o).cell y1
         have y26 := hx6.cell y2
         have y26a := fun o => (hx6.alloc o).cell y2
         clear ho6 hg6 hx6)
      | (refine step_app_g rfl (.tmp 74) (.tmp 75) _ rfl Try.underlying25 infoF rfl (by decide) encF_len encF_one w5.heap.size (.slice (some ⟨w5.heap.size + 1, 0, none⟩) 0 0) _ [] ps (by rfl) (by rfl) (by first | exact own_lit encF_len w5 [] _ _ w5.heap.size rfl (Nat.le_refl _) (by simp) | exact World.ownsRow.alloc (own_lit encF_len w5 [] _ _ w5.heap.size rfl (Nat.le_refl _) (by simp)) (.cells #[.string (str x.nm), .int .i64 (x.dir + (t : Int)), .slice ab bb.length cb] 24) | exact own_lit encF_len (w5.alloc (.cells #[.string (str x.nm), .int .i64 (x.dir + (t : Int)), .slice ab bb.length cb] 24)) [] _ _ w5.heap.size (by simp) (by simp) (by simp)) (hvR.out.ext (HX5.out.trans (by repeat (first | exact Ext.refl _ | apply Ext.drew | apply Ext.alloc)))) (by rw [hl0]; omega) (by decide) (by first | (simp; done) | (simp; omega)) ?_
         intro au6 cu6 w6 ho6 hg6
         rw [hl0] at ho6 ⊢
         have hx6 : Ext w5 w6 := Ext.grown (by repeat (first | exact Ext.refl _ | apply Ext.drew | apply Ext.alloc)) hg6 (fun j e => by simp [Value.ownBlock] at e; omega)
         first
           | (have HRL := Lib.hid (rd_grown (rd_lit1 (W := w5) hencp rfl) hg6 (by simp)))
           | (have HRL := Lib.hid (rd_grown ((rd_lit1 (W := w5) (t := 24) hencp rfl).ext (((Ext.refl _).alloc (.cells #[] 24)).drew)) hg6 (by simp)))
           | (have HRL := Lib.hid (rd_grown ((rd_lit1 (W := w5.alloc (.cells #[] 24)) (g := w5.heap.size + 1) (t := 24) hencp (by simp)).ext ((Ext.refl _).drew)) hg6 (by simp)))
           | skip
         have HO6 := Lib.hid ho6
         have HX6 := Lib.hid hx6
         have m06 := hx6.cell m0
         have m06a := fun o => (hx6.alloc o).cell m0
         have m16 := hx6.cell m1
         have m16a := fun o => (hx6.alloc o).cell m1
         have m26 := hx6.cell m2
         have m26a := fun o => (hx6.alloc o).cell m2
         have y06 := hx6.cell y0
         have y06a := fun o => (hx6.alloc o).cell y0
         have y16 := hx6.cell y1
         have y16a := fun o => (hx6.alloc o).cell y1
         have y26 := hx6.cell y2
         have y26a := fun o => (hx6.alloc o).cell y2
         clear ho6 hg6 hx6)
      | (go_simp
         refine (HhM2.out _ (HX5.out.trans HX7.out) _ (rd_of_own (xs := ps ++ [pm]) encF_len (by rw [List.length_append]; exact HO7.out))).mono ?_
         rintro e w8 ⟨va, vn, rfl, hx8, hoa, hon⟩
         have HX8 := Lib.hid (HX7.out.trans hx8)
         have HA8 := Lib.hid (rd_of_own encAF_len hoa)
         have HN8 := Lib.hid (rd_of_own encNF_len hon)
         have m08 := hx8.cell m07
         have m18 := hx8.cell m17
         have m28 := hx8.cell m27
         clear hx8 hoa hon)))
    all_goals
      go_wp2_with fail
      go_meet
      exact ⟨HX8.out, HA8.out, HN8.out⟩
  case rest =>
    obtain ⟨hx8, ha8, hn8⟩ := hcut
    have hsA := sameAF_calls ua _ R.1 R.1 Hhla.out Hhla.out wc (HA5.out.ext hx8) ha8
    have hsN := fun W (hx : Ext wc W) => sameNF_calls un _ R.2 R.2 Hhln.out Hhln.out W ((HN5.out.ext hx8).ext hx) (hn8.ext hx)
    rw [decide_eq_true rfl] at hsA hsN
    have HX8 := Lib.hid (HX5.out.trans hx8)
    have HhsA := Lib.hid hsA
    clear hsA
    have HhsN := Lib.hid hsN
    clear hsN
    clear hx8 ha8 hn8 m0 m1 m2 y0 y1 y2
    go_wp2_with fail
    refine HhsA.out.mono ?_
    rintro e w9 ⟨rfl, hx9⟩
    have HX9 := Lib.hid hx9
    clear hx9
    go_wp2_with fail
    refine (HhsN.out _ HX9.out).mono ?_
    rintro e w10 ⟨rfl, hx10⟩
    have HX10 := Lib.hid (HX9.out.trans hx10)
    clear hx10
    go_wp2_with fail
    refine (HAW.out _).mono ?_
    rintro e w11 ⟨rfl, hx11⟩
    go_wp2_with fail
    go_ret
    exact ⟨rfl, (HX8.out.trans HX10.out).trans hx11⟩
end L12
end Go.Proofs.Ytkmbahpjioopdaa
