/- Layer 14: the walk of the law DropinOrders. -/
import Derived.Test.YtkmbahpjioopdaaDropY
import Derived.Test.YtkmbahpjioopdaaDropZ0
namespace Go.Proofs.Ytkmbahpjioopdaa
open Go.RowKit V
attribute [local go_sem] Oper.semAt_some Option.isSome_some
namespace L12
theorem ord_mem {m : Fl} {fs : List Fl} {f : Fl} (h : f ∈ orderL m fs) : f = m ∨ f ∈ fs := by
  unfold orderL at h
  split at h
  · rcases List.mem_cons.1 h with h | h
    · exact .inl h
    · obtain ⟨i, -, hw⟩ := ((ordL_ok fs).2 f).1 h
      exact .inr (List.mem_of_getElem? hw.2.1)
  · cases h
theorem ord_leng (m : Fl) (fs : List Fl) : (orderL m fs).length ≤ fs.length + 1 := by
  unfold orderL
  split
  · have := ordL_len fs
    simp only [List.length_cons]; omega
  · simp
theorem pf_bytes {m : PF} {ps qs : List PF} (h : qs.map PF.f = orderL m.f (ps.map PF.f)) (hom : OkF m) (hop : ∀ p ∈ ps, OkF p) : ∀ q ∈ qs, q.bs.length ≤ 1000000 := by
  intro q hq
  have h1 : q.f ∈ orderL m.f (ps.map PF.f) := by rw [← h]; exact List.mem_map.2 ⟨q, hq, rfl⟩
  have e2 : ∀ p : PF, q.f = p.f → q.bs.length = p.bs.length := fun p e => by
    unfold PF.f at e
    simp only [Prod.mk.injEq] at e
    rw [e.2.2]
  rcases ord_mem h1 with e | h2
  · rw [e2 m e]; exact hom.b
  · obtain ⟨p, hp, e⟩ := List.mem_map.1 h2
    rw [e2 p e.symm]; exact (hop p hp).b
theorem pf_len {m : PF} {ps qs : List PF} (h : qs.map PF.f = orderL m.f (ps.map PF.f)) : qs.length ≤ ps.length + 1 := by
  have h1 := congrArg List.length h
  have h2 := ord_leng m.f (ps.map PF.f)
  rw [List.length_map] at h1 h2
  omega
set_option maxRecDepth 100000 in
set_option maxHeartbeats 8000000 in
theorem DropinOrders_calls (m : PF) (v : Value) (ps : List PF) (s : ByteArray) (hl : ps.length ≤ maxLen) (w : World) (hgm : Good w m) (hv : Rd w 3 encF v ps) (hg : ∀ p ∈ ps, Good w p) :
    Calls Try.prog 3 #[fV m, v, .string s] w fun e w' => e = .returned (.bool true) ∧ Ext w w' := by
  have HAW : Hid (∀ W, Calls Try.prog 15 #[] W fun e w' => e = .returned (.bool true) ∧ Ext W w') := Lib.hid awake14_calls
  have hG := fun W (hx : Ext w W) => Great14_calls m v ps hl W (hv.ext hx)
  have hvR := Lib.hid hv
  obtain ⟨a, c, rfl, hac, hca⟩ := rdF_cell hv
  have hn1 := heap_alloc_new w (.cells #[.string (str m.nm), .int .i64 m.dir, .slice m.a m.bs.length m.c] 24)
  have hx1 : Ext w (w.alloc (.cells #[.string (str m.nm), .int .i64 m.dir, .slice m.a m.bs.length m.c] 24)) := (Ext.refl _).alloc _
  have m0 := blk_cell hn1 0
  have m1 := blk_cell hn1 1
  have m2 := blk_cell hn1 2
  simp at m0 m1 m2
  have HX1 := Lib.hid hx1
  have HN1 := Lib.hid hn1
  clear hx1 hv hn1
  unfold fV at hG ⊢
  cases hgr : greatD m.f (ps.map PF.f)
  case true =>
    rw [hgr] at hG
    have HhG := Lib.hid hG
    clear hG
    have Hhca := Lib.hid hca
    clear hca
    go_enter Try.func3, Try.ntmps3
    go_wp2_with fail
    refine (HhG.out _ HX1.out).mono ?_
    rintro e w2 ⟨rfl, hx2⟩
    have HX2 := Lib.hid (HX1.out.trans hx2)
    clear hx2
    go_wp2_with fail
    go_ret
    exact ⟨rfl, HX2.out⟩
  rw [hgr] at hG
  obtain ⟨hom, hop, h20⟩ := okF_of hgr
  have hl6 : ps.length ≤ 1000000 := by omega
  have hCp := fun W (hx : Ext w W) => Copied_calls (.slice a ps.length c) ps hl6 (fun p hp => (hop p hp).b) W (hvR.out.ext hx) (fun p hp => (hg p hp).ext hx)
  have hOr := fun W (hx : Ext w W) v' ps' (hop' : ∀ p ∈ ps', OkF p) (hg' : ∀ p ∈ ps', Good W p) (hl' : ps'.length ≤ 1000000) (hv' : Rd W 3 encF v' ps') => Order_calls m v' ps' hl' hom hop' W (Good.ext hx hgm) hv' hg'
  have hRo := fun W (hx : Ext w W) => refOrder_calls m (.slice a ps.length c) ps hl6 hop W (hvR.out.ext hx)
  clear hgr
  unfold fV at hOr hRo
  by_cases hns : 200 < s.size
  · have hn2 : decide (200 < (s.size : Int)) = true := decide_eq_true (by omega)
    clear hCp hOr hRo
    have HhG := Lib.hid hG
    clear hG
    have Hhca := Lib.hid hca
    clear hca
    have Hhop := Lib.hid hop
    clear hop
    have Hhg := Lib.hid hg
    clear hg
    have Hhgm := Lib.hid hgm
    clear hgm
    have Hhom := Lib.hid hom
    clear hom
    go_enter Try.func3, Try.ntmps3
    go_wp2_with fail
    refine (HhG.out _ HX1.out).mono ?_
    rintro e w2 ⟨rfl, hx2⟩
    have HX2 := Lib.hid (HX1.out.trans hx2)
    clear hx2
    go_wp2_with fail
    go_ret
    exact ⟨rfl, HX2.out⟩
  have hn2 : decide (200 < (s.size : Int)) = false := decide_eq_false (by omega)
  have hsz : s.size ≤ maxLen := by unfold maxLen; omega
  have hMy := fun W => May_calls s hsz W
  have hRy := fun W => refMay14_calls s hsz W
  have HhMy := Lib.hid hMy
  clear hMy
  have HhRy := Lib.hid hRy
  clear hRy
  have Hhsz := Lib.hid hsz
  clear hsz
  have HhG := Lib.hid hG
  clear hG
  have Hhca := Lib.hid hca
  clear hca
  have HhOr := Lib.hid hOr
  clear hOr
  have HhRo := Lib.hid hRo
  clear hRo
  have HhCp := Lib.hid hCp
  clear hCp
  have Hhop := Lib.hid hop
  clear hop
  have Hhg := Lib.hid hg
  clear hg
  have Hhgm := Lib.hid hgm
  clear hgm
  have Hhom := Lib.hid hom
  clear hom
  have Hhns := Lib.hid hns
  clear hns
  go_enter Try.func3, Try.ntmps3
  go_wp2_with fail
  refine (HhG.out _ HX1.out).mono ?_
  rintro e w2 ⟨rfl, hx2⟩
  have HX2 := Lib.hid (HX1.out.trans hx2)
  have HN2 := Lib.hid (blk_ext HN1.out hx2)
  clear hx2 m0 m1 m2
  go_wp2_with fail
  refine (HhCp.out _ HX2.out).mono ?_
  rintro e w3 ⟨u, qs, rfl, hqf, hx3, ho3, hob3⟩
  obtain ⟨au, cu, rfl⟩ := own_form ho3
  have HX3 := Lib.hid (HX2.out.trans hx3)
  have HN3 := Lib.hid (blk_ext HN2.out hx3)
  have HR3 := Lib.hid (rd_of_own encF_len ho3)
  have HG3 : Hid (∀ q ∈ qs, Good w3 q) := Lib.hid (fun q hq => (hob3 q hq).good)
  have HOQ := Lib.hid (okF_map hqf Hhop.out)
  have HQF := Lib.hid hqf
  have hql : qs.length = ps.length := by
    have := congrArg List.length hqf
    rwa [List.length_map, List.length_map] at this
  have HQL := Lib.hid hql
  clear hx3 ho3 hob3 hqf hql
  have m0 := blk_cell HN3.out 0
  have m1 := blk_cell HN3.out 1
  have m2 := blk_cell HN3.out 2
  simp at m0 m1 m2
  go_wp2_with fail
  refine (HhOr.out _ HX3.out (.slice au qs.length cu) qs HOQ.out HG3.out (by rw [HQL.out]; exact hl6) HR3.out).mono ?_
  rw [HQF.out]
  rintro e w4 ⟨ul, rs, rfl, hrs, hx4, hol, hob4⟩
  obtain ⟨al, cl, rfl⟩ := own_form hol
  have HX34 := Lib.hid hx4
  have HX4 := Lib.hid (HX3.out.trans hx4)
  have HN4 := Lib.hid (blk_ext HN3.out hx4)
  have HL4 := Lib.hid (rd_of_own encF_len hol)
  have HSP := Lib.hid (SP.start hol hob4)
  have HG4 : Hid (∀ q ∈ rs, Good w4 q) := Lib.hid (fun q hq => (hob4 q hq).good)
  have HRS := Lib.hid hrs
  clear hx4 hol hob4 hrs m0 m1 m2
  have m0 := blk_cell HN4.out 0
  have m1 := blk_cell HN4.out 1
  have m2 := blk_cell HN4.out 2
  simp at m0 m1 m2
  go_wp2_with fail
  refine (HhRo.out _ HX4.out).mono ?_
  rintro e w5 ⟨uw, ts, rfl, hts, hx5, how, hmem⟩
  obtain ⟨aw, cw, rfl⟩ := own_form how
  have HX45 := Lib.hid hx5
  have HX5 := Lib.hid (HX4.out.trans hx5)
  have HT5 := Lib.hid (rd_of_own encF_len how)
  have HG5 : Hid (∀ q ∈ ts, Good w5 q) := Lib.hid (fun q hq => by
    rcases hmem q hq with rfl | h
    · exact Good.ext HX5.out Hhgm.out
    · exact Good.ext HX5.out (Hhg.out q h))
  have HTS := Lib.hid hts
  clear hx5 how hmem hts m0 m1 m2
  have hS1 := fun W (hx : Ext w5 W) => sameFiles_calls (.slice al rs.length cl) (.slice aw ts.length cw) rs ts (by have := pf_len HRS.out; omega) (by have := pf_len HTS.out; omega) (pf_bytes HRS.out Hhom.out Hhop.out) (pf_bytes HTS.out Hhom.out Hhop.out) W (HL4.out.ext (HX45.out.trans hx)) (HT5.out.ext hx) (fun q hq => (HG4.out q hq).ext (HX45.out.trans hx)) (fun p hp => (HG5.out p hp).ext hx)
  rw [decide_eq_true (HRS.out.trans HTS.out.symm)] at hS1
  have hS2 := fun W (hx : Ext w3 W) => sameFiles_calls (.slice au qs.length cu) (.slice a ps.length c) qs ps (by rw [HQL.out]; omega) (by omega) (fun q hq => (HOQ.out q hq).b) (fun p hp => (Hhop.out p hp).b) W (HR3.out.ext hx) (hvR.out.ext (HX3.out.trans hx)) (fun q hq => (HG3.out q hq).ext hx) (fun p hp => (Hhg.out p hp).ext (HX3.out.trans hx))
  rw [decide_eq_true HQF.out] at hS2
  have hrl := pf_len HRS.out
  obtain ⟨B, hB⟩ : ∃ B, B = w3.heap.size := ⟨_, rfl⟩
  have hB3 : w3.heap.size ≤ B := by omega
  rw [← hB] at HSP
  have hrb := pf_bytes HRS.out Hhom.out Hhop.out
  have HX35 := Lib.hid (HX34.out.trans HX45.out)
  have HhS1 := Lib.hid hS1
  clear hS1
  have HhS2 := Lib.hid hS2
  clear hS2
  have Hhrl := Lib.hid hrl
  clear hrl
  have HhB := Lib.hid hB
  clear hB
  have HhB3 := Lib.hid hB3
  clear hB3
  have Hhrb := Lib.hid hrb
  clear hrb
  obtain ⟨E, hE⟩ : ∃ E, E = ordE (ps.map PF.f) := ⟨_, rfl⟩
  rw [← hE]
  have HhE := Lib.hid hE
  clear hE
  go_wp2_with fail
  refine (HhS1.out _ (Ext.refl _)).mono ?_
  rintro e w6 ⟨rfl, hx6⟩
  have HX6 := Lib.hid hx6
  clear hx6
  go_wp2_with fail
  refine (HhMy.out _).mono ?_
  rintro e w7 ⟨rfl, hx7⟩
  have HX7 := Lib.hid (HX6.out.trans hx7)
  clear hx7
  go_wp2_with fail
  refine (HhRy.out _).mono ?_
  rintro e w8 ⟨rfl, hx8⟩
  have HX8 := Lib.hid ((HX35.out.trans HX7.out).trans hx8)
  have HSP8 := Lib.hid (HSP.out.ext ((HX45.out.trans HX7.out).trans hx8))
  clear hx8
  go_wp2_with fail
  go_loopw [12] (fun i wr => ∃ k : Nat, k ≤ rs.length ∧ i = .int .i64 k ∧ Ext w3 wr ∧ SP wr B al rs) (fun i _ => rs.length - (intOf i).toNat)
  case atStart => exact ⟨0, by omega, rfl, HX8.out, HSP8.out⟩
  case round =>
    obtain ⟨k, hk, rfl, hxk, hsp⟩ := hrel
    have HXK := Lib.hid hxk
    have HSK := Lib.hid hsp
    clear hxk hsp
    obtain ⟨wo, rfl⟩ : ∃ wo, wo = wr := ⟨_, rfl⟩
    have hrl := Hhrl.out
    by_cases hlt : k < rs.length
    · go_wp2_with fail
      go_loopw [13] (fun i wi => ∃ t : Nat, t ≤ rs[k].bs.length ∧ i = .int .i64 t ∧ Ext w3 wi ∧ SP wi B al rs) (fun i _ => rs[k].bs.length - (intOf i).toNat)
      case atStart => exact ⟨0, by omega, rfl, HXK.out, HSK.out⟩
      case round =>
        obtain ⟨t, ht, rfl, hxt, hsp⟩ := hrel
        have HXT := Lib.hid hxt
        have HST := Lib.hid hsp
        have hb1 := Hhrb.out rs[k] (List.getElem_mem hlt)
        rcases hsp.row with h0 | ⟨G, cs, rfl, hBG, hh, hc⟩
        · rw [h0] at hlt; exact absurd hlt (by simp)
        obtain ⟨c2, sn, c0⟩ := hc k hlt
        have hby := hsp.byt rs[k] (List.getElem_mem hlt)
        generalize hq : rs[k] = q at *
        rw [← blk_cell hh] at c2 c0
        unfold PF.v at c2
        have HH := Lib.hid hh
        have hf0 : wr.frozen? ⟨G, k * 3, none⟩ = false := by simp [World.frozen?, hh]
        have HQ := Lib.hid hq
        clear hxt hsp hc hh hq
        by_cases htl : t < q.bs.length
        · rcases hby with h0 | ⟨g, cb, hqa, hBg, hg2, hb⟩
          · omega
          obtain ⟨x, hx⟩ := hb t htl
          rw [← blk_cell hg2] at hx
          rw [hqa] at c2
          have hf1 : wr.frozen? ⟨g, t, none⟩ = false := by simp [World.frozen?, hg2]
          have HG2 := Lib.hid hg2
          clear hb hg2 hqa c0 hf0
          go_wp2_with fail
          go_roundw
          case rel => exact ⟨t + 1, by omega, by go_num, Ext.setCell HXT.out (Nat.le_trans HhB3.out hBg) _, HST.out.poke HG2.out _ _⟩
          case measure => simp [intOf]; omega
        · clear hby
          go_wp2_with fail
          go_roundw
          case rel => exact ⟨k + 1, by omega, by go_num, Ext.setCell HXT.out (Nat.le_trans HhB3.out hBG) _, HST.out.name HH.out _ _⟩
          case measure => simp [intOf]; omega
    · go_wp2_with fail
      refine (HhS2.out _ HXK.out).mono ?_
      rintro e w9 ⟨rfl, hx9⟩
      have HX9 := Lib.hid ((HX3.out.trans HXK.out).trans hx9)
      clear hx9
      go_wp2_with fail
      refine (HAW.out _).mono ?_
      rintro e w10 ⟨rfl, hx10⟩
      go_wp2_with fail
      go_ret
      exact ⟨rfl, HX9.out.trans hx10⟩
end L12
end Go.Proofs.Ytkmbahpjioopdaa
