/- Layer 14: the walk of the law DropinMerges. -/
import Derived.Test.YtkmbahpjioopdaaDropO
import Derived.Test.YtkmbahpjioopdaaDropV
import Derived.Test.YtkmbahpjioopdaaDropW
import Derived.Test.YtkmbahpjioopdaaDropX
namespace Go.Proofs.Ytkmbahpjioopdaa
open Go.RowKit V
attribute [local go_sem] Oper.semAt_some Option.isSome_some
namespace L12
theorem okF_map {ps qs : List PF} (h : qs.map PF.f = ps.map PF.f) (hop : ∀ p ∈ ps, OkF p) : ∀ q ∈ qs, OkF q := by
  intro q hq
  have h1 : q.f ∈ ps.map PF.f := by rw [← h]; exact List.mem_map.2 ⟨q, hq, rfl⟩
  obtain ⟨p, hp, e⟩ := List.mem_map.1 h1
  unfold PF.f at e
  simp only [Prod.mk.injEq] at e
  obtain ⟨e1, -, e3⟩ := e
  have := hop p hp
  exact ⟨by rw [← e1]; exact this.n, by rw [← e3]; exact this.b⟩
set_option maxRecDepth 100000 in
set_option maxHeartbeats 8000000 in
theorem DropinMerges_calls (m : PF) (v : Value) (ps : List PF) (hl : ps.length ≤ maxLen) (w : World) (hgm : Good w m) (hv : Rd w 3 encF v ps) (hg : ∀ p ∈ ps, Good w p) :
    Calls Try.prog 4 #[fV m, v] w fun e w' => e = .returned (.bool true) ∧ Ext w w' := by
  have HAW : Hid (∀ W, Calls Try.prog 15 #[] W fun e w' => e = .returned (.bool true) ∧ Ext W w') := Lib.hid awake14_calls
  have hG := fun W (hx : Ext w W) => Great14_calls m v ps hl W (hv.ext hx)
  have hvR := Lib.hid hv
  obtain ⟨a, c, rfl, hac, hca⟩ := rdF_cell hv
  have hn1 := heap_alloc_new w (.cells #[.string (str m.nm), .int .i64 m.dir, .slice m.a m.bs.length m.c] 24)
  have hx1 : Ext w (w.alloc (.cells #[.string (str m.nm), .int .i64 m.dir, .slice m.a m.bs.length m.c] 24)) := (Ext.refl _).alloc _
  have m0 := blk_cell hn1 0
  have m1 := blk_cell hn1 1
  have m2 := blk_cell hn1 2
  simp at m0 m1 m2
  have HX1 := Lib.hid hx1
  have HN1 := Lib.hid hn1
  clear hx1 hv hn1
  unfold fV at hG ⊢
  cases hgr : greatD m.f (ps.map PF.f)
  case true =>
    rw [hgr] at hG
    have HhG := Lib.hid hG
    clear hG
    have Hhca := Lib.hid hca
    clear hca
    go_enter Try.func4, Try.ntmps4
    go_wp2_with fail
    refine (HhG.out _ HX1.out).mono ?_
    rintro e w2 ⟨rfl, hx2⟩
    have HX2 := Lib.hid (HX1.out.trans hx2)
    clear hx2
    go_wp2_with fail
    go_ret
    exact ⟨rfl, HX2.out⟩
  rw [hgr] at hG
  obtain ⟨hom, hop, h20⟩ := okF_of hgr
  have hl6 : ps.length ≤ 1000000 := by omega
  have hCp := fun W (hx : Ext w W) => Copied_calls (.slice a ps.length c) ps hl6 (fun p hp => (hop p hp).b) W (hvR.out.ext hx) (fun p hp => (hg p hp).ext hx)
  have hMg := fun W (hx : Ext w W) v' ps' (hop' : ∀ p ∈ ps', OkF p) (hg' : ∀ p ∈ ps', Good W p) (hl' : ps'.length ≤ 1000000) (hv' : Rd W 3 encF v' ps') => Merge_calls m v' ps' hl' hom hop' W (Good.ext hx hgm) hv' hg'
  have hRm := fun W (hx : Ext w W) => refMerge_calls m (.slice a ps.length c) ps hl6 hom hop W (Good.ext hx hgm) (hvR.out.ext hx) (fun p hp => (hg p hp).ext hx)
  obtain ⟨hla, hln⟩ := mergeL_lens m.f (ps.map PF.f)
  clear hgr
  unfold fV at hMg hRm
  have HhG := Lib.hid hG
  clear hG
  have Hhca := Lib.hid hca
  clear hca
  have HhMg := Lib.hid hMg
  clear hMg
  have HhRm := Lib.hid hRm
  clear hRm
  have HhCp := Lib.hid hCp
  clear hCp
  have Hhop := Lib.hid hop
  clear hop
  have Hhg := Lib.hid hg
  clear hg
  have Hhgm := Lib.hid hgm
  clear hgm
  have Hhom := Lib.hid hom
  clear hom
  have Hhla := Lib.hid hla
  clear hla
  have Hhln := Lib.hid hln
  clear hln
  go_enter Try.func4, Try.ntmps4
  go_wp2_with fail
  refine (HhG.out _ HX1.out).mono ?_
  rintro e w2 ⟨rfl, hx2⟩
  have HX2 := Lib.hid (HX1.out.trans hx2)
  have HN2 := Lib.hid (blk_ext HN1.out hx2)
  clear hx2 m0 m1 m2
  go_wp2_with fail
  refine (HhCp.out _ HX2.out).mono ?_
  rintro e w3 ⟨u, qs, rfl, hqf, hx3, ho3, hob3⟩
  obtain ⟨au, cu, rfl⟩ := own_form ho3
  have HX3 := Lib.hid (HX2.out.trans hx3)
  have HN3 := Lib.hid (blk_ext HN2.out hx3)
  have HR3 := Lib.hid (rd_of_own encF_len ho3)
  have HG3 : Hid (∀ q ∈ qs, Good w3 q) := Lib.hid (fun q hq => (hob3 q hq).good)
  have HOQ := Lib.hid (okF_map hqf Hhop.out)
  have HQF := Lib.hid hqf
  have hql : qs.length = ps.length := by
    have := congrArg List.length hqf
    rwa [List.length_map, List.length_map] at this
  have HQL := Lib.hid hql
  clear hx3 ho3 hob3 hqf hql
  have m0 := blk_cell HN3.out 0
  have m1 := blk_cell HN3.out 1
  have m2 := blk_cell HN3.out 2
  simp at m0 m1 m2
  go_wp2_with fail
  refine (HhMg.out _ HX3.out (.slice au qs.length cu) qs HOQ.out HG3.out (by rw [HQL.out]; exact hl6) HR3.out).mono ?_
  rw [HQF.out]
  rintro e w4 ⟨ua, un, rfl, hx4, hoa, hon⟩
  have HX34 := Lib.hid hx4
  have HX4 := Lib.hid (HX3.out.trans hx4)
  have HN4 := Lib.hid (blk_ext HN3.out hx4)
  have HA4 := Lib.hid (rd_of_own encAF_len hoa)
  have HK4 := Lib.hid (rd_of_own encNF_len hon)
  clear hx4 hoa hon m0 m1 m2
  have m0 := blk_cell HN4.out 0
  have m1 := blk_cell HN4.out 1
  have m2 := blk_cell HN4.out 2
  simp at m0 m1 m2
  go_wp2_with fail
  refine (HhRm.out _ HX4.out).mono ?_
  rintro e w5 ⟨va, vn, rfl, hx5, hoa, hon⟩
  have HX5 := Lib.hid (HX4.out.trans hx5)
  have hx35 := HX34.out.trans hx5
  have hA5 := HA4.out.ext hx5
  have hK5 := HK4.out.ext hx5
  generalize mergeL m.f (ps.map PF.f) = R at *
  have hsA := sameAF_calls ua va R.1 R.1 Hhla.out Hhla.out w5 hA5 (rd_of_own encAF_len hoa)
  have hsN := fun W (hx : Ext w5 W) => sameNF_calls un vn R.2 R.2 Hhln.out Hhln.out W (hK5.ext hx) ((rd_of_own encNF_len hon).ext hx)
  have hsF := fun W (hx : Ext w5 W) => sameFiles_calls (.slice au qs.length cu) (.slice a ps.length c) qs ps (by rw [HQL.out]; omega) (by omega) (fun q hq => (HOQ.out q hq).b) (fun p hp => (Hhop.out p hp).b) W (HR3.out.ext (hx35.trans hx)) (hvR.out.ext (HX5.out.trans hx)) (fun q hq => (HG3.out q hq).ext (hx35.trans hx)) (fun p hp => (Hhg.out p hp).ext (HX5.out.trans hx))
  rw [decide_eq_true rfl] at hsA hsN
  rw [decide_eq_true HQF.out] at hsF
  have HhsA := Lib.hid hsA
  clear hsA
  have HhsN := Lib.hid hsN
  clear hsN
  have HhsF := Lib.hid hsF
  clear hsF
  clear hx5 hoa hon m0 m1 m2 hA5 hK5 hx35
  go_wp2_with fail
  refine HhsA.out.mono ?_
  rintro e w6 ⟨rfl, hx6⟩
  have HX6 := Lib.hid hx6
  clear hx6
  go_wp2_with fail
  refine (HhsN.out _ HX6.out).mono ?_
  rintro e w7 ⟨rfl, hx7⟩
  have HX7 := Lib.hid (HX6.out.trans hx7)
  clear hx7
  go_wp2_with fail
  refine (HhsF.out _ HX7.out).mono ?_
  rintro e w8 ⟨rfl, hx8⟩
  have HX8 := Lib.hid (HX7.out.trans hx8)
  clear hx8
  go_wp2_with fail
  refine (HAW.out _).mono ?_
  rintro e w9 ⟨rfl, hx9⟩
  go_wp2_with fail
  go_ret
  exact ⟨rfl, (HX5.out.trans HX8.out).trans hx9⟩
end L12
end Go.Proofs.Ytkmbahpjioopdaa
