/- Layer 14: the walk of the law DropinBehind. -/
import Derived.Test.YtkmbahpjioopdaaDropO
namespace Go.Proofs.Ytkmbahpjioopdaa
open Go.RowKit V
attribute [local go_sem] Oper.semAt_some Option.isSome_some
namespace L12
theorem ord_rise {m : Fl} {fs : List Fl} {k : Nat} (h2 : 2 ≤ k) (h' : k - 1 < (m :: ordL fs).length) (hk : k < (m :: ordL fs).length) : lt ((m :: ordL fs)[k - 1]'h').1 ((m :: ordL fs)[k]'hk).1 = true := by
  have hs := (ordL_ok fs).1
  obtain ⟨j, rfl⟩ : ∃ j, k = j + 2 := ⟨k - 2, by omega⟩
  have hj : j + 1 < (ordL fs).length := by simp at hk; omega
  show lt (ordL fs)[j].1 (ordL fs)[j + 1].1 = true
  exact List.pairwise_iff_getElem.1 hs j (j + 1) (by omega) hj (by omega)
set_option maxRecDepth 100000 in
set_option maxHeartbeats 8000000 in
theorem DropinBehind_calls (m : PF) (v : Value) (ps : List PF) (hl : ps.length ≤ maxLen) (w : World) (hgm : Good w m) (hv : Rd w 3 encF v ps) (hg : ∀ p ∈ ps, Good w p) :
    Calls Try.prog 7 #[fV m, v] w fun e w' => e = .returned (.bool true) ∧ Ext w w' := by
  have HAW : Hid (∀ W, Calls Try.prog 15 #[] W fun e w' => e = .returned (.bool true) ∧ Ext W w') := Lib.hid awake14_calls
  have hG := fun W (hx : Ext w W) => Great14_calls m v ps hl W (hv.ext hx)
  have hvR := Lib.hid hv
  obtain ⟨a, c, rfl, hac, hca⟩ := rdF_cell hv
  have hn1 := heap_alloc_new w (.cells #[.string (str m.nm), .int .i64 m.dir, .slice m.a m.bs.length m.c] 24)
  have hx1 : Ext w (w.alloc (.cells #[.string (str m.nm), .int .i64 m.dir, .slice m.a m.bs.length m.c] 24)) := (Ext.refl _).alloc _
  have m0 := blk_cell hn1 0
  have m1 := blk_cell hn1 1
  have m2 := blk_cell hn1 2
  simp at m0 m1 m2
  have HX1 := Lib.hid hx1
  have HN1 := Lib.hid hn1
  clear hx1 hv hn1 hca hac
  unfold fV at hG ⊢
  cases hgr : greatD m.f (ps.map PF.f)
  case true =>
    rw [hgr] at hG
    have HhG := Lib.hid hG
    clear hG
    go_enter Try.func7, Try.ntmps7
    go_wp2_with fail
    refine (HhG.out _ HX1.out).mono ?_
    rintro e w2 ⟨rfl, hx2⟩
    have HX2 := Lib.hid (HX1.out.trans hx2)
    clear hx2
    go_wp2_with fail
    refine (HAW.out _).mono ?_
    rintro e w3 ⟨rfl, hx3⟩
    go_wp2_with fail
    go_ret
    exact ⟨rfl, HX2.out.trans hx3⟩
  rw [hgr] at hG
  obtain ⟨hom, hop, h20⟩ := okF_of hgr
  have hOr := fun W (hx : Ext w W) => Order_calls m _ ps (by omega) hom hop W (Good.ext hx hgm) (hvR.out.ext hx) (fun p hp => (hg p hp).ext hx)
  have hMg := fun W (hx : Ext w W) => Merge_calls m _ ps (by omega) hom hop W (Good.ext hx hgm) (hvR.out.ext hx) (fun p hp => (hg p hp).ext hx)
  obtain ⟨hla, hln⟩ := mergeL_lens m.f (ps.map PF.f)
  have hpb : ∀ f ∈ m.f :: ordL (ps.map PF.f), f.2.2.length ≤ 1000000 := fun f hf => by
    rcases List.mem_cons.1 hf with rfl | hf
    · exact hom.b
    · obtain ⟨j, -, -, hj, -⟩ := ((ordL_ok (ps.map PF.f)).2 f).1 hf
      obtain ⟨p, hp, rfl⟩ := List.mem_map.1 (List.mem_of_getElem? hj)
      exact (hop p hp).b
  clear hgr hgm hop hom hg
  unfold fV at hMg hOr
  have hlo := ordL_len (ps.map PF.f)
  rw [List.length_map] at hlo
  by_cases h0 : ordE (ps.map PF.f) = 0
  · have hOL : orderL m.f (ps.map PF.f) = m.f :: ordL (ps.map PF.f) := by unfold orderL; rw [if_pos h0]
    have hR0 := mergeL_ok (m := m.f) h0
    have hrise := fun k (h2 : 2 ≤ k) h' hk => ord_rise (m := m.f) (fs := ps.map PF.f) h2 (k := k) h' hk
    have hhd : (m.f :: ordL (ps.map PF.f)).head? = some m.f := rfl
    have hln17 : (m.f :: ordL (ps.map PF.f)).length ≤ 21 := by rw [List.length_cons]; omega
    have hln1 : 1 ≤ (m.f :: ordL (ps.map PF.f)).length := by rw [List.length_cons]; omega
    rw [h0, hOL] at hOr
    generalize mergeL m.f (ps.map PF.f) = R at *
    generalize m.f :: ordL (ps.map PF.f) = L at *
    have hal := fun k => fm_len asF asF_len (L.take k)
    have hnl := fun k => fm_len ntF ntF_len (L.take k)
    clear h0 hOL hlo hl
    have HhG := Lib.hid hG
    clear hG
    have HhOr := Lib.hid hOr
    clear hOr
    have HhMg := Lib.hid hMg
    clear hMg
    have Hhpb := Lib.hid hpb
    clear hpb
    have HhR0 := Lib.hid hR0
    clear hR0
    have Hhrise := Lib.hid hrise
    clear hrise
    have Hhhd := Lib.hid hhd
    clear hhd
    have Hhal := Lib.hid hal
    clear hal
    have Hhnl := Lib.hid hnl
    clear hnl
    have Hhla := Lib.hid hla
    clear hla
    have Hhln := Lib.hid hln
    clear hln
    go_enter Try.func7, Try.ntmps7
    go_wp2_with fail
    refine (HhG.out _ HX1.out).mono ?_
    rintro e w2 ⟨rfl, hx2⟩
    have HX2 := Lib.hid (HX1.out.trans hx2)
    have HN2 := Lib.hid (blk_ext HN1.out hx2)
    clear hx2 m0 m1 m2
    have m0 := blk_cell HN2.out 0
    have m1 := blk_cell HN2.out 1
    have m2 := blk_cell HN2.out 2
    simp at m0 m1 m2
    go_wp2_with fail
    refine (HhOr.out _ HX2.out).mono ?_
    rintro e w3 ⟨u, qs, rfl, hqf, hx3, ho3, hob3⟩
    obtain ⟨au, cu, rfl⟩ := own_form ho3
    have HQF := Lib.hid hqf
    have HX3 := Lib.hid (HX2.out.trans hx3)
    have HN3 := Lib.hid (blk_ext HN2.out hx3)
    have HO3 := Lib.hid ho3
    have HB3 := Lib.hid hob3
    clear hx3 m0 m1 m2 hqf ho3 hob3
    have m0 := blk_cell HN3.out 0
    have m1 := blk_cell HN3.out 1
    have m2 := blk_cell HN3.out 2
    simp at m0 m1 m2
    go_wp2_with fail
    refine (HhMg.out _ HX3.out).mono ?_
    rintro e w4 ⟨ua, un, rfl, hx4, hoa4, hon4⟩
    have HX4 := Lib.hid (HX3.out.trans hx4)
    have HN4 := Lib.hid (blk_ext HN3.out hx4)
    have HRF := Lib.hid (rd_of_own encF_len (ownX_ext HO3.out hx4))
    have HGQ : Hid (∀ q ∈ qs, Good w4 q) := Lib.hid (fun q hq => ((HB3.out q hq).ext hx4).good)
    have HRA := Lib.hid (rd_of_own encAF_len hoa4)
    have HRN := Lib.hid (rd_of_own encNF_len hon4)
    clear hx4 hoa4 hon4 m0 m1 m2
    have HQL : Hid (qs.length = L.length) := Lib.hid (by rw [← List.length_map (f := PF.f), HQF.out])
    have hq1 : 0 < qs.length := by rw [HQL.out]; omega
    have hq20 : qs.length ≤ 21 := by rw [HQL.out]; omega
    obtain ⟨aF, cF, eF, -, hcF⟩ := rdF_cell HRF.out
    simp only [Value.slice.injEq, true_and] at eF
    obtain ⟨rfl, rfl⟩ := eF
    obtain ⟨b, o, rfl, l0, -, -⟩ := hcF 0 hq1
    have HCF := Lib.hid hcF
    clear hcF
    have hq0 : (qs[0]'hq1).nm = m.nm := by
      have h1 := HQF.out
      have h2 : (qs.map PF.f).head? = some m.f := by rw [h1]; exact Hhhd.out
      rw [List.head?_map] at h2
      have h3 : qs.head? = some (qs[0]'hq1) := by rw [List.head?_eq_getElem?, List.getElem?_eq_getElem hq1]
      rw [h3] at h2
      have h4 : (qs[0]'hq1).f = m.f := Option.some.inj h2
      exact congrArg Prod.fst h4
    rw [hq0] at l0
    have m0 := blk_cell HN4.out 0
    simp at m0
    simp only [Nat.zero_mul, Nat.add_zero] at l0
    have e0 : ((qs.length : Int) == 0) = false := by rw [beq_eq_false_iff_ne]; omega
    clear hq0
    obtain ⟨aa, ca, rfl⟩ : ∃ aa ca, ua = .slice aa R.1.length ca := by obtain ⟨x, y, h, -⟩ := HRA.out; exact ⟨x, y, h⟩
    obtain ⟨an, cn, rfl⟩ : ∃ an cn, un = .slice an R.2.length cn := by obtain ⟨x, y, h, -⟩ := HRN.out; exact ⟨x, y, h⟩
    go_wp2_with (go_quiet (fail))
    have hx5 : Ext w4 (w4.drewN nq) := (Ext.refl _).drewN _
    generalize w4.drewN nq = w5 at *
    have HX5 := Lib.hid (HX4.out.trans hx5)
    have HCF5 : Hid (∀ i, (hi : i < qs.length) → ∃ b' o', some (⟨b, o, none⟩ : Addr) = some ⟨b', o', none⟩ ∧ w5.cell? ⟨b', o' + i * 3, none⟩ = some (.string (str (qs[i]).nm)) ∧ w5.cell? ⟨b', o' + i * 3 + 1, none⟩ = some (.int .i64 (qs[i]).dir) ∧ w5.cell? ⟨b', o' + i * 3 + 2, none⟩ = some (.slice (qs[i]).a (qs[i]).bs.length (qs[i]).c)) := Lib.hid (fun i hi => by
      obtain ⟨b', o', e, g0, g1, g2⟩ := HCF.out i hi
      exact ⟨b', o', e, hx5.cell g0, hx5.cell g1, hx5.cell g2⟩)
    have HGQ5 : Hid (∀ q ∈ qs, Good w5 q) := Lib.hid (fun q hq => (HGQ.out q hq).ext hx5)
    have HRA5 := Lib.hid (HRA.out.ext hx5)
    have HRN5 := Lib.hid (HRN.out.ext hx5)
    clear hx5 m0 l0
    go_loopw [9, 10, 11] (fun va vn i wr => ∃ k : Nat, k ≤ qs.length ∧ i = .int .i64 k ∧ Ext w5 wr ∧ wr.ownsRow w5.heap.size 64 5 va ((L.take k).flatMap asF).length (((L.take k).flatMap asF).flatMap encAF) ∧ wr.ownsRow w5.heap.size 47 4 vn ((L.take k).flatMap ntF).length (((L.take k).flatMap ntF).flatMap encNF)) (fun _ _ i _ => qs.length - (intOf i).toNat)
    case atStart => exact ⟨0, by omega, rfl, Ext.refl _, World.ownsRow_nil _ _ _ _, World.ownsRow_nil _ _ _ _⟩
    case round =>
      obtain ⟨k, hk, rfl, hx, hoa, hon⟩ := hrel
      have HX := Lib.hid hx
      have HOA := Lib.hid hoa
      have HON := Lib.hid hon
      clear hx hoa hon
      have hak := Hhal.out k
      have hnk := Hhnl.out k
      rw [List.length_take] at hak hnk
      by_cases hlt : k < qs.length
      · have hlt' : k < L.length := by rw [← HQL.out]; exact hlt
        obtain ⟨b', o', e', c0, c1, c2⟩ := HCF5.out k hlt
        simp only [Option.some.injEq, Addr.mk.injEq, and_true] at e'
        obtain ⟨rfl, rfl⟩ := e'
        have C0 := Lib.hid c0
        replace c0 := HX.out.cell c0; replace c1 := HX.out.cell c1; replace c2 := HX.out.cell c2
        have hqf : ∀ i (h : i < qs.length) (h' : i < L.length), qs[i].f = L[i] := fun i h h' => by
          have h1 := HQF.out
          have h2 : (qs.map PF.f)[i]'(by rw [List.length_map]; exact h) = L[i] := by simp only [h1]
          rw [← h2, List.getElem_map]
        have hqk := hqf k hlt hlt'
        have hbk := Hhpb.out _ (List.getElem_mem hlt')
        rw [← hqk] at hbk
        have hgk := (HGQ5.out _ (List.getElem_mem hlt)).ext HX.out
        have hsa := fm_snoc asF hlt'
        have hsn := fm_snoc ntF hlt'
        rw [← hqk] at hsa hsn
        have HSA := Lib.hid hsa
        have HSN := Lib.hid hsn
        have hqa := asF_len qs[k].f
        have hqn := ntF_len qs[k].f
        -- the name ahead of this one is less
        have hpre : 2 ≤ k → ∃ np : List UInt8, w5.cell? ⟨b, o + (k - 1) * 3, none⟩ = some (.string (str np)) ∧ lt np qs[k].nm = true := fun h2 => by
          obtain ⟨b', o', e', g0, -, -⟩ := HCF5.out (k - 1) (by omega)
          simp only [Option.some.injEq, Addr.mk.injEq, and_true] at e'
          obtain ⟨rfl, rfl⟩ := e'
          refine ⟨_, g0, ?_⟩
          have h3 := Hhrise.out k h2 (by omega) hlt'
          rw [← hqf (k - 1) (by omega) (by omega), ← hqk] at h3
          exact h3
        have HPRE := Lib.hid hpre
        have hP := Parse_calls (str qs[k].nm) qs[k].dir qs[k].v qs[k].bs hbk wr hgk
        clear hqf hqk hpre hsa hsn hgk
        generalize qs[k] = q at *
        generalize (L.take k).flatMap asF = LA at *
        generalize (L.take k).flatMap ntF = LN at *
        unfold fileV PF.v at hP
        rw [show (parseL q.bs).1.flatMap (encAs (str q.nm)) = (asF q.f).flatMap encAF from asF_enc q.f, show (parseL q.bs).2.flatMap (encNt (str q.nm)) = (ntF q.f).flatMap encNF from ntF_enc q.f, show (parseL q.bs).1.length = (asF q.f).length by unfold asF; rw [List.length_map]; rfl, show (parseL q.bs).2.length = (ntF q.f).length by unfold ntF; rw [List.length_map]; rfl] at hP
        generalize asF q.f = qA at *
        generalize ntF q.f = qN at *
        have hswr := HX.out.size
        have HhP := Lib.hid hP
        clear hP
        go_wp2_with fail
        refine HhP.out.mono ?_
        rintro e w6 ⟨ua', un', rfl, hx6, hoa6, hon6⟩
        have HX6 := Lib.hid (HX.out.trans hx6)
        have HA6 := Lib.hid (ownX_ext HOA.out hx6)
        have HN6 := Lib.hid (ownX_ext HON.out hx6)
        have HPA := Lib.hid hoa6
        have HPN := Lib.hid hon6
        have hsz6 := hx6.size
        clear hx6 hoa6 hon6 c0 c1 c2
        have hk9 : k + 1 ≤ 1000000 := by omega
        by_cases h2 : 2 ≤ k
        · obtain ⟨np, g0, hlt2⟩ := HPRE.out h2
          have G0 := Lib.hid g0
          have hgt : decide ((1 : Int) < (k : Int)) = true := decide_eq_true (by omega)
          have hwk : IntKind.i64.wrap ((k : Int) - 1) = ((k - 1 : Nat) : Int) := by rw [show ((k - 1 : Nat) : Int) = (k : Int) - 1 by omega]; exact IntWalk.i64_in _ (by omega)
          have hbl : Op.bytesLess (str np).toList (str q.nm).toList = true := by rw [toList_str, toList_str]; exact hlt2
          have hbl2 : Op.bytesLess np q.nm = true := hlt2
          have hki : k - 1 < qs.length := by omega
          clear g0 hlt2
          go_wp2_with (first
            | (at_builtin
               refine wpList_app_g rfl (.tmp 82) (.tmp 83) _ rfl Try.underlying37 infoAs rfl (by decide) encAF_len encAF_one w5.heap.size _ _ LA qA rfl rfl (by exact HA6.out) (by exact rd_of_own encAF_len HPA.out) (by omega) (by decide) (by omega) ?_
               intro au7 cu7 w7 ho7 hg7
               have HA7 := Lib.hid ho7
               have HN7 := Lib.hid (own_kept2 HA6.out HN6.out (by decide) hg7)
               have HPN7 := Lib.hid (own_kept2 HA6.out HPN.out (by decide) hg7)
               have HX7 := Lib.hid (HX6.out.grown hg7 (fun j e => (HA6.out.lt j e).1))
               have hsz7 := hg7.size
               clear ho7 hg7)
            | (at_builtin
               refine wpList_app_g rfl (.tmp 85) (.tmp 86) _ rfl Try.underlying38 infoNt rfl (by decide) encNF_len encNF_one w5.heap.size _ _ LN qN rfl rfl (by exact HN7.out) (by exact rd_of_own encNF_len HPN7.out) (by omega) (by decide) (by omega) ?_
               intro au8 cu8 w8 ho8 hg8
               have HN8 := Lib.hid ho8
               have HA8 := Lib.hid (own_kept2 HN7.out HA7.out (by decide) hg8)
               have HX8 := Lib.hid (HX7.out.grown hg8 (fun j e => (HN7.out.lt j e).1))
               have d0 := HX8.out.cell C0.out
               have g1 := HX8.out.cell G0.out
               clear ho8 hg8)
            | (go_quiet (fail)))
          go_roundw
          case rel =>
            refine ⟨k + 1, by omega, by go_num, by repeat (first | exact HX8.out | apply Ext.drewN | apply Ext.drew), ?_, ?_⟩
            · rw [HSA.out, List.length_append]; exact ownsRow_drewN HA8.out _
            · rw [HSN.out, List.length_append]; exact ownsRow_drewN HN8.out _
          case measure => simp [intOf]; omega
        · have hgt : decide ((1 : Int) < (k : Int)) = false := decide_eq_false (by omega)
          go_wp2_with (first
            | (at_builtin
               refine wpList_app_g rfl (.tmp 82) (.tmp 83) _ rfl Try.underlying37 infoAs rfl (by decide) encAF_len encAF_one w5.heap.size _ _ LA qA rfl rfl (by exact HA6.out) (by exact rd_of_own encAF_len HPA.out) (by omega) (by decide) (by omega) ?_
               intro au7 cu7 w7 ho7 hg7
               have HA7 := Lib.hid ho7
               have HN7 := Lib.hid (own_kept2 HA6.out HN6.out (by decide) hg7)
               have HPN7 := Lib.hid (own_kept2 HA6.out HPN.out (by decide) hg7)
               have HX7 := Lib.hid (HX6.out.grown hg7 (fun j e => (HA6.out.lt j e).1))
               have hsz7 := hg7.size
               clear ho7 hg7)
            | (at_builtin
               refine wpList_app_g rfl (.tmp 85) (.tmp 86) _ rfl Try.underlying38 infoNt rfl (by decide) encNF_len encNF_one w5.heap.size _ _ LN qN rfl rfl (by exact HN7.out) (by exact rd_of_own encNF_len HPN7.out) (by omega) (by decide) (by omega) ?_
               intro au8 cu8 w8 ho8 hg8
               have HN8 := Lib.hid ho8
               have HA8 := Lib.hid (own_kept2 HN7.out HA7.out (by decide) hg8)
               have HX8 := Lib.hid (HX7.out.grown hg8 (fun j e => (HN7.out.lt j e).1))
               have d0 := HX8.out.cell C0.out
               clear ho8 hg8)
            | (go_quiet (fail)))
          go_roundw
          case rel =>
            refine ⟨k + 1, by omega, by go_num, by repeat (first | exact HX8.out | apply Ext.drewN | apply Ext.drew), ?_, ?_⟩
            · rw [HSA.out, List.length_append]; exact ownsRow_drewN HA8.out _
            · rw [HSN.out, List.length_append]; exact ownsRow_drewN HN8.out _
          case measure => simp [intOf]; omega
      · obtain rfl : k = qs.length := by omega
        rw [HQL.out, List.take_length] at HOA HON
        have hR := HhR0.out
        have hla1 := Hhla.out
        have hln1 := Hhln.out
        clear hak hnk
        generalize L.flatMap ntF = LN at *
        generalize L.flatMap asF = LA at *
        obtain ⟨va, ca', rfl⟩ := own_form HOA.out
        obtain ⟨vn, cn', rfl⟩ := own_form HON.out
        have HRA9 := Lib.hid (HRA5.out.ext HX.out)
        have HRN9 := Lib.hid (HRN5.out.ext HX.out)
        have HXE := Lib.hid (HX5.out.trans HX.out)
        by_cases hnn : LN = []
        · have hR1 : R.1 = LA := by rw [hR, if_neg (by simp [hnn])]
          have hR2 : R.2 = [] := by rw [hR, if_neg (by simp [hnn])]
          have hsA := sameAF_calls _ _ _ _ hla1 (by rw [← hR1]; exact hla1) wr HRA9.out (rd_of_own encAF_len HOA.out)
          rw [hR1, decide_eq_true rfl] at hsA
          rw [hR1, hR2]
          subst hnn
          have HhsA := Lib.hid hsA
          clear hsA
          clear hR hR1 hR2 hla1 hln1
          go_wp2_with fail
          refine HhsA.out.mono ?_
          rintro e w6 ⟨rfl, hx6⟩
          have HX6 := Lib.hid hx6
          clear hx6
          go_wp2_with fail
          refine (HAW.out _).mono ?_
          rintro e w8 ⟨rfl, hx8⟩
          go_wp2_with fail
          go_ret
          exact ⟨rfl, (HXE.out.trans HX6.out).trans hx8⟩
        · have hR1 : R.1 = [] := by rw [hR, if_pos hnn]
          have hR2 : R.2 = LN := by rw [hR, if_pos hnn]
          have hpos : 0 < LN.length := by
            cases h : LN with
            | nil => exact absurd h hnn
            | cons x r => simp
          have hpd : decide ((0 : Int) < (LN.length : Int)) = true := decide_eq_true (by omega)
          have hsN := sameNF_calls _ _ _ _ hln1 (by rw [← hR2]; exact hln1) wr HRN9.out (rd_of_own encNF_len HON.out)
          rw [hR2, decide_eq_true rfl] at hsN
          rw [hR1, hR2]
          have HhsN := Lib.hid hsN
          clear hsN
          clear hR hR1 hR2 hla1 hln1
          go_wp2_with fail
          refine HhsN.out.mono ?_
          rintro e w6 ⟨rfl, hx6⟩
          have HX6 := Lib.hid hx6
          clear hx6
          go_wp2_with fail
          refine (HAW.out _).mono ?_
          rintro e w8 ⟨rfl, hx8⟩
          go_wp2_with fail
          go_ret
          exact ⟨rfl, (HXE.out.trans HX6.out).trans hx8⟩
  · have hOL : orderL m.f (ps.map PF.f) = [] := by unfold orderL; rw [if_neg h0]
    have hRe : mergeL m.f (ps.map PF.f) = ([], [noteE m.f (ps.map PF.f)]) := mergeL_err h0
    have hne : (noteE m.f (ps.map PF.f)).2.2.1 = ordE (ps.map PF.f) := rfl
    rw [hOL] at hOr
    rw [hRe] at hMg
    dsimp only at hMg
    have hE0 : ((ordE (ps.map PF.f) : Int) != 0) = true := by simp; omega
    generalize noteE m.f (ps.map PF.f) = nt at *
    generalize ordE (ps.map PF.f) = E at *
    clear h0 hOL hlo hl hRe hla hln hpb
    have HhG := Lib.hid hG
    clear hG
    have HhOr := Lib.hid hOr
    clear hOr
    have HhMg := Lib.hid hMg
    clear hMg
    go_enter Try.func7, Try.ntmps7
    go_wp2_with fail
    refine (HhG.out _ HX1.out).mono ?_
    rintro e w2 ⟨rfl, hx2⟩
    have HX2 := Lib.hid (HX1.out.trans hx2)
    have HN2 := Lib.hid (blk_ext HN1.out hx2)
    clear hx2 m0 m1 m2
    have m0 := blk_cell HN2.out 0
    have m1 := blk_cell HN2.out 1
    have m2 := blk_cell HN2.out 2
    simp at m0 m1 m2
    go_wp2_with fail
    refine (HhOr.out _ HX2.out).mono ?_
    rintro e w3 ⟨u, qs, rfl, hqf, hx3, ho3, -⟩
    obtain ⟨au, cu, rfl⟩ := own_form ho3
    have hq0 : qs = [] := by simpa using hqf
    subst hq0
    have HX3 := Lib.hid (HX2.out.trans hx3)
    have HN3 := Lib.hid (blk_ext HN2.out hx3)
    clear hx3 m0 m1 m2 hqf ho3
    have m0 := blk_cell HN3.out 0
    have m1 := blk_cell HN3.out 1
    have m2 := blk_cell HN3.out 2
    simp at m0 m1 m2
    go_wp2_with fail
    refine (HhMg.out _ HX3.out).mono ?_
    rintro e w4 ⟨ua, un, rfl, hx4, hoa4, hon4⟩
    have HX4 := Lib.hid (HX3.out.trans hx4)
    obtain ⟨aa, ca, rfl⟩ := own_form hoa4
    obtain ⟨an, cn, rfl, -, hcn⟩ := rdNF_cell (rd_of_own (xs := [nt]) encNF_len hon4)
    obtain ⟨b, o, rfl, -, -, n2, -⟩ := hcn 0 (by simp)
    simp only [List.getElem_cons_zero, Nat.zero_mul, Nat.add_zero, hne] at n2
    clear hx4 hoa4 hon4 m0 m1 m2 hcn hne
    go_wp2_with fail
    refine (HAW.out _).mono ?_
    rintro e w8 ⟨rfl, hx8⟩
    go_wp2_with fail
    go_ret
    exact ⟨rfl, HX4.out.trans hx8⟩
end L12
end Go.Proofs.Ytkmbahpjioopdaa
