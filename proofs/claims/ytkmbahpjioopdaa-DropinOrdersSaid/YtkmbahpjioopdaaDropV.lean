/- Layer 14: the walk of the reference's Merge. -/
import Derived.Test.YtkmbahpjioopdaaUnitO
import Derived.Test.YtkmbahpjioopdaaDropT
namespace Go.Proofs.Ytkmbahpjioopdaa
open Go.RowKit V
attribute [local go_sem] Oper.semAt_some Option.isSome_some
namespace L12
theorem find_first : ∀ (l : List PF) (k : Nat) (hk : k < l.length), (∀ j (hj : j < k), mayN (l[j]'(by omega)).nm = true) → mayN l[k].nm = false → (l.map PF.f).find? (fun f => !mayN f.1) = some l[k].f
  | p :: r, 0, _, _, h2 => by
    rw [List.map_cons, List.find?_cons]
    have : mayN p.f.1 = false := h2
    simp [this]
  | p :: r, k + 1, hk, h1, h2 => by
    rw [List.map_cons, List.find?_cons]
    have : mayN p.f.1 = true := h1 0 (by omega)
    simp only [this, Bool.not_true]
    exact find_first r k (by simpa using hk) (fun j hj => h1 (j + 1) (by omega)) h2
set_option maxRecDepth 100000 in
set_option maxHeartbeats 8000000 in
theorem refMerge_calls (m : PF) (v : Value) (ps : List PF) (hl : ps.length ≤ 1000000) (hom : OkF m) (hop : ∀ p ∈ ps, OkF p) (w : World) (hgm : Good w m) (hv : Rd w 3 encF v ps) (hg : ∀ p ∈ ps, Good w p) :
    Calls Try.prog 17 #[fV m, v] w fun e w' => ∃ ua un, e = .returned (.tuple #[ua, un]) ∧ Ext w w' ∧
      w'.ownsRow w.heap.size 64 5 ua (mergeL m.f (ps.map PF.f)).1.length ((mergeL m.f (ps.map PF.f)).1.flatMap encAF) ∧ w'.ownsRow w.heap.size 47 4 un (mergeL m.f (ps.map PF.f)).2.length ((mergeL m.f (ps.map PF.f)).2.flatMap encNF) := by
  have hO := fun W (hx : Ext w W) => refOrder_calls m v ps hl hop W (hv.ext hx)
  have hM := fun p (hp : p ∈ ps) W => refMay14_calls (str p.nm) (by rw [str_sizeD]; exact (hop p hp).n) W
  obtain ⟨a, c, rfl, hac, hca⟩ := rdF_cell hv
  have hn1 := heap_alloc_new w (.cells #[.string (str m.nm), .int .i64 m.dir, .slice m.a m.bs.length m.c] 24)
  have hx1 : Ext w (w.alloc (.cells #[.string (str m.nm), .int .i64 m.dir, .slice m.a m.bs.length m.c] 24)) := (Ext.refl _).alloc _
  have HX1 := Lib.hid hx1
  have HN1 := Lib.hid hn1
  clear hx1 hv hn1
  unfold fV at hO ⊢
  obtain ⟨R, hR⟩ : ∃ R, R = mergeL m.f (ps.map PF.f) := ⟨_, rfl⟩
  rw [← hR]
  by_cases h0 : ordE (ps.map PF.f) = 0
  · have hR0 : R = if (m.f :: ordL (ps.map PF.f)).flatMap ntF ≠ [] then ([], (m.f :: ordL (ps.map PF.f)).flatMap ntF) else ((m.f :: ordL (ps.map PF.f)).flatMap asF, []) := by rw [hR, mergeL_ok h0]
    have hlo := ordL_len (ps.map PF.f)
    rw [List.length_map] at hlo
    have h16 : ps.length ≤ 16 := by
      unfold ordE at h0
      rw [List.length_map] at h0
      split at h0
      · simp at h0
      · omega
    have hOL : orderL m.f (ps.map PF.f) = m.f :: ordL (ps.map PF.f) := by unfold orderL; rw [if_pos h0]
    rw [h0, hOL] at hO
    have hln : (m.f :: ordL (ps.map PF.f)).length ≤ 17 := by rw [List.length_cons]; omega
    generalize m.f :: ordL (ps.map PF.f) = L at *
    have HR0 := Lib.hid hR0
    have HGD : Hid (∀ q, (q = m ∨ q ∈ ps) → Good w q ∧ q.bs.length ≤ 1000000) := Lib.hid (fun q hq => by
      rcases hq with rfl | hq
      · exact ⟨hgm, hom.b⟩
      · exact ⟨hg q hq, (hop q hq).b⟩)
    have hal := fun k => fm_len asF asF_len (L.take k)
    have hnl := fun k => fm_len ntF ntF_len (L.take k)
    clear hR hR0 hop hg h0 hOL hlo hM hca hgm hom
    have Hhal := Lib.hid hal
    clear hal
    have Hhnl := Lib.hid hnl
    clear hnl
    have HhO := Lib.hid hO
    clear hO
    go_enter Try.func17, Try.ntmps17
    go_wp2_with fail
    refine (HhO.out _ HX1.out).mono ?_
    rintro e w2 ⟨u, qs, rfl, hqf, hx2, ho2, hmem⟩
    obtain ⟨au, cu, rfl⟩ := own_form ho2
    have HX2 := Lib.hid (HX1.out.trans hx2)
    have HQF := Lib.hid hqf
    have HQL : Hid (qs.length = L.length) := Lib.hid (by rw [← List.length_map (f := PF.f), hqf])
    have HRF := Lib.hid (rd_of_own encF_len ho2)
    have HG2 : Hid (∀ q ∈ qs, Good w2 q ∧ q.bs.length ≤ 1000000) := Lib.hid (fun q hq => ⟨((HGD.out q (hmem q hq)).1).ext HX2.out, (HGD.out q (hmem q hq)).2⟩)
    clear hx2 ho2 hqf hmem HGD
    obtain ⟨aF, cF, eF, -, hcF⟩ := rdF_cell HRF.out
    simp only [Value.slice.injEq, true_and] at eF
    obtain ⟨rfl, rfl⟩ := eF
    have HhcF := Lib.hid hcF
    clear hcF
    go_wp2_with fail
    go_loopw [10, 11, 12] (fun va vn i wr => ∃ k : Nat, k ≤ qs.length ∧ i = .int .i64 k ∧ Ext w2 wr ∧ wr.ownsRow w2.heap.size 64 5 va ((L.take k).flatMap asF).length (((L.take k).flatMap asF).flatMap encAF) ∧ wr.ownsRow w2.heap.size 47 4 vn ((L.take k).flatMap ntF).length (((L.take k).flatMap ntF).flatMap encNF)) (fun _ _ i _ => qs.length - (intOf i).toNat)
    case atStart => exact ⟨0, by omega, rfl, Ext.refl _, World.ownsRow_nil _ _ _ _, World.ownsRow_nil _ _ _ _⟩
    case round =>
      obtain ⟨k, hk, rfl, hx, hoa, hon⟩ := hrel
      have HX := Lib.hid hx
      have HOA := Lib.hid hoa
      have HON := Lib.hid hon
      clear hx hoa hon
      have hak := Hhal.out k
      have hnk := Hhnl.out k
      rw [List.length_take] at hak hnk
      by_cases hlt : k < qs.length
      · have hlt' : k < L.length := by rw [← HQL.out]; exact hlt
        obtain ⟨b, o, rfl, c0, c1, c2⟩ := HhcF.out k hlt
        replace c0 := HX.out.cell c0; replace c1 := HX.out.cell c1; replace c2 := HX.out.cell c2
        have hqk : qs[k].f = L[k] := by
          have h1 := HQF.out
          have h2 : (qs.map PF.f)[k]'(by rw [List.length_map]; exact hlt) = L[k] := by simp only [h1]
          rw [← h2, List.getElem_map]
        obtain ⟨hgk, hbk⟩ := HG2.out _ (List.getElem_mem hlt)
        replace hgk := hgk.ext HX.out
        have hsa := fm_snoc asF hlt'
        have hsn := fm_snoc ntF hlt'
        rw [← hqk] at hsa hsn
        have HSA := Lib.hid hsa
        have HSN := Lib.hid hsn
        have hqa := asF_len qs[k].f
        have hqn := ntF_len qs[k].f
        have hP := refParse_calls (str qs[k].nm) qs[k].dir qs[k].v qs[k].bs hbk wr hgk
        clear hqk hsa hsn hgk
        generalize qs[k] = q at *
        generalize (L.take k).flatMap asF = LA at *
        generalize (L.take k).flatMap ntF = LN at *
        unfold fileV PF.v at hP
        rw [show (parseL q.bs).1.flatMap (encAs (str q.nm)) = (asF q.f).flatMap encAF from asF_enc q.f, show (parseL q.bs).2.flatMap (encNt (str q.nm)) = (ntF q.f).flatMap encNF from ntF_enc q.f, show (parseL q.bs).1.length = (asF q.f).length by unfold asF; rw [List.length_map]; rfl, show (parseL q.bs).2.length = (ntF q.f).length by unfold ntF; rw [List.length_map]; rfl] at hP
        generalize asF q.f = qA at *
        generalize ntF q.f = qN at *
        have hswr := HX.out.size
        have hk9 : k + 1 ≤ 1000000 := by omega
        have HhP := Lib.hid hP
        clear hP
        go_wp2_with fail
        refine HhP.out.mono ?_
        rintro e w6 ⟨ua', un', rfl, hx6, hoa6, hon6⟩
        have HX6 := Lib.hid (HX.out.trans hx6)
        have HA6 := Lib.hid (ownX_ext HOA.out hx6)
        have HN6 := Lib.hid (ownX_ext HON.out hx6)
        have HPA := Lib.hid hoa6
        have HPN := Lib.hid hon6
        have hsz6 := hx6.size
        clear hx6 hoa6 hon6 c0 c1 c2
        go_wp2_with (first
          | (at_builtin
             refine wpList_app_g rfl (.tmp 74) (.tmp 75) _ rfl Try.underlying37 infoAs rfl (by decide) encAF_len encAF_one w2.heap.size _ _ LA qA rfl rfl (by exact HA6.out) (by exact rd_of_own encAF_len HPA.out) (by omega) (by decide) (by omega) ?_
             intro au7 cu7 w7 ho7 hg7
             have HA7 := Lib.hid ho7
             have HN7 := Lib.hid (own_kept2 HA6.out HN6.out (by decide) hg7)
             have HPN7 := Lib.hid (own_kept2 HA6.out HPN.out (by decide) hg7)
             have HX7 := Lib.hid (HX6.out.grown hg7 (fun j e => (HA6.out.lt j e).1))
             have hsz7 := hg7.size
             clear ho7 hg7)
          | (at_builtin
             refine wpList_app_g rfl (.tmp 77) (.tmp 78) _ rfl Try.underlying38 infoNt rfl (by decide) encNF_len encNF_one w2.heap.size _ _ LN qN rfl rfl (by exact HN7.out) (by exact rd_of_own encNF_len HPN7.out) (by omega) (by decide) (by omega) ?_
             intro au8 cu8 w8 ho8 hg8
             have HN8 := Lib.hid ho8
             have HA8 := Lib.hid (own_kept2 HN7.out HA7.out (by decide) hg8)
             have HX8 := Lib.hid (HX7.out.grown hg8 (fun j e => (HN7.out.lt j e).1))
             clear ho8 hg8))
        go_roundw
        case rel =>
          refine ⟨k + 1, by omega, by go_num, HX8.out, ?_, ?_⟩
          · rw [HSA.out, List.length_append]; exact HA8.out
          · rw [HSN.out, List.length_append]; exact HN8.out
        case measure => simp [intOf]; omega
      · obtain rfl : k = qs.length := by omega
        rw [HQL.out, List.take_length] at HOA HON
        clear hak hnk
        generalize L.flatMap ntF = LN at *
        generalize L.flatMap asF = LA at *
        have HXE := Lib.hid (HX2.out.trans HX.out)
        have hsw2 := HX2.out.size
        by_cases hnn : LN = []
        · have hRR : R = (LA, []) := by rw [HR0.out, if_neg (by simp [hnn])]
          subst hRR
          rw [hnn] at HON
          simp only [List.length_nil, List.flatMap_nil] at HON
          obtain ⟨an, cn, rfl⟩ := own_form HON.out
          obtain ⟨aa, ca, rfl⟩ := own_form HOA.out
          go_wp2_with fail
          go_ret2
          exact ⟨_, _, rfl, HXE.out, own_base HOA.out hsw2, World.ownsRow_nil _ _ _ _⟩
        · have hRR : R = ([], LN) := by rw [HR0.out, if_pos hnn]
          subst hRR
          have hpos : 0 < LN.length := by
            cases h : LN with
            | nil => exact absurd h hnn
            | cons x r => simp
          obtain ⟨an, cn, rfl⟩ := own_form HON.out
          obtain ⟨aa, ca, rfl⟩ := own_form HOA.out
          have hpd : decide ((0 : Int) < (LN.length : Int)) = true := decide_eq_true (by omega)
          go_wp2_with fail
          go_ret2
          exact ⟨_, _, rfl, HXE.out, World.ownsRow_nil _ _ _ _, own_base HON.out hsw2⟩
  · have hoe : ordE (ps.map PF.f) = 0 ∨ ordE (ps.map PF.f) = 4 ∨ ordE (ps.map PF.f) = 140 := by unfold ordE; split <;> (try split) <;> simp
    rcases hoe with h1 | h4 | h140
    · exact absurd h1 h0
    · have hR1 : R = ([], [(m.nm, 0, 4, [])]) := by
        rw [hR, mergeL_err (by rw [h4]; decide)]
        unfold noteE
        rw [h4, if_neg (by decide)]
        rfl
      have hlen : 16 < ps.length := by
        unfold ordE at h4
        rw [List.length_map] at h4
        split at h4
        · assumption
        · split at h4 <;> simp at h4
      rw [h4] at hO
      subst hR1
      clear hR hop hg h4 h0 hM hgm hom
      have HhO := Lib.hid hO
      clear hO
      have Hhca := Lib.hid hca
      clear hca
      go_enter Try.func17, Try.ntmps17
      go_wp2_with fail
      refine (HhO.out _ HX1.out).mono ?_
      rintro e w2 ⟨u, qs, rfl, -, hx2, -, -⟩
      have HX2 := Lib.hid (HX1.out.trans hx2)
      have hb2 := blk_ext HN1.out hx2
      have m0 := blk_cell hb2 0
      simp at m0
      clear hx2 hb2
      go_wp2_with fail
      go_loopw [9] (fun i wr => i = .int .i64 0 ∧ wr = w2.alloc (.cells #[.string (str m.nm), .int .i64 0, .int .i64 4, .string ⟨#[]⟩] 47)) (fun _ _ => 0)
      case atStart => exact ⟨rfl, rfl⟩
      case round =>
        obtain ⟨rfl, rfl⟩ := hrel
        obtain ⟨W3, hW3⟩ : ∃ W3, W3 = w2.alloc (.cells #[.string (str m.nm), .int .i64 0, .int .i64 4, .string ⟨#[]⟩] 47) := ⟨_, rfl⟩
        have hn3 := heap_alloc_new w2 (.cells #[.string (str m.nm), .int .i64 0, .int .i64 4, .string ⟨#[]⟩] 47)
        have HX3 : Hid (Ext w W3) := Lib.hid (by rw [hW3]; exact HX2.out.alloc _)
        rw [← hW3] at hn3 ⊢
        have n0 := blk_cell hn3 0
        have n1 := blk_cell hn3 1
        have n2 := blk_cell hn3 2
        have n3 := blk_cell hn3 3
        simp at n0 n1 n2 n3
        clear hW3 hn3
        have hd0 : decide ((0 : Int) < (ps.length : Int)) = true := decide_eq_true (by omega)
        go_upto_region 11 with fail
        (go_region_law (fail))
        all_goals
          go_wp2_with fail
          go_ret2
          exact ⟨.slice none 0 0, _, rfl, (HX3.out.drew).alloc _, World.ownsRow_nil _ _ _ _, own_lit encNF_len W3.drew [(m.nm, 0, 4, [])] 47 _ w.heap.size rfl HX3.out.size (by unfold maxLen; simp)⟩
    · have hall2 : ¬ ∀ p ∈ ps, mayN p.nm = true := by
        intro h
        unfold ordE at h140
        rw [show (ps.map PF.f).all (fun f => mayN f.1) = true by rw [List.all_eq_true]; intro f hf; obtain ⟨p, hp, rfl⟩ := List.mem_map.1 hf; exact h p hp] at h140
        split at h140 <;> simp at h140
      rw [h140] at hO
      have HR1 : Hid (∀ k (hk : k < ps.length), (∀ j (hj : j < k), mayN (ps[j]'(by omega)).nm = true) → mayN ps[k].nm = false → R = ([], [(m.nm, 0, 140, ps[k].nm.take 60)])) := Lib.hid (fun k hk h1 h2 => by
        rw [hR, mergeL_err (by rw [h140]; decide)]
        unfold noteE
        rw [h140, if_pos rfl, find_first ps k hk h1 h2]
        rfl)
      have HOP := Lib.hid hop
      have HAL := Lib.hid hall2
      clear hR hop hg h140 h0 hgm hom hall2
      have HhO := Lib.hid hO
      clear hO
      have HhM := Lib.hid hM
      clear hM
      have Hhca := Lib.hid hca
      clear hca
      go_enter Try.func17, Try.ntmps17
      go_wp2_with fail
      refine (HhO.out _ HX1.out).mono ?_
      rintro e w2 ⟨u, qs, rfl, -, hx2, -, -⟩
      have HX2 := Lib.hid (HX1.out.trans hx2)
      have hb2 := blk_ext HN1.out hx2
      have m0 := blk_cell hb2 0
      simp at m0
      clear hx2 hb2
      have hn3 := heap_alloc_new w2 (.cells #[.string (str m.nm), .int .i64 0, .int .i64 140, .string ⟨#[]⟩] 47)
      have hx3 : Ext w (w2.alloc (.cells #[.string (str m.nm), .int .i64 0, .int .i64 140, .string ⟨#[]⟩] 47)) := HX2.out.alloc _
      have hszw := HX2.out.size
      have HX3 := Lib.hid hx3
      have HN3 := Lib.hid hn3
      clear hn3 hx3
      go_wp2_with fail
      go_loopw [9] (fun i wr => ∃ k : Nat, ∃ hk : k ≤ ps.length, i = .int .i64 k ∧ Ext w wr ∧ wr.heap[w2.heap.size]? = some (.cells #[.string (str m.nm), .int .i64 0, .int .i64 140, .string ⟨#[]⟩] 47 (0, 0)) ∧ ∀ j (hj : j < k), mayN (ps[j]'(by omega)).nm = true) (fun i _ => ps.length - (intOf i).toNat)
      case atStart => exact ⟨0, by omega, rfl, HX3.out, HN3.out, fun j hj => absurd hj (by omega)⟩
      case round =>
        obtain ⟨k, hk, rfl, hx, hn, hm⟩ := hrel
        have HX := Lib.hid hx
        have HN := Lib.hid hn
        have HM := Lib.hid hm
        clear hx hn hm
        by_cases hlt : k < ps.length
        · obtain ⟨b', o, rfl, c0, -, -⟩ := Hhca.out k hlt
          have HC0 := Lib.hid c0
          replace c0 := HX.out.cell c0
          have hMk := HhM.out _ (List.getElem_mem hlt) wr
          have hni := (HOP.out _ (List.getElem_mem hlt)).n
          have hRk := HR1.out k hlt HM.out
          have hmn : ∀ j (hj : j < k + 1), mayN ps[k].nm = true → mayN (ps[j]'(by omega)).nm = true := fun j hj h => by
            by_cases e : j = k
            · subst e; exact h
            · exact HM.out j (by omega)
          have HRk := Lib.hid hRk
          have HMN := Lib.hid hmn
          clear hRk hmn
          rw [bytes_strD] at hMk
          generalize ps[k].nm = nm at *
          have HhMk := Lib.hid hMk
          clear hMk
          have hk9 : k + 1 ≤ 1000000 := by omega
          unfold maxLen at hni
          have hsz : (str nm).size = nm.length := str_sizeD nm
          go_wp2_with fail
          refine HhMk.out.mono ?_
          rintro e w4 ⟨rfl, hx4⟩
          have HX4 := Lib.hid (HX.out.trans hx4)
          have HN4 := Lib.hid (blk_ext HN.out hx4)
          clear c0
          have c0 := HX4.out.cell HC0.out
          clear hx4
          have f3 : w4.frozen? ⟨w2.heap.size, 3, none⟩ = false := by simp [World.frozen?, HN4.out]
          have n3 := blk_cell HN4.out 3
          simp at n3
          by_cases hmy : mayN nm = true
          · rw [hmy]
            go_wp2_with fail
            go_roundw
            case rel => exact ⟨k + 1, by omega, by go_num, HX4.out, HN4.out, fun j hj => HMN.out j hj hmy⟩
            case measure => simp [intOf]; omega
          · have hmf : mayN nm = false := by cases h : mayN nm <;> simp_all
            have hRk := HRk.out hmf
            subst hRk
            rw [hmf]
            go_upto_region 9 with fail
            have hb5 : (w4.setCell ⟨w2.heap.size, 3, none⟩ (.string (str nm))).heap[w2.heap.size]? = some (.cells #[.string (str m.nm), .int .i64 0, .int .i64 140, .string (str nm)] 47 (0, 0)) := Go.Joins.block_setCell HN4.out _
            have hx5 : Ext w (w4.setCell ⟨w2.heap.size, 3, none⟩ (.string (str nm))) := HX4.out.setCell (p := ⟨w2.heap.size, 3, none⟩) hszw _
            generalize w4.setCell ⟨w2.heap.size, 3, none⟩ (.string (str nm)) = w5 at *
            clear n3 f3
            have f5 : w5.frozen? ⟨w2.heap.size, 3, none⟩ = false := by simp [World.frozen?, hb5]
            have n0 := blk_cell hb5 0
            have n1 := blk_cell hb5 1
            have n2 := blk_cell hb5 2
            have n3 := blk_cell hb5 3
            simp at n0 n1 n2 n3
            have HX5 := Lib.hid hx5
            have HB5 := Lib.hid hb5
            clear hx5 hb5
            by_cases h60 : 60 < nm.length
            · have hd6 : decide ((60 : Int) < (nm.length : Int)) = true := decide_eq_true (by omega)
              have hex : (str nm).extract 0 60 = str (nm.take 60) := bytes_inj (by rw [bytes_ext, bytes_strD, bytes_strD, List.drop_zero, Nat.sub_zero])
              have h60' : (60 : Int) ≤ (nm.length : Int) := by omega
              go_upto_region 11 with fail
              have hb6 : (w5.setCell ⟨w2.heap.size, 3, none⟩ (.string (str (nm.take 60)))).heap[w2.heap.size]? = some (.cells #[.string (str m.nm), .int .i64 0, .int .i64 140, .string (str (nm.take 60))] 47 (0, 0)) := Go.Joins.block_setCell HB5.out _
              have hx6 : Ext w (w5.setCell ⟨w2.heap.size, 3, none⟩ (.string (str (nm.take 60)))) := HX5.out.setCell (p := ⟨w2.heap.size, 3, none⟩) hszw _
              generalize w5.setCell ⟨w2.heap.size, 3, none⟩ (.string (str (nm.take 60))) = w6 at *
              clear n0 n1 n2 n3 f5
              have n0 := blk_cell hb6 0
              have n1 := blk_cell hb6 1
              have n2 := blk_cell hb6 2
              have n3 := blk_cell hb6 3
              simp at n0 n1 n2 n3
              have HX6 := Lib.hid hx6
              clear hx6 hb6
              (go_region_law (fail))
              all_goals
                go_wp2_with fail
                go_ret2
                exact ⟨.slice none 0 0, _, rfl, (HX6.out.drew).alloc _, World.ownsRow_nil _ _ _ _, own_lit encNF_len w6.drew [(m.nm, 0, 140, nm.take 60)] 47 _ w.heap.size rfl HX6.out.size (by unfold maxLen; simp)⟩
            · have hd6 : decide ((60 : Int) < (nm.length : Int)) = false := decide_eq_false (by omega)
              have htk : nm.take 60 = nm := List.take_of_length_le (by omega)
              go_upto_region 11 with fail
              (go_region_law (fail))
              all_goals
                go_wp2_with fail
                go_ret2
                exact ⟨.slice none 0 0, _, rfl, (HX5.out.drew).alloc _, World.ownsRow_nil _ _ _ _, own_lit encNF_len w5.drew [(m.nm, 0, 140, nm)] 47 _ w.heap.size rfl HX5.out.size (by unfold maxLen; simp)⟩
        · exact absurd (fun p hp => by
            obtain ⟨j, hj, rfl⟩ := List.mem_iff_getElem.1 hp
            exact HM.out j (by omega)) HAL.out
end L12
end Go.Proofs.Ytkmbahpjioopdaa
