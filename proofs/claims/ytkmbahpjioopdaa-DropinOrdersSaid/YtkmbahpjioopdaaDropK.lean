/- Layer 14: the walk of Merge. -/
import Derived.Test.YtkmbahpjioopdaaUnitO
import Derived.Test.YtkmbahpjioopdaaDropJ
namespace Go.Proofs.Ytkmbahpjioopdaa
open Go.RowKit V
attribute [local go_sem] Oper.semAt_some Option.isSome_some
namespace L12
def encAF (x : AF) : List Value := [.string (str x.1), .int .i64 (x.2.1 : Int), .string (str x.2.2.1), .string (str x.2.2.2.1), .string (str x.2.2.2.2)]
def encNF (x : NF) : List Value := [.string (str x.1), .int .i64 (x.2.1 : Int), .int .i64 (x.2.2.1 : Int), .string (str x.2.2.2)]
theorem encAF_len (x : AF) : (encAF x).length = 5 := rfl
theorem encNF_len (x : NF) : (encNF x).length = 4 := rfl
theorem encAF_one (s : AF) : ∀ u ∈ encAF s, u.oneCell' = true := by intro u hu; simp [encAF] at hu; rcases hu with rfl | rfl | rfl | rfl | rfl <;> rfl
theorem encNF_one (s : NF) : ∀ u ∈ encNF s, u.oneCell' = true := by intro u hu; simp [encNF] at hu; rcases hu with rfl | rfl | rfl | rfl <;> rfl
theorem parse_len (bs : List UInt8) : (parseL bs).1.length ≤ 1001 ∧ (parseL bs).2.length ≤ 1001 := by
  have h1 := foldU_len (splitA bs).1 ⟨[], false, [], []⟩
  have h2 := splitA_len bs
  have h3 : foldU bs = (splitA bs).1.foldl stepU ⟨[], false, [], []⟩ := rfl
  rw [← h3] at h1
  simp only [List.length_nil] at h1
  unfold parseL
  split
  · simp
  · split <;> simp <;> omega
theorem asF_len (f : Fl) : (asF f).length ≤ 1001 := by unfold asF; rw [List.length_map]; exact (parse_len _).1
theorem ntF_len (f : Fl) : (ntF f).length ≤ 1001 := by unfold ntF; rw [List.length_map]; exact (parse_len _).2
theorem asF_enc (f : Fl) : (parseL f.2.2).1.flatMap (encAs (str f.1)) = (asF f).flatMap encAF := by unfold asF; rw [List.flatMap_map]; rfl
theorem ntF_enc (f : Fl) : (parseL f.2.2).2.flatMap (encNt (str f.1)) = (ntF f).flatMap encNF := by unfold ntF; rw [List.flatMap_map]; rfl
theorem fm_len {α : Type} (g : Fl → List α) (hg : ∀ f, (g f).length ≤ 1001) : ∀ l : List Fl, (l.flatMap g).length ≤ 1001 * l.length
  | [] => by simp
  | a :: l => by
    have := fm_len g hg l
    have := hg a
    rw [List.flatMap_cons, List.length_append, List.length_cons]
    omega
theorem fm_snoc {α : Type} (g : Fl → List α) {l : List Fl} {k : Nat} (h : k < l.length) : (l.take (k + 1)).flatMap g = (l.take k).flatMap g ++ g l[k] := by
  rw [List.take_add_one, List.getElem?_eq_getElem h, List.flatMap_append]
  simp
set_option maxRecDepth 100000 in
set_option maxHeartbeats 4000000 in
theorem Merge_calls (m : PF) (v : Value) (ps : List PF) (hl : ps.length ≤ 1000000) (hom : OkF m) (hop : ∀ p ∈ ps, OkF p) (w : World) (hgm : Good w m) (hv : Rd w 3 encF v ps) (hg : ∀ p ∈ ps, Good w p) :
    Calls Try.prog 16 #[fV m, v] w fun e w' => ∃ ua un, e = .returned (.tuple #[ua, un]) ∧ Ext w w' ∧
      w'.ownsRow w.heap.size 64 5 ua (mergeL m.f (ps.map PF.f)).1.length ((mergeL m.f (ps.map PF.f)).1.flatMap encAF) ∧ w'.ownsRow w.heap.size 47 4 un (mergeL m.f (ps.map PF.f)).2.length ((mergeL m.f (ps.map PF.f)).2.flatMap encNF) := by
  have hO := fun W (hx : Ext w W) => Order_calls m v ps hl hom hop W (Good.ext hx hgm) (hv.ext hx) (fun p hp => Good.ext hx (hg p hp))
  obtain ⟨a, c, rfl, hac, hca⟩ := rdF_cell hv
  have hW := fun W (hx : Ext w W) => wrong14_calls _ ps hl (fun p hp => (hop p hp).n) W (hv.ext hx)
  have hn1 := heap_alloc_new w (.cells #[.string (str m.nm), .int .i64 m.dir, .slice m.a m.bs.length m.c] 24)
  have hx1 : Ext w (w.alloc (.cells #[.string (str m.nm), .int .i64 m.dir, .slice m.a m.bs.length m.c] 24)) := (Ext.refl _).alloc _
  have HX1 := Lib.hid hx1
  have HN1 := Lib.hid hn1
  clear hx1 hv hn1
  unfold fV at hO ⊢
  obtain ⟨R, hR⟩ : ∃ R, R = mergeL m.f (ps.map PF.f) := ⟨_, rfl⟩
  rw [← hR]
  have hoe : ordE (ps.map PF.f) = 0 ∨ ordE (ps.map PF.f) = 4 ∨ ordE (ps.map PF.f) = 140 := by unfold ordE; split <;> (try split) <;> simp
  rcases hoe with h0 | h4 | h140
  · have hR0 : R = if (m.f :: ordL (ps.map PF.f)).flatMap ntF ≠ [] then ([], (m.f :: ordL (ps.map PF.f)).flatMap ntF) else ((m.f :: ordL (ps.map PF.f)).flatMap asF, []) := by rw [hR, mergeL_ok h0]
    have hlo := ordL_len (ps.map PF.f)
    rw [List.length_map] at hlo
    have h16 : ps.length ≤ 16 := by
      unfold ordE at h0
      rw [List.length_map] at h0
      split at h0
      · simp at h0
      · omega
    have hOL : orderL m.f (ps.map PF.f) = m.f :: ordL (ps.map PF.f) := by unfold orderL; rw [if_pos h0]
    rw [h0, hOL] at hO
    have hpb : ∀ f ∈ m.f :: ordL (ps.map PF.f), f.2.2.length ≤ 1000000 := fun f hf => by
      rcases List.mem_cons.1 hf with rfl | hf
      · exact hom.b
      · obtain ⟨j, -, -, hj, -⟩ := ((ordL_ok (ps.map PF.f)).2 f).1 hf
        obtain ⟨p, hp, rfl⟩ := List.mem_map.1 (List.mem_of_getElem? hj)
        exact (hop p hp).b
    have hln : (m.f :: ordL (ps.map PF.f)).length ≤ 17 := by rw [List.length_cons]; omega
    generalize m.f :: ordL (ps.map PF.f) = L at *
    have HR0 := Lib.hid hR0
    have HPB := Lib.hid hpb
    have hal := fun k => fm_len asF asF_len (L.take k)
    have hnl := fun k => fm_len ntF ntF_len (L.take k)
    have hal2 := fm_len asF asF_len L
    have hnl2 := fm_len ntF ntF_len L
    clear hR hR0 hop hg h0 hOL hpb hlo
    have Hhal := Lib.hid hal
    clear hal
    have Hhnl := Lib.hid hnl
    clear hnl
    have HhO := Lib.hid hO
    clear hO
    have HhW := Lib.hid hW
    clear hW
    have Hhca := Lib.hid hca
    clear hca
    go_enter Try.func16, Try.ntmps16
    go_wp2_with fail
    refine (HhO.out _ HX1.out).mono ?_
    rintro e w2 ⟨u, qs, rfl, hqf, hx2, ho2, hob2⟩
    obtain ⟨au, cu, rfl⟩ := own_form ho2
    have HX2 := Lib.hid (HX1.out.trans hx2)
    have hsw := HX1.out.size
    have HQL : Hid (qs.length = L.length) := Lib.hid (by rw [← List.length_map (f := PF.f), hqf])
    have HO2 := Lib.hid (own_base ho2 hsw)
    have HOB2 : Hid (∀ q ∈ qs, OwnB w2 w.heap.size q) := Lib.hid (fun q hq => (hob2 q hq).base hsw)
    have HQF := Lib.hid hqf
    clear hx2 ho2 hob2 hqf hsw
    go_wp2_with fail
    go_loopw [10, 11, 46] (fun ua un i wr => ∃ k : Nat, k ≤ qs.length ∧ i = .int .i64 k ∧ Ext w wr ∧ wr.ownsRow w.heap.size 64 5 ua ((L.take k).flatMap asF).length (((L.take k).flatMap asF).flatMap encAF) ∧ wr.ownsRow w.heap.size 47 4 un ((L.take k).flatMap ntF).length (((L.take k).flatMap ntF).flatMap encNF) ∧ wr.ownsRow w.heap.size 24 3 (.slice au qs.length cu) qs.length (qs.flatMap encF) ∧ ∀ q ∈ qs, OwnB wr w.heap.size q) (fun _ _ i _ => qs.length - (intOf i).toNat)
    case atStart => exact ⟨0, by omega, rfl, HX2.out, World.ownsRow_nil _ _ _ _, World.ownsRow_nil _ _ _ _, HO2.out, HOB2.out⟩
    case round =>
      obtain ⟨k, hk, rfl, hx, hoa, hon, hof, hob⟩ := hrel
      have HX := Lib.hid hx
      have HOA := Lib.hid hoa
      have HON := Lib.hid hon
      have HOF := Lib.hid hof
      have HOB := Lib.hid hob
      have hak := Hhal.out k
      have hnk := Hhnl.out k
      rw [List.length_take] at hak hnk
      by_cases hlt : k < qs.length
      · have hlt' : k < L.length := by rw [← HQL.out]; exact hlt
        obtain ⟨aF, cF, eF, -, hcF⟩ := rdF_cell (rd_of_own encF_len hof)
        simp only [Value.slice.injEq, true_and] at eF
        obtain ⟨rfl, rfl⟩ := eF
        obtain ⟨b', o, rfl, c0, c1, c2⟩ := hcF k hlt
        have hqk : qs[k].f = L[k] := by
          have := HQF.out
          have h2 : (qs.map PF.f)[k]'(by rw [List.length_map]; exact hlt) = L[k] := by simp only [this]
          rw [← h2, List.getElem_map]
        have hbk := HPB.out _ (List.getElem_mem hlt')
        rw [← hqk] at hbk
        have hgk := (hob _ (List.getElem_mem hlt)).good
        have hsa := fm_snoc asF hlt'
        have hsn := fm_snoc ntF hlt'
        rw [← hqk] at hsa hsn
        have HSA := Lib.hid hsa
        have HSN := Lib.hid hsn
        have hqa := asF_len qs[k].f
        have hqn := ntF_len qs[k].f
        generalize qs[k] = q at *
        generalize (L.take k).flatMap asF = LA at *
        generalize (L.take k).flatMap ntF = LN at *
        obtain ⟨W1, hW1⟩ : ∃ W1, W1 = wr.alloc (.cells #[.string (str q.nm), .int .i64 q.dir, .slice q.a q.bs.length q.c] 24) := ⟨_, rfl⟩
        have hn1 := heap_alloc_new wr (.cells #[.string (str q.nm), .int .i64 q.dir, .slice q.a q.bs.length q.c] 24)
        have hx1 : Ext wr W1 := by rw [hW1]; exact (Ext.refl _).alloc _
        rw [← hW1] at hn1
        have d0 := blk_cell hn1 0
        have d1 := blk_cell hn1 1
        have d2 := blk_cell hn1 2
        simp at d0 d1 d2
        have hP := Parse_calls (str q.nm) q.dir q.v q.bs hbk W1 (Good.ext hx1 hgk)
        unfold fileV PF.v at hP
        rw [show (parseL q.bs).1.flatMap (encAs (str q.nm)) = (asF q.f).flatMap encAF from asF_enc q.f, show (parseL q.bs).2.flatMap (encNt (str q.nm)) = (ntF q.f).flatMap encNF from ntF_enc q.f, show (parseL q.bs).1.length = (asF q.f).length by unfold asF; rw [List.length_map]; rfl, show (parseL q.bs).2.length = (ntF q.f).length by unfold ntF; rw [List.length_map]; rfl] at hP
        generalize asF q.f = qA at *
        generalize ntF q.f = qN at *
        have HX1' := Lib.hid hx1
        have HW1 := Lib.hid hW1
        have hswr := HX.out.size
        have hsW1 := hx1.size
        have HhP := Lib.hid hP
        clear hP
        clear hx hoa hon hof hob hcF hn1 hW1 hx1 hsa hsn hgk
        go_upto_region 13 with fail
        rw [← HW1.out]
        go_wp2_with fail
        refine HhP.out.mono ?_
        rintro e w3 ⟨ua', un', rfl, hx3, hoa3, hon3⟩
        have hxr := HX1'.out.trans hx3
        have HX3 := Lib.hid (HX.out.trans hxr)
        have HA3 := Lib.hid (ownX_ext HOA.out hxr)
        have HN3 := Lib.hid (ownX_ext HON.out hxr)
        have HF3 := Lib.hid (ownX_ext HOF.out hxr)
        have HB3 : Hid (∀ q ∈ qs, OwnB w3 w.heap.size q) := Lib.hid (fun q hq => (HOB.out q hq).ext hxr)
        have HPA := Lib.hid hoa3
        have HPN := Lib.hid hon3
        have hsz3 := hxr.size
        clear hx3 hoa3 hon3 hxr
        go_wp2_with (first
          | (at_builtin
             refine wpList_app_g rfl (.tmp 55) (.tmp 56) _ rfl Try.underlying37 infoAs rfl (by decide) encAF_len encAF_one w.heap.size _ _ LA qA rfl rfl (by exact HA3.out) (by exact rd_of_own encAF_len HPA.out) (by omega) (by decide) (by omega) ?_
             intro au7 cu7 w7 ho7 hg7
             have HA7 := Lib.hid ho7
             have HN7 := Lib.hid (own_kept2 HA3.out HN3.out (by decide) hg7)
             have HF7 := Lib.hid (own_kept2 HA3.out HF3.out (by decide) hg7)
             have HB7 : Hid (∀ q ∈ qs, OwnB w7 w.heap.size q) := Lib.hid (fun q hq => own_kept2 HA3.out (HB3.out q hq) (by decide) hg7)
             have HPN7 := Lib.hid (own_kept2 HA3.out HPN.out (by decide) hg7)
             have HX7 := Lib.hid (HX3.out.grown hg7 (fun j e => (HA3.out.lt j e).1))
             have hsz7 := hg7.size
             clear ho7 hg7)
          | (at_builtin
             refine wpList_app_g rfl (.tmp 58) (.tmp 59) _ rfl Try.underlying38 infoNt rfl (by decide) encNF_len encNF_one w.heap.size _ _ LN qN rfl rfl (by exact HN7.out) (by exact rd_of_own encNF_len HPN7.out) (by omega) (by decide) (by omega) ?_
             intro au8 cu8 w8 ho8 hg8
             have HN8 := Lib.hid ho8
             have HA8 := Lib.hid (own_kept2 HN7.out HA7.out (by decide) hg8)
             have HF8 := Lib.hid (own_kept2 HN7.out HF7.out (by decide) hg8)
             have HB8 : Hid (∀ q ∈ qs, OwnB w8 w.heap.size q) := Lib.hid (fun q hq => own_kept2 HN7.out (HB7.out q hq) (by decide) hg8)
             have HX8 := Lib.hid (HX7.out.grown hg8 (fun j e => (HN7.out.lt j e).1))
             clear ho8 hg8))
        have hk9 : k + 1 ≤ 1000000 := by omega
        go_roundw
        case rel =>
          refine ⟨k + 1, by omega, by go_num, HX8.out, ?_, ?_, HF8.out, HB8.out⟩
          · rw [HSA.out, List.length_append]; exact HA8.out
          · rw [HSN.out, List.length_append]; exact HN8.out
        case measure => simp [intOf]; omega
      · obtain rfl : k = qs.length := by omega
        rw [HQL.out, List.take_length] at HOA HON
        clear hoa hon hof hob hak hnk hx
        generalize L.flatMap ntF = LN at *
        generalize L.flatMap asF = LA at *
        by_cases hnn : LN = []
        · have hRR : R = (LA, []) := by rw [HR0.out, if_neg (by simp [hnn])]
          subst hRR
          rw [hnn] at HON
          simp only [List.length_nil, List.flatMap_nil] at HON
          obtain ⟨an, cn, rfl⟩ := own_form HON.out
          obtain ⟨aa, ca, rfl⟩ := own_form HOA.out
          go_wp2_with fail
          go_ret2
          exact ⟨_, _, rfl, HX.out, HOA.out, World.ownsRow_nil _ _ _ _⟩
        · have hRR : R = ([], LN) := by rw [HR0.out, if_pos hnn]
          subst hRR
          have hpos : 0 < (LN).length := by
            cases h : LN with
            | nil => exact absurd h hnn
            | cons x r => simp
          obtain ⟨an, cn, rfl⟩ := own_form HON.out
          obtain ⟨aa, ca, rfl⟩ := own_form HOA.out
          have hpd : decide ((0 : Int) < ((LN).length : Int)) = true := decide_eq_true (by omega)
          go_wp2_with fail
          go_ret2
          exact ⟨_, _, rfl, HX.out, World.ownsRow_nil _ _ _ _, HON.out⟩
  · have hR1 : R = ([], [(m.nm, 0, 4, [])]) := by
      rw [hR, mergeL_err (by rw [h4]; decide)]
      unfold noteE
      rw [h4, if_neg (by decide)]
      rfl
    rw [h4] at hO
    subst hR1
    clear hR
    have HOP := Lib.hid hop
    have HG := Lib.hid hg
    have HhO := Lib.hid hO
    clear hO
    have HhW := Lib.hid hW
    clear hW
    have Hhca := Lib.hid hca
    clear hca
    clear hop hg h4
    go_enter Try.func16, Try.ntmps16
    go_wp2_with fail
    refine (HhO.out _ HX1.out).mono ?_
    rintro e w2 ⟨u, qs, rfl, -, hx2, -, -⟩
    have HX2 := Lib.hid (HX1.out.trans hx2)
    have hb2 := blk_ext HN1.out hx2
    have m0 := blk_cell hb2 0
    simp at m0
    clear hx2 hb2
    go_upto_region 7 with fail
    obtain ⟨W3, hW3⟩ : ∃ W3, W3 = w2.alloc (.cells #[.string (str m.nm), .int .i64 0, .int .i64 4, .string ⟨#[]⟩] 47) := ⟨_, rfl⟩
    have hn3 := heap_alloc_new w2 (.cells #[.string (str m.nm), .int .i64 0, .int .i64 4, .string ⟨#[]⟩] 47)
    have HX3 : Hid (Ext w W3) := Lib.hid (by rw [hW3]; exact HX2.out.alloc _)
    rw [← hW3] at hn3 ⊢
    have n0 := blk_cell hn3 0
    have n1 := blk_cell hn3 1
    have n2 := blk_cell hn3 2
    have n3 := blk_cell hn3 3
    simp at n0 n1 n2 n3
    clear hW3 hn3
    (go_region_law (fail))
    all_goals
      go_wp2_with fail
      go_ret2
      exact ⟨.slice none 0 0, _, rfl, (HX3.out.drew).alloc _, World.ownsRow_nil _ _ _ _, own_lit encNF_len W3.drew [(m.nm, 0, 4, [])] 47 _ w.heap.size rfl HX3.out.size (by unfold maxLen; simp)⟩
  · have hall2 : (ps.map PF.f).all (fun f => mayN f.1) = false := by
      cases h : (ps.map PF.f).all (fun f => mayN f.1)
      · rfl
      · unfold ordE at h140
        rw [h] at h140
        split at h140 <;> simp at h140
    obtain ⟨i, hi, hix, hfi⟩ := idxW_some ps 0 hall2
    have hR1 : R = ([], [(m.nm, 0, 140, ps[i].nm.take 60)]) := by
      rw [hR, mergeL_err (by rw [h140]; decide)]
      unfold noteE
      rw [h140, if_pos rfl, hfi]
      rfl
    rw [h140] at hO
    rw [hix, Nat.zero_add] at hW
    subst hR1
    clear hR
    have hni := (hop _ (List.getElem_mem hi)).n
    obtain ⟨b', o, rfl, c0, -, -⟩ := hca i hi
    have HC0 := Lib.hid c0
    have HOP := Lib.hid hop
    have HG := Lib.hid hg
    have HhO := Lib.hid hO
    clear hO
    have HhW := Lib.hid hW
    clear hW
    have Hhca := Lib.hid hca
    clear hca
    clear hop hg h140 hix hfi hall2 c0
    generalize ps[i].nm = nm at *
    go_enter Try.func16, Try.ntmps16
    go_wp2_with fail
    refine (HhO.out _ HX1.out).mono ?_
    rintro e w2 ⟨u, qs, rfl, -, hx2, -, -⟩
    have HX2 := Lib.hid (HX1.out.trans hx2)
    have hb2 := blk_ext HN1.out hx2
    have m0 := blk_cell hb2 0
    simp at m0
    clear hx2 hb2
    have hn3 := heap_alloc_new w2 (.cells #[.string (str m.nm), .int .i64 0, .int .i64 140, .string ⟨#[]⟩] 47)
    have hx3 : Ext w (w2.alloc (.cells #[.string (str m.nm), .int .i64 0, .int .i64 140, .string ⟨#[]⟩] 47)) := HX2.out.alloc _
    have HX3 := Lib.hid hx3
    have HN3 := Lib.hid hn3
    clear hn3 hx3
    unfold maxLen at hni
    have hmin : min (nm.length : Int) 60 = ((min nm.length 60 : Nat) : Int) := by omega
    have hsz : (str nm).size = nm.length := str_sizeD nm
    have hmle : min nm.length 60 ≤ nm.length := Nat.min_le_left _ _
    have hex : (str nm).extract 0 (min nm.length 60) = str (nm.take 60) := bytes_inj (by rw [bytes_ext, bytes_strD, bytes_strD, List.drop_zero, Nat.sub_zero]; rw [← List.take_take, List.take_of_length_le (by rw [List.length_take]; omega)])
    go_wp2_with fail
    refine (HhW.out _ HX3.out).mono ?_
    rintro e w4 ⟨rfl, hx4⟩
    have HX4 := Lib.hid (HX3.out.trans hx4)
    have c0 := HX4.out.cell HC0.out
    have HN4 := Lib.hid (blk_ext HN3.out hx4)
    have f3 : w4.frozen? ⟨w2.heap.size, 3, none⟩ = false := by simp [World.frozen?, HN4.out]
    have n3 := blk_cell HN4.out 3
    simp at n3
    have hszw := HX2.out.size
    clear hx4
    go_upto_region 7 with fail
    have hb5 : (w4.setCell ⟨w2.heap.size, 3, none⟩ (.string (str (nm.take 60)))).heap[w2.heap.size]? = some (.cells #[.string (str m.nm), .int .i64 0, .int .i64 140, .string (str (nm.take 60))] 47 (0, 0)) := Go.Joins.block_setCell HN4.out _
    have hx5 : Ext w (w4.setCell ⟨w2.heap.size, 3, none⟩ (.string (str (nm.take 60)))) := HX4.out.setCell (p := ⟨w2.heap.size, 3, none⟩) hszw _
    generalize w4.setCell ⟨w2.heap.size, 3, none⟩ (.string (str (nm.take 60))) = W3 at *
    clear HX3 n3 f3
    have HX3 := Lib.hid hx5
    have n0 := blk_cell hb5 0
    have n1 := blk_cell hb5 1
    have n2 := blk_cell hb5 2
    have n3 := blk_cell hb5 3
    simp at n0 n1 n2 n3
    clear hb5 hx5
    (go_region_law (fail))
    all_goals
      go_wp2_with fail
      go_ret2
      exact ⟨.slice none 0 0, _, rfl, (HX3.out.drew).alloc _, World.ownsRow_nil _ _ _ _, own_lit encNF_len W3.drew [(m.nm, 0, 140, nm.take 60)] 47 _ w.heap.size rfl HX3.out.size (by unfold maxLen; simp)⟩
end L12
end Go.Proofs.Ytkmbahpjioopdaa
