/- Layer 14: the given files; the walk of the law DropinAny. -/
import Derived.Test.YtkmbahpjioopdaaDropN
import Derived.Test.YtkmbahpjioopdaaDropS
namespace Go.Proofs.Ytkmbahpjioopdaa
open Go.RowKit V
attribute [local go_sem] Oper.semAt_some Option.isSome_some
namespace L12
theorem okF_of {m : PF} {ps : List PF} (h : greatD m.f (ps.map PF.f) = false) : OkF m ∧ (∀ p ∈ ps, OkF p) ∧ ps.length ≤ 20 := by
  obtain ⟨h1, h2, h3, h4, -⟩ := greatD_false h
  refine ⟨⟨by show m.f.1.length ≤ maxLen; unfold maxLen; omega, by show m.f.2.2.length ≤ _; omega⟩, fun p hp => ?_, by rw [List.length_map] at h3; exact h3⟩
  have := h4 p.f (List.mem_map.2 ⟨p, hp, rfl⟩)
  exact ⟨by show p.f.1.length ≤ maxLen; unfold maxLen; omega, by show p.f.2.2.length ≤ _; omega⟩
theorem mergeL_lens (m : Fl) (fs : List Fl) : (mergeL m fs).1.length ≤ 100000 ∧ (mergeL m fs).2.length ≤ 100000 := by
  by_cases h : ordE fs = 0
  · have hl : (m :: ordL fs).length ≤ 17 := by
      have h1 := ordL_len fs
      have h2 : fs.length ≤ 16 := by
        unfold ordE at h
        split at h
        · cases h
        · omega
      rw [List.length_cons]
      omega
    have ha := fm_len asF asF_len (m :: ordL fs)
    have hn := fm_len ntF ntF_len (m :: ordL fs)
    have k1 : 1001 * (m :: ordL fs).length ≤ 1001 * 17 := Nat.mul_le_mul_left _ hl
    rw [mergeL_ok h]
    split
    · exact ⟨by simp, Nat.le_trans hn (by omega)⟩
    · exact ⟨Nat.le_trans ha (by omega), by simp⟩
  · rw [mergeL_err h]
    simp
set_option maxRecDepth 100000 in
set_option maxHeartbeats 8000000 in
theorem DropinAny_calls (m : PF) (v : Value) (ps : List PF) (at0 : Int) (hl : ps.length ≤ maxLen) (w : World) (hgm : Good w m) (hv : Rd w 3 encF v ps) (hg : ∀ p ∈ ps, Good w p) :
    Calls Try.prog 5 #[fV m, v, .int .i64 at0] w fun e w' => e = .returned (.bool true) ∧ Ext w w' := by
  have HAW : Hid (∀ W, Calls Try.prog 15 #[] W fun e w' => e = .returned (.bool true) ∧ Ext W w') := Lib.hid awake14_calls
  have hG := fun W (hx : Ext w W) => Great14_calls m v ps hl W (hv.ext hx)
  have hvR := Lib.hid hv
  obtain ⟨a, c, rfl, hac, hca⟩ := rdF_cell hv
  have hn1 := heap_alloc_new w (.cells #[.string (str m.nm), .int .i64 m.dir, .slice m.a m.bs.length m.c] 24)
  have hx1 : Ext w (w.alloc (.cells #[.string (str m.nm), .int .i64 m.dir, .slice m.a m.bs.length m.c] 24)) := (Ext.refl _).alloc _
  have m0 := blk_cell hn1 0
  have m1 := blk_cell hn1 1
  have m2 := blk_cell hn1 2
  simp at m0 m1 m2
  have HX1 := Lib.hid hx1
  have HN1 := Lib.hid hn1
  clear hx1 hv hn1
  unfold fV at hG ⊢
  cases hgr : greatD m.f (ps.map PF.f)
  case true =>
    rw [hgr] at hG
    have HhG := Lib.hid hG
    clear hG
    have Hhca := Lib.hid hca
    clear hca
    go_enter Try.func5, Try.ntmps5
    go_wp2_with fail
    refine (HhG.out _ HX1.out).mono ?_
    rintro e w2 ⟨rfl, hx2⟩
    have HX2 := Lib.hid (HX1.out.trans hx2)
    clear hx2
    go_wp2_with fail
    refine (HAW.out _).mono ?_
    rintro e w3 ⟨rfl, hx3⟩
    go_wp2_with fail
    go_ret
    exact ⟨rfl, HX2.out.trans hx3⟩
  rw [hgr] at hG
  obtain ⟨hom, hop, h20⟩ := okF_of hgr
  have hMg := fun W (hx : Ext w W) v' ps' (hop' : ∀ p ∈ ps', OkF p) (hg' : ∀ p ∈ ps', Good w p) (hl' : ps'.length ≤ 1000000) (hv' : Rd W 3 encF v' ps') => Merge_calls m v' ps' hl' hom hop' W (Good.ext hx hgm) hv' (fun p hp => (hg' p hp).ext hx)
  clear hgr
  unfold fV at hMg
  have hMy := fun p (hp : p ∈ ps) W => May_calls (str p.nm) (by rw [str_sizeD]; exact (hop p hp).n) W
  have HhG := Lib.hid hG
  clear hG
  have Hhca := Lib.hid hca
  clear hca
  have HhMg := Lib.hid hMg
  clear hMg
  have HhMy := Lib.hid hMy
  clear hMy
  have Hhop := Lib.hid hop
  clear hop
  have Hhg := Lib.hid hg
  clear hg
  have Hhgm := Lib.hid hgm
  clear hgm
  have Hhom := Lib.hid hom
  clear hom
  go_enter Try.func5, Try.ntmps5
  go_wp2_with fail
  refine (HhG.out _ HX1.out).mono ?_
  rintro e w2 ⟨rfl, hx2⟩
  have HX2 := Lib.hid (HX1.out.trans hx2)
  have HN2 := Lib.hid (blk_ext HN1.out hx2)
  clear hx2 m0 m1 m2
  by_cases h0 : ps.length = 0
  · have e0 : ((ps.length : Int) == 0) = true := by rw [h0]; rfl
    go_wp2_with fail
    refine (HAW.out _).mono ?_
    rintro e w3 ⟨rfl, hx3⟩
    go_wp2_with fail
    go_ret
    exact ⟨rfl, HX2.out.trans hx3⟩
  have e0 : ((ps.length : Int) == 0) = false := by rw [beq_eq_false_iff_ne]; omega
  go_wp2_with fail
  go_loopw [7] (fun i wr => ∃ k : Nat, k ≤ ps.length ∧ i = .int .i64 k ∧ Ext w2 wr ∧ ∀ i j (hi : i < ps.length) (hj : j < ps.length), i < k → j < i → ps[i].nm ≠ ps[j].nm) (fun i _ => ps.length - (intOf i).toNat)
  case atStart => exact ⟨0, by omega, rfl, Ext.refl _, fun i j hi hj h => by omega⟩
  case round =>
    obtain ⟨k, hk, rfl, hx, hdist⟩ := hrel
    have HX := Lib.hid hx
    have HD := Lib.hid hdist
    clear hx hdist
    by_cases hlt : k < ps.length
    · go_wp2_with fail
      go_loopw [8] (fun i wi => ∃ j : Nat, j ≤ k ∧ i = .int .i64 j ∧ Ext w2 wi ∧ ∀ j' (hj : j' < ps.length), j' < j → ps[k].nm ≠ ps[j'].nm) (fun i _ => k - (intOf i).toNat)
      case atStart => exact ⟨0, by omega, rfl, HX.out, fun j' hj h => by omega⟩
      case round =>
        obtain ⟨j, hj, rfl, hxi, hno⟩ := hrel
        have HXI := Lib.hid hxi
        have HNO := Lib.hid hno
        clear hxi hno
        by_cases hjlt : j < k
        · have hjl : j < ps.length := by omega
          obtain ⟨b, o, rfl, c0, -, -⟩ := Hhca.out k hlt
          obtain ⟨b', o', e', g0, -, -⟩ := Hhca.out j hjl
          simp only [Option.some.injEq, Addr.mk.injEq, and_true] at e'
          obtain ⟨rfl, rfl⟩ := e'
          have hxa := HX2.out.trans HXI.out
          replace c0 := hxa.cell c0
          replace g0 := hxa.cell g0
          have HXA := Lib.hid hxa
          clear hxa
          cases heq : (ps[k].nm == ps[j].nm)
          · have hne : ps[k].nm ≠ ps[j].nm := by simpa using heq
            have HNE : Hid (∀ j' (hj : j' < ps.length), j' < j + 1 → ps[k].nm ≠ ps[j'].nm) := Lib.hid (fun j' hj' h => by
              by_cases e : j' = j
              · subst e; exact hne
              · exact HNO.out j' hj' (by omega))
            have hs2 : ((str ps[k].nm).toList == (str ps[j].nm).toList) = false := by rw [toList_str, toList_str]; exact heq
            clear hne
            obtain ⟨nk, hnk⟩ : ∃ nk, nk = ps[k].nm := ⟨_, rfl⟩
            obtain ⟨nj, hnj⟩ : ∃ nj, nj = ps[j].nm := ⟨_, rfl⟩
            rw [← hnk] at c0 heq hs2
            rw [← hnj] at g0 heq hs2
            clear hnk hnj
            go_wp2_with (go_quiet (fail))
            go_roundw
            case rel => exact ⟨j + 1, by omega, by go_num, by repeat (first | exact HXI.out | apply Ext.drewN | apply Ext.drew), HNE.out⟩
            case measure => simp [intOf]; omega
          · have hs2 : ((str ps[k].nm).toList == (str ps[j].nm).toList) = true := by rw [toList_str, toList_str]; exact heq
            obtain ⟨nk, hnk⟩ : ∃ nk, nk = ps[k].nm := ⟨_, rfl⟩
            obtain ⟨nj, hnj⟩ : ∃ nj, nj = ps[j].nm := ⟨_, rfl⟩
            rw [← hnk] at c0 heq hs2
            rw [← hnj] at g0 heq hs2
            clear hnk hnj
            go_wp2_with (go_quiet (fail))
            refine (HAW.out _).mono ?_
            rintro e w3 ⟨rfl, hx3⟩
            go_wp2_with fail
            go_ret
            exact ⟨rfl, Ext.trans (by repeat (first | exact HXA.out | apply Ext.drewN | apply Ext.drew)) hx3⟩
        · obtain rfl : j = k := by omega
          go_wp2_with fail
          go_roundw
          case rel => exact ⟨j + 1, by omega, by go_num, HXI.out, fun i' j' hi' hj' h1 h2 => by
            by_cases e : i' = j
            · subst e; exact HNO.out j' hj' h2
            · exact HD.out i' j' hi' hj' (by omega) h2⟩
          case measure => simp [intOf]; omega
    · obtain rfl : k = ps.length := by omega
      have hdp : (ps.map PF.f).Pairwise (fun a b => a.1 ≠ b.1) := by
        rw [List.pairwise_map, List.pairwise_iff_getElem]
        intro i j hi hj hij
        exact fun e => HD.out j i hj hi hj hij e.symm
      have HDP := Lib.hid hdp
      clear hdp HD
      go_wp2_with fail
      go_loopw [9] (fun i wi => ∃ j : Nat, j ≤ ps.length ∧ i = .int .i64 j ∧ Ext w2 wi ∧ ∀ j' (hj : j' < ps.length), j' < j → mayN ps[j'].nm = true) (fun i _ => ps.length - (intOf i).toNat)
      case atStart => exact ⟨0, by omega, rfl, HX.out, fun j' hj h => by omega⟩
      case round =>
        obtain ⟨j, hj, rfl, hxi, hno⟩ := hrel
        have HXI := Lib.hid hxi
        have HNO := Lib.hid hno
        clear hxi hno
        have HXA := Lib.hid (HX2.out.trans HXI.out)
        by_cases hjl : j < ps.length
        · obtain ⟨b, o, rfl, c0, -, -⟩ := Hhca.out j hjl
          replace c0 := HXA.out.cell c0
          have hmj := HhMy.out ps[j] (List.getElem_mem hjl)
          rw [bytes_strD] at hmj
          have HMJ := Lib.hid hmj
          clear hmj
          obtain ⟨nj, hnj⟩ : ∃ nj, nj = ps[j].nm := ⟨_, rfl⟩
          rw [← hnj] at c0 HMJ
          have HNJ := Lib.hid hnj
          clear hnj
          go_wp2_with fail
          refine (HMJ.out _).mono ?_
          rintro e w3 ⟨rfl, hx3⟩
          have HX3 := Lib.hid (HXI.out.trans hx3)
          clear hx3 c0
          cases hmay : mayN nj
          · go_wp2_with fail
            refine (HAW.out _).mono ?_
            rintro e w4 ⟨rfl, hx4⟩
            go_wp2_with fail
            go_ret
            exact ⟨rfl, (HX2.out.trans HX3.out).trans hx4⟩
          · have HM := Lib.hid hmay
            clear hmay
            go_wp2_with fail
            go_roundw
            case rel => exact ⟨j + 1, by omega, by go_num, HX3.out, fun j' hj' h => by
              by_cases e : j' = j
              · subst e; rw [← HNJ.out]; exact HM.out
              · exact HNO.out j' hj' (by omega)⟩
            case measure => simp [intOf]; omega
        · obtain rfl : j = ps.length := by omega
          have hall : (ps.map PF.f).all (fun f => mayN f.1) = true := by
            rw [List.all_eq_true]
            intro f hf
            obtain ⟨p, hp, rfl⟩ := List.mem_map.1 hf
            obtain ⟨i, hi, rfl⟩ := List.mem_iff_getElem.1 hp
            exact HNO.out i hi hi
          have HALL := Lib.hid hall
          clear hall HNO
          obtain ⟨q, hq⟩ : ∃ q : Nat, (q : Int) = at0 % 18446744073709551616 := ⟨(at0 % 18446744073709551616).toNat, by omega⟩
          have hw1 : IntKind.u64.wrap at0 = (q : Int) := by rw [hq]; simp [IntKind.wrap, IntKind.signed, IntKind.bits]
          have hqb : q < 18446744073709551616 := by omega
          obtain ⟨k0, hk0⟩ : ∃ k0, k0 = q % ps.length := ⟨_, rfl⟩
          have hkl : k0 < ps.length := by rw [hk0]; exact Nat.mod_lt _ (by omega)
          have hqm : ((q : Int) % (ps.length : Int)) = (k0 : Int) := by rw [hk0]; omega
          have hnz : ((ps.length : Int) == 0) = false := e0
          have hw3 : IntKind.i64.wrap (k0 : Int) = (k0 : Int) := IntWalk.i64_in _ (by omega)
          clear hk0
          clear hq
          obtain ⟨b, o, rfl, -, -, -⟩ := Hhca.out 0 (by omega)
          obtain ⟨A, hsl, hsA, hsN⟩ := run_slice_from (P := Try.prog) Try.underlying25 (by kernel_rfl) (n := 3) (by kernel_rfl) (some ⟨b, o, none⟩) ps.length c k0 (by omega)
          replace hsl := hsl (k0 : Int) rfl
          have hRd : ∀ W, Ext w W → Rd W 3 encF (.slice A (ps.length - k0) (c - k0)) (ps.drop k0) := fun W hx => (hvR.out.ext hx).drop (by omega) (fun h => hsA (by omega)) (fun h => by have := hsN h; cases this) (by omega)
          have hRt : ∀ W, Ext w W → Rd W 3 encF (.slice (some ⟨b, o, none⟩) k0 c) (ps.take k0) := fun W hx => (hvR.out.ext hx).take (by omega) (by omega) (by intro h; cases h)
          have hbk : (k0 : Int) < (ps.length : Int) := by omega
          have hbk0 : (0 : Int) ≤ (k0 : Int) := by omega
          have hbk1 : (k0 : Int) ≤ (c : Int) := by omega
          have hbk2 : (k0 : Int) ≤ (ps.length : Int) := by omega
          have hl1 : ([] : List PF).length + (ps.drop k0).length = ps.length - k0 := by simp
          have hl2 : (ps.drop k0).length + (ps.take k0).length = ps.length := by simp; omega
          have hl3 : (ps.drop k0).length = ps.length - k0 := by simp
          have hl4 : (ps.drop k0 ++ ps.take k0).length = ps.length := by rw [List.length_append]; exact hl2
          have hperm : (ps.map PF.f).Perm ((ps.drop k0 ++ ps.take k0).map PF.f) := by
            refine List.Perm.map _ ?_
            have h := List.perm_append_comm (l₁ := ps.take k0) (l₂ := ps.drop k0)
            rw [List.take_append_drop] at h
            exact h
          have hmrg : mergeL m.f (ps.map PF.f) = mergeL m.f ((ps.drop k0 ++ ps.take k0).map PF.f) := merge_turn hperm HDP.out HALL.out
          have hmem : ∀ p ∈ ps.drop k0 ++ ps.take k0, p ∈ ps := fun p hp => (List.mem_append.1 hp).elim List.mem_of_mem_drop List.mem_of_mem_take
          have hM1 := fun W (hx : Ext w W) => HhMg.out W hx (.slice (some ⟨b, o, none⟩) ps.length c) ps Hhop.out Hhg.out (by omega) (hvR.out.ext hx)
          have hM2 := fun W (hx : Ext w W) v' (hv' : Rd W 3 encF v' (ps.drop k0 ++ ps.take k0)) => HhMg.out W hx v' (ps.drop k0 ++ ps.take k0) (fun p hp => Hhop.out p (hmem p hp)) (fun p hp => Hhg.out p (hmem p hp)) (by rw [hl4]; omega) hv'
          rw [← hmrg] at hM2
          obtain ⟨hla, hln⟩ := mergeL_lens m.f (ps.map PF.f)
          generalize mergeL m.f (ps.map PF.f) = R at *
          have HXWr := Lib.hid (HX2.out.trans HXI.out)
          have HNr := Lib.hid (blk_ext HN2.out HXI.out)
          have HhRd := Lib.hid hRd
          clear hRd
          have HhRt := Lib.hid hRt
          clear hRt
          have HhM1 := Lib.hid hM1
          clear hM1
          have HhM2 := Lib.hid hM2
          clear hM2
          have Hhl2 := Lib.hid hl2
          clear hl2
          have Hhl3 := Lib.hid hl3
          clear hl3
          have Hhl4 := Lib.hid hl4
          clear hl4
          have Hhla := Lib.hid hla
          clear hla
          have Hhln := Lib.hid hln
          clear hln
          clear hsA hsN hperm hmrg hmem hac hl
          go_upto_region 17 with fail
          clear hqb hqm hw1 hw3
          (go_region_law (first
            | (refine step_app_rd rfl (.tmp 73) (.tmp 76) _ rfl Try.underlying25 infoF rfl (by decide) encF_len encF_one wr _ _ (ps.drop k0) (ps.take k0) (by rfl) (by rfl) (by rw [Hhl3.out]; exact HO1.out) (HhRt.out _ (HXWr.out.trans HX1'.out)) (by rw [Hhl2.out]; omega) (by decide) HX1'.out ?_; intro au2 cu2 w3 ho2 hx2; rw [Hhl2.out] at ho2 ⊢; have HO2 := Lib.hid ho2; have HX3 := Lib.hid hx2; clear ho2 hx2)
            | (refine step_app_rd rfl (.tmp 69) (.tmp 72) _ rfl Try.underlying25 infoF rfl (by decide) encF_len encF_one wr _ _ [] (ps.drop k0) (by rfl) (by rfl) (by exact own_lit encF_len wr [] _ _ wr.heap.size rfl (Nat.le_refl _) (by simp)) (HhRd.out _ (HXWr.out.trans (by repeat (first | exact Ext.refl _ | apply Ext.drew | apply Ext.alloc)))) (by rw [hl1]; omega) (by decide) (by repeat (first | exact Ext.refl _ | apply Ext.drew | apply Ext.alloc)) ?_; intro au1 cu1 w3 ho1 hx1; rw [hl1] at ho1 ⊢; have HO1 := Lib.hid ho1; have HX1' := Lib.hid hx1; clear ho1 hx1)))
          all_goals
            have hrd9 := rd_of_own (n := 3) (enc := encF) (xs := ps.drop k0 ++ ps.take k0) encF_len (by rw [Hhl4.out]; exact HO2.out)
            have HRD9 := Lib.hid hrd9
            have hb9 := blk_ext HNr.out HX3.out
            have m0 := blk_cell hb9 0
            have m1 := blk_cell hb9 1
            have m2 := blk_cell hb9 2
            simp at m0 m1 m2
            have HXW3 := Lib.hid (HXWr.out.trans HX3.out)
            have HB9 := Lib.hid hb9
            clear hrd9 hb9
            go_wp2_with fail
            refine (HhM1.out _ HXW3.out).mono ?_
            rintro e w4 ⟨ua, un, rfl, hx4, hoa, hon⟩
            have hb4 := blk_ext HB9.out hx4
            clear m0 m1 m2
            have m0 := blk_cell hb4 0
            have m1 := blk_cell hb4 1
            have m2 := blk_cell hb4 2
            simp at m0 m1 m2
            have HX4 := Lib.hid (HXW3.out.trans hx4)
            have HA4 := Lib.hid (rd_of_own encAF_len hoa)
            have HN4 := Lib.hid (rd_of_own encNF_len hon)
            have HRD4 := Lib.hid (HRD9.out.ext hx4)
            clear hb4 hx4 hoa hon
            go_wp2_with fail
            refine (HhM2.out _ HX4.out _ HRD4.out).mono ?_
            rintro e w5 ⟨va, vn, rfl, hx5, hoa, hon⟩
            have HX5 := Lib.hid (HX4.out.trans hx5)
            have HA5 := Lib.hid (rd_of_own encAF_len hoa)
            have HN5 := Lib.hid (rd_of_own encNF_len hon)
            have HA4' := Lib.hid (HA4.out.ext hx5)
            have HN4' := Lib.hid (HN4.out.ext hx5)
            clear hx5 hoa hon m0 m1 m2
            have hsA := sameAF_calls ua va R.1 R.1 Hhla.out Hhla.out w5 HA4'.out HA5.out
            have hsN := fun W (hx : Ext w5 W) => sameNF_calls un vn R.2 R.2 Hhln.out Hhln.out W (HN4'.out.ext hx) (HN5.out.ext hx)
            rw [decide_eq_true rfl] at hsA hsN
            have HhsA := Lib.hid hsA
            clear hsA
            have HhsN := Lib.hid hsN
            clear hsN
            go_wp2_with fail
            refine HhsA.out.mono ?_
            rintro e w6 ⟨rfl, hx6⟩
            have HX6 := Lib.hid hx6
            clear hx6
            go_wp2_with fail
            refine (HhsN.out _ HX6.out).mono ?_
            rintro e w7 ⟨rfl, hx7⟩
            have HX7 := Lib.hid (HX6.out.trans hx7)
            clear hx7
            go_wp2_with fail
            refine (HAW.out _).mono ?_
            rintro e w8 ⟨rfl, hx8⟩
            go_wp2_with fail
            go_ret
            exact ⟨rfl, (HX5.out.trans HX7.out).trans hx8⟩
end L12
end Go.Proofs.Ytkmbahpjioopdaa
