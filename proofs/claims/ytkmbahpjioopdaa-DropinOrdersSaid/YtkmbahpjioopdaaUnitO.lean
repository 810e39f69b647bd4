/- Layer 13: the walk of the reference's Parse. -/
import Derived.StillTailTactics
import Derived.Deep.RegionLaw
import Derived.Test.YtkmbahpjioopdaaKept
import Derived.Test.YtkmbahpjioopdaaLineH
import Derived.Test.YtkmbahpjioopdaaUnitH
import Derived.Test.YtkmbahpjioopdaaUnitN
namespace Go.Proofs.Ytkmbahpjioopdaa
open Go.RowKit Go.Shelf V
attribute [local go_sem] Oper.semAt_some Option.isSome_some
namespace L12
theorem sectionL_ne {l : List UInt8} (h : (sectionL l).2 = true) : (sectionL l).1.isEmpty = false := by
  unfold sectionL at h ⊢
  split
  · rename_i h1; rw [if_pos h1] at h; cases h
  rename_i h1; rw [if_neg h1] at h
  split
  · rename_i h2; rw [if_pos h2] at h; cases h
  rename_i h2; rw [if_neg h2] at h
  split
  · rename_i h3; rw [if_pos h3] at h; cases h
  rename_i h3; rw [if_neg h3] at h
  split
  · rename_i h4; rw [if_pos h4] at h; cases h
  rw [List.isEmpty_eq_false_iff]; exact h3
theorem stepU_inn {st : US} (x : LN) (h : st.inn = !st.sec.isEmpty) : (stepU st x).inn = !(stepU st x).sec.isEmpty := by
  unfold stepU
  split
  · rename_i h1; dsimp only; rw [sectionL_ne h1]; rfl
  split
  · exact h
  · exact h
theorem foldU_inn : ∀ (l : List LN) (st : US), st.inn = !st.sec.isEmpty → (l.foldl stepU st).inn = !(l.foldl stepU st).sec.isEmpty
  | [], _, h => h
  | x :: r, st, h => foldU_inn r (stepU st x) (stepU_inn x h)
theorem own_kept2 {W W' : World} {b1 b2 e1 e2 n1 n2 k1 k2 : Nat} {u1 u2 : Value} {z1 z2 : List Value} (h1 : W.ownsRow b1 e1 n1 u1 k1 z1) (h2 : W.ownsRow b2 e2 n2 u2 k2 z2) (hn : e1 ≠ e2) (hg : W.grownBy W' u1.ownBlock) : W'.ownsRow b2 e2 n2 u2 k2 z2 := by
  refine World.ownsRow.kept h2 hg ?_
  cases hu : u2.ownBlock with
  | none => exact .inl rfl
  | some k => exact .inr fun e => own_ne h2 h1 (fun e => hn e.symm) k hu e.symm
theorem own_ext {W W' : World} {b e n k : Nat} {u : Value} {z : List Value} (h : W.ownsRow b e n u k z) (hx : Ext W W') : W'.ownsRow b e n u k z :=
  ownsRow_keep (S := fun b => b < W.heap.size) h (Keep.of_below hx (fun _ h => h)) (fun b hb => (h.lt b hb).2)
set_option maxRecDepth 100000 in
set_option maxHeartbeats 4000000 in
theorem refParse_calls (fn : ByteArray) (d : Int) (v : Value) (bs : List UInt8) (hl : bs.length ≤ 1000000) (w : World) (hv : Rd w 1 encB v bs) :
    Calls Try.prog 31 #[fileV fn d v] w fun e w' => ∃ ua un, e = .returned (.tuple #[ua, un]) ∧ Ext w w' ∧
      w'.ownsRow w.heap.size 64 5 ua (parseL bs).1.length ((parseL bs).1.flatMap (encAs fn)) ∧ w'.ownsRow w.heap.size 47 4 un (parseL bs).2.length ((parseL bs).2.flatMap (encNt fn)) := by
  obtain ⟨av, cv, hvs, -⟩ := rdB_cell hv
  have hP : parseL bs = if (splitA bs).2 ≠ 0 then ([], [(0, (splitA bs).2.toNat, [])]) else if (foldU bs).nl ≠ [] then ([], (foldU bs).nl) else ((foldU bs).al, []) := rfl
  have hfl := fun k => foldU_len ((splitA bs).1.take k) ⟨[], false, [], []⟩
  have hU : foldU bs = (splitA bs).1.foldl stepU ⟨[], false, [], []⟩ := rfl
  have hsl := splitA_len bs
  have her := splitA_err bs
  have htx := splitA_texts bs
  have hSp := fun W (h : Rd W 1 encB v bs) => rSplit_calls v bs hl W h
  rw [hP]
  clear hP
  generalize foldU bs = fu at *
  generalize (splitA bs).1 = zs at *
  generalize (splitA bs).2 = er at *
  obtain ⟨pr, hpr⟩ : ∃ pr : List As × List Nt, pr = if er ≠ 0 then ([], [(0, er.toNat, [])]) else if fu.nl ≠ [] then ([], fu.nl) else (fu.al, []) := ⟨_, rfl⟩
  rw [← hpr]
  subst hvs
  unfold fileV
  obtain ⟨W2, hW2⟩ : ∃ W2, W2 = w.alloc (.cells #[.string fn, .int .i64 d, .slice av bs.length cv] 24) := ⟨_, rfl⟩
  have s2 : W2.heap.size = w.heap.size + 1 := by rw [hW2]; simp
  have e2 : Ext w W2 := by rw [hW2]; exact (Ext.refl w).alloc _
  have q0 : W2.cell? ⟨w.heap.size, 0, none⟩ = some (.string fn) := by rw [hW2]; exact cells_new w [.string fn, .int .i64 d, .slice av bs.length cv] _ 0 _ rfl
  have q2 : W2.cell? ⟨w.heap.size, 2, none⟩ = some (.slice av bs.length cv) := by rw [hW2]; exact cells_new w [.string fn, .int .i64 d, .slice av bs.length cv] _ 2 _ rfl
  have hv2 := hv.ext e2
  have HE2 := Lib.hid e2
  have HS2 := Lib.hid s2
  have HV2 := Lib.hid hv2
  have HW := Lib.hid hW2
  have HhSp := Lib.hid hSp
  clear hSp
  have Hhtx := Lib.hid htx
  clear htx
  have HhU := Lib.hid hU
  clear hU
  have Hhfl := Lib.hid hfl
  clear hfl
  clear hv hv2 e2 s2 hW2
  go_enter Try.func31, Try.ntmps31
  go_wp2_with fail
  rw [← HW.out]
  refine (HhSp.out _ HV2.out).mono ?_
  rintro e w3 ⟨u, rfl, hx3, ho3⟩
  have c0 := hx3.cell q0
  have HX3 := Lib.hid hx3
  have HO3 := Lib.hid ho3
  clear hx3 ho3 q0 q2
  have HB3 : Hid (w.heap.size ≤ w3.heap.size) := Lib.hid (by have := HX3.out.size; have := HS2.out; omega)
  by_cases h0 : er = 0
  · subst h0
    rw [if_neg (by simp)] at hpr
    have Hhpr := Lib.hid hpr
    clear hpr
    obtain ⟨a3, c3, rfl, hac3, hc3⟩ := rdN_cell (rd_of_own encN_len HO3.out)
    have Hhc3 := Lib.hid hc3
    clear hc3
    go_wp2_with fail
    go_loopw [6, 7, 8, 9] (fun uo un us ui wr => ∃ (i : Nat) (st : US), i ≤ zs.length ∧ st = (zs.take i).foldl stepU ⟨[], false, [], []⟩ ∧ ui = .int .i64 (i : Int) ∧ us = .string (str st.sec) ∧
      (∃ ao co, uo = .slice ao st.al.length co) ∧ (∃ an cn, un = .slice an st.nl.length cn) ∧ wr.ownsRow w3.heap.size 64 5 uo st.al.length (st.al.flatMap (encAs fn)) ∧ wr.ownsRow w3.heap.size 47 4 un st.nl.length (st.nl.flatMap (encNt fn)) ∧ Ext w3 wr) (fun _ _ _ ui _ => zs.length - (intOf ui).toNat)
    case atStart => exact ⟨0, ⟨[], false, [], []⟩, Nat.zero_le _, rfl, rfl, rfl, ⟨_, _, rfl⟩, ⟨_, _, rfl⟩, World.ownsRow_nil _ _ _ _, World.ownsRow_nil _ _ _ _, Ext.refl _⟩
    case round =>
      obtain ⟨i, st, hi, hst, rfl, rfl, ⟨ao, co, rfl⟩, ⟨an, cn, rfl⟩, ho1, ho2, hx⟩ := hrel
      have c0' := hx.cell c0
      have HO1 := Lib.hid ho1
      have HO2 := Lib.hid ho2
      have HX := Lib.hid hx
      clear ho1 ho2
      by_cases hlt : i < zs.length
      · obtain ⟨b, o, rfl, d0, d1⟩ := Hhc3.out i hlt
        replace d0 := hx.cell d0
        replace d1 := hx.cell d1
        have htl := Hhtx.out _ (List.getElem_mem hlt)
        have hfk := Hhfl.out i
        rw [← hst, List.length_take, Nat.min_eq_left hi] at hfk
        have hin := foldU_inn (zs.take i) ⟨[], false, [], []⟩ rfl
        rw [← hst] at hin
        have hnx : stepU st zs[i] = (zs.take (i + 1)).foldl stepU ⟨[], false, [], []⟩ := by
          rw [List.take_succ_eq_append_getElem hlt, List.foldl_append, ← hst]; rfl
        generalize zs[i] = x at *
        obtain ⟨n, t⟩ := x
        obtain ⟨sec, inn, al, nl⟩ := st
        dsimp only at d0 d1 htl hin hfk
        simp only [List.length_nil, Nat.zero_add] at hfk
        have hSc := fun W => refSection_calls (str t) (by rw [str_size]; exact htl) W
        have hAs := fun W => refAssignment_calls (str t) (by rw [str_size]; exact htl) W
        rw [show bytes (str t) = t from by simp [bytes]] at hSc hAs
        have hx0 : stepU ⟨sec, inn, al, nl⟩ (n, t) = if (sectionL t).2 = true then ⟨(sectionL t).1, true, al, nl⟩ else if (assignL t).2.2 = true ∧ inn = true then ⟨sec, inn, al ++ [(n, sec, (assignL t).1, (assignL t).2.1)], nl⟩ else ⟨sec, inn, al, nl ++ [(n, 130, t.take 60)]⟩ := rfl
        rw [hx0] at hnx
        unfold secV at hSc
        unfold asgV at hAs
        generalize sectionL t = sc at *
        generalize assignL t = ag at *
        obtain ⟨s1, s2⟩ := sc
        obtain ⟨a1, a2, a3⟩ := ag
        dsimp only at hSc hAs hnx
        have hse : sec.isEmpty = !inn := by rw [hin, Bool.not_not]
        have hwi : IntKind.i64.wrap ((i : Int) + 1) = (i : Int) + 1 := IntWalk.i64_in _ (by omega)
        clear hx hst hx0 hin
        have HhSc := Lib.hid hSc
        clear hSc
        have HhAs := Lib.hid hAs
        clear hAs
        cases s2
        case true =>
          rw [if_pos rfl] at hnx
          have Hhnx := Lib.hid hnx
          clear hnx
          go_wp2_with fail
          refine (HhSc.out _).mono ?_
          rintro e w4 ⟨rfl, rfl⟩
          go_wp2_with fail
          go_roundw
          case rel => exact ⟨i + 1, _, by omega, Hhnx.out, by go_num, rfl, ⟨_, _, rfl⟩, ⟨_, _, rfl⟩, HO1.out, HO2.out, HX.out⟩
          case measure => simp [intOf]; omega
        case false =>
          rw [if_neg (by simp)] at hnx
          cases a3 <;> cases inn
          case true.true =>
            rw [if_pos ⟨rfl, rfl⟩] at hnx
            have hse2 : (!sec.isEmpty) = true := by rw [hse]; rfl
            have Hhnx := Lib.hid hnx
            clear hnx
            go_wp2_with fail
            refine (HhSc.out _).mono ?_
            rintro e w4 ⟨rfl, rfl⟩
            go_wp2_with fail
            refine (HhAs.out _).mono ?_
            rintro e w5 ⟨rfl, hx5⟩
            obtain ⟨ob, hob⟩ : ∃ ob, ob = Obj.cells #[.string fn, .int .i64 (n : Int), .string (str sec), .string (str a1), .string (str a2)] 64 := ⟨_, rfl⟩
            have d5 := hx5.cell d0
            have c5 := hx5.cell c0'
            have d5o := fun o => ((Ext.refl w5).alloc o).cell d5
            have c5o := fun o => ((Ext.refl w5).alloc o).cell c5
            have HO1A := Lib.hid (own_ext HO1.out (hx5.alloc ob).drew)
            have HO2A := Lib.hid (own_ext HO2.out (hx5.alloc ob).drew)
            have HXA := Lib.hid ((HX.out.trans hx5).alloc ob).drew
            subst hob
            have HBX := Lib.hid (show w3.heap.size ≤ w5.heap.size from (HX.out.trans hx5).size)
            clear hx5 d0 c0' d1
            go_wp2_with fail
            (go_region_law
              ((refine step_app_g rfl (.tmp 61) (.tmp 73) _ rfl Try.underlying37 infoAs rfl (by decide) (encAs_len fn) (encAs_one fn) w3.heap.size _ _ al [(n, sec, a1, a2)] (by rfl) (by rfl) (by exact HO1A.out) (Rd.ext ((Ext.refl _).drew) (rd_lit (encAs_len fn) w5 [(n, sec, a1, a2)] _ _ rfl)) (by simp; omega) (by decide) (by simp; exact Nat.le_succ_of_le HBX.out) ?_; intro au7 cu7 w7 ho7 hg7
                have HO17 := Lib.hid ho7
                have HO27 := Lib.hid (own_kept2 HO1A.out HO2A.out (by decide) hg7)
                have HX7 := Lib.hid (HXA.out.grown hg7 (fun k e => (HO1A.out.lt k e).1))
                clear ho7 hg7)))
            all_goals
              go_wp2_with fail
              go_roundw
              case rel => exact ⟨i + 1, _, by omega, Hhnx.out, by go_num, rfl, ⟨_, _, by rw [List.length_append]; rfl⟩, ⟨_, _, rfl⟩, by rw [List.length_append]; exact HO17.out, HO27.out, HX7.out⟩
              case measure => simp [intOf]; omega
          all_goals
            rw [if_neg (by simp)] at hnx
            have Hhnx := Lib.hid hnx
            clear hnx
            obtain ⟨T, hT⟩ : ∃ T, T = t.take 60 := ⟨_, rfl⟩
            rw [← hT] at Hhnx
            by_cases hlg : 60 < t.length
            · have hg1 : decide (60 < t.length) = true := decide_eq_true hlg
              have hg2 : decide ((60 : Int) < (t.length : Int)) = true := decide_eq_true (by omega)
              have hg3 : (60 : Int) ≤ (t.length : Int) := by omega
              have hex : (str t).extract 0 60 = str T := bytes_inj (by rw [hT, bytes_ext, List.drop_zero, Nat.sub_zero, show bytes (str t) = t from by simp [bytes], show bytes (str (t.take 60)) = t.take 60 from by simp [bytes]])
              have HhT := Lib.hid hT
              clear hT
              go_wp2_with fail
              refine (HhSc.out _).mono ?_
              rintro e w4 ⟨rfl, rfl⟩
              go_wp2_with fail
              refine (HhAs.out _).mono ?_
              rintro e w5 ⟨rfl, hx5⟩
              obtain ⟨ob, hob⟩ : ∃ ob, ob = Obj.cells #[.string fn, .int .i64 (n : Int), .int .i64 130, .string (str T)] 47 := ⟨_, rfl⟩
              have d5 := hx5.cell d0
              have e5 := hx5.cell d1
              have c5 := hx5.cell c0'
              have d5o := fun o => ((Ext.refl w5).alloc o).cell d5
              have c5o := fun o => ((Ext.refl w5).alloc o).cell c5
              have HO1A := Lib.hid (own_ext HO1.out (hx5.alloc ob).drew)
              have HO2A := Lib.hid (own_ext HO2.out (hx5.alloc ob).drew)
              have HXA := Lib.hid ((HX.out.trans hx5).alloc ob).drew
              subst hob
              have HBX := Lib.hid (show w3.heap.size ≤ w5.heap.size from (HX.out.trans hx5).size)
              clear hx5 d0 c0' d1
              go_wp2_with fail
              (go_region_law
                ((refine step_app_g rfl (.tmp 85) (.tmp 95) _ rfl Try.underlying38 infoNt rfl (by decide) (encNt_len fn) (encNt_one fn) w3.heap.size _ _ nl [(n, 130, T)] (by rfl) (by rfl) (by exact HO2A.out) (Rd.ext ((Ext.refl _).drew) (rd_lit (encNt_len fn) w5 [(n, 130, T)] _ _ rfl)) (by simp; omega) (by decide) (by simp; exact Nat.le_succ_of_le HBX.out) ?_; intro au7 cu7 w7 ho7 hg7
                  have HO27 := Lib.hid ho7
                  have HO17 := Lib.hid (own_kept2 HO2A.out HO1A.out (by decide) hg7)
                  have HX7 := Lib.hid (HXA.out.grown hg7 (fun k e => (HO2A.out.lt k e).1))
                  clear ho7 hg7)))
              all_goals
                go_wp2_with fail
                go_roundw
                case rel => exact ⟨i + 1, _, by omega, Hhnx.out, by go_num, rfl, ⟨_, _, rfl⟩, ⟨_, _, by rw [List.length_append]; rfl⟩, HO17.out, by rw [List.length_append]; exact HO27.out, HX7.out⟩
                case measure => simp [intOf]; omega
            · have hg1 : decide (60 < t.length) = false := decide_eq_false hlg
              have hg2 : decide ((60 : Int) < (t.length : Int)) = false := decide_eq_false (by omega)
              have hTt : T = t := by rw [hT, List.take_of_length_le (by omega)]
              subst hTt
              clear hT
              go_wp2_with fail
              refine (HhSc.out _).mono ?_
              rintro e w4 ⟨rfl, rfl⟩
              go_wp2_with fail
              refine (HhAs.out _).mono ?_
              rintro e w5 ⟨rfl, hx5⟩
              obtain ⟨ob, hob⟩ : ∃ ob, ob = Obj.cells #[.string fn, .int .i64 (n : Int), .int .i64 130, .string (str T)] 47 := ⟨_, rfl⟩
              have d5 := hx5.cell d0
              have e5 := hx5.cell d1
              have c5 := hx5.cell c0'
              have d5o := fun o => ((Ext.refl w5).alloc o).cell d5
              have c5o := fun o => ((Ext.refl w5).alloc o).cell c5
              have HO1A := Lib.hid (own_ext HO1.out (hx5.alloc ob).drew)
              have HO2A := Lib.hid (own_ext HO2.out (hx5.alloc ob).drew)
              have HXA := Lib.hid ((HX.out.trans hx5).alloc ob).drew
              subst hob
              have HBX := Lib.hid (show w3.heap.size ≤ w5.heap.size from (HX.out.trans hx5).size)
              clear hx5 d0 c0' d1
              go_wp2_with fail
              (go_region_law
                ((refine step_app_g rfl (.tmp 85) (.tmp 95) _ rfl Try.underlying38 infoNt rfl (by decide) (encNt_len fn) (encNt_one fn) w3.heap.size _ _ nl [(n, 130, T)] (by rfl) (by rfl) (by exact HO2A.out) (Rd.ext ((Ext.refl _).drew) (rd_lit (encNt_len fn) w5 [(n, 130, T)] _ _ rfl)) (by simp; omega) (by decide) (by simp; exact Nat.le_succ_of_le HBX.out) ?_; intro au7 cu7 w7 ho7 hg7
                  have HO27 := Lib.hid ho7
                  have HO17 := Lib.hid (own_kept2 HO2A.out HO1A.out (by decide) hg7)
                  have HX7 := Lib.hid (HXA.out.grown hg7 (fun k e => (HO2A.out.lt k e).1))
                  clear ho7 hg7)))
              all_goals
                go_wp2_with fail
                go_roundw
                case rel => exact ⟨i + 1, _, by omega, Hhnx.out, by go_num, rfl, ⟨_, _, rfl⟩, ⟨_, _, by rw [List.length_append]; rfl⟩, HO17.out, by rw [List.length_append]; exact HO27.out, HX7.out⟩
                case measure => simp [intOf]; omega
      · obtain rfl : i = zs.length := by omega
        rw [List.take_length, ← HhU.out] at hst
        subst hst
        clear hx
        by_cases hnl : st.nl = []
        · have hz : st.nl.length = 0 := by rw [hnl]; rfl
          have hp := Hhpr.out
          rw [if_neg (by simpa using hnl)] at hp
          have hd1 : decide (0 < st.nl.length) = false := decide_eq_false (by omega)
          have hd2 : decide ((0 : Int) < (st.nl.length : Int)) = false := decide_eq_false (by omega)
          have Hhp := Lib.hid hp
          clear hp
          have Hhz := Lib.hid hz
          clear hz
          clear hnl
          go_wp2_with fail
          go_ret2
          exact ⟨_, _, rfl, (HE2.out.trans HX3.out).trans HX.out, by rw [Hhp.out]; exact own_base HO1.out HB3.out, by rw [Hhp.out]; exact World.ownsRow_nil _ _ _ _⟩
        · have hz : 0 < st.nl.length := List.length_pos_iff.2 hnl
          have hp := Hhpr.out
          rw [if_pos hnl] at hp
          have hd1 : decide (0 < st.nl.length) = true := decide_eq_true hz
          have hd2 : decide ((0 : Int) < (st.nl.length : Int)) = true := decide_eq_true (by omega)
          have Hhp := Lib.hid hp
          clear hp
          clear hnl
          go_wp2_with fail
          go_ret2
          exact ⟨_, _, rfl, (HE2.out.trans HX3.out).trans HX.out, by rw [Hhp.out]; exact World.ownsRow_nil _ _ _ _, by rw [Hhp.out]; exact own_base HO2.out HB3.out⟩
  · have hne : (er != 0) = true := by simpa using h0
    obtain ⟨en, hen⟩ : ∃ en : Nat, er = (en : Int) := ⟨er.toNat, by omega⟩
    subst hen
    rw [if_pos h0, show ((en : Int)).toNat = en by omega] at hpr
    have Hhpr := Lib.hid hpr
    clear hpr
    obtain ⟨au, cu, rfl⟩ := own_form HO3.out
    have Hhne := Lib.hid hne
    clear hne
    go_wp2_with fail
    go_region
    all_goals
      go_wp2_with fail
      go_ret2
      exact ⟨_, _, rfl, ((HE2.out.trans HX3.out).alloc _).drew, by rw [Hhpr.out]; exact World.ownsRow_nil _ _ _ _, by rw [Hhpr.out]; exact ownsRow_drewN (own_base (own_lit (encNt_len fn) w3 [(0, en, [])] _ _ w3.heap.size rfl (Nat.le_refl _) (by unfold maxLen; simp)) HB3.out) 1⟩
end L12
end Go.Proofs.Ytkmbahpjioopdaa
