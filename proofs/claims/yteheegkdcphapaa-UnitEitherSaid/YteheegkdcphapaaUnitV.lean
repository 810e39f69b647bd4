/- Layer 13: the walk of the law UnitEither. -/
import Derived.Test.YteheegkdcphapaaUnitQ
import Derived.Test.YteheegkdcphapaaUnitU
namespace Go.Proofs.Yteheegkdcphapaa
open Go.RowKit Go.Shelf V
attribute [local go_sem] Oper.semAt_some Option.isSome_some
namespace L12
set_option maxRecDepth 100000 in
set_option maxHeartbeats 4000000 in
theorem UnitEither_calls (fn : ByteArray) (d : Int) (v : Value) (bs : List UInt8) (hbm : bs.length ≤ maxLen) (w : World) (hv : Rd w 1 encB v bs) :
    Calls Try.prog 11 #[fileV fn d v] w fun e w' => e = .returned (.bool true) ∧ Ext w w' := by
  have hA := fun W => awake13_calls W
  have HV := Lib.hid hv
  obtain ⟨av, cv, rfl, -⟩ := rdB_cell hv
  obtain ⟨W2, hW2⟩ : ∃ W2, W2 = w.alloc (.cells #[.string fn, .int .i64 d, .slice av bs.length cv] 48) := ⟨_, rfl⟩
  have e2 : Ext w W2 := by rw [hW2]; exact (Ext.refl w).alloc _
  have q0 : W2.cell? ⟨w.heap.size, 0, none⟩ = some (.string fn) := by rw [hW2]; exact cells_new w [.string fn, .int .i64 d, .slice av bs.length cv] _ 0 _ rfl
  have q1 : W2.cell? ⟨w.heap.size, 1, none⟩ = some (.int .i64 d) := by rw [hW2]; exact cells_new w [.string fn, .int .i64 d, .slice av bs.length cv] _ 1 _ rfl
  have q2 : W2.cell? ⟨w.heap.size, 2, none⟩ = some (.slice av bs.length cv) := by rw [hW2]; exact cells_new w [.string fn, .int .i64 d, .slice av bs.length cv] _ 2 _ rfl
  have HE2 := Lib.hid e2
  have HW := Lib.hid hW2
  unfold fileV
  unfold maxLen at hbm
  clear hv e2 hW2
  have HhA := Lib.hid hA
  clear hA
  by_cases hl : 5000 < bs.length
  · have h1 : decide (5000 < bs.length) = true := decide_eq_true hl
    have h2 : decide ((5000 : Int) < (bs.length : Int)) = true := decide_eq_true (by omega)
    have Hhl := Lib.hid hl
    clear hl
    go_enter Try.func11, Try.ntmps11
    rw [HW.out] at q2
    go_wp2_with fail
    rw [← HW.out]
    refine (HhA.out _).mono ?_
    rintro e w1 ⟨rfl, hx1⟩
    go_wp2_with fail
    go_ret
    exact ⟨rfl, HE2.out.trans hx1⟩
  · have h1 : decide (5000 < bs.length) = false := decide_eq_false hl
    have h2 : decide ((5000 : Int) < (bs.length : Int)) = false := decide_eq_false (by omega)
    have hbl : bs.length ≤ 5000 := by omega
    have hP := fun u W (h : Rd W 1 encB u bs) => Parse_calls fn d u bs (by omega) W h
    have hSp := fun u W (h : Rd W 1 encB u bs) => Split_calls u bs (by omega) W h
    have hPL : parseL bs = if (splitA bs).2 ≠ 0 then ([], [(0, (splitA bs).2.toNat, [])]) else if (foldU bs).nl ≠ [] then ([], (foldU bs).nl) else ((foldU bs).al, []) := rfl
    have hfl := fun k => foldU_len ((splitA bs).1.take k) ⟨[], false, [], []⟩
    have hU : foldU bs = (splitA bs).1.foldl stepU ⟨[], false, [], []⟩ := rfl
    have hsl := splitA_len bs
    have her := splitA_err bs
    have htx := splitA_texts bs
    obtain ⟨pr, hpr⟩ : ∃ pr, pr = parseL bs := ⟨_, rfl⟩
    rw [← hpr] at hP hPL
    generalize foldU bs = fu at *
    generalize (splitA bs).1 = zs at *
    generalize (splitA bs).2 = er at *
    clear hpr h1 h2 hl
    unfold fileV at hP
    have HhP := Lib.hid hP
    clear hP
    have HhSp := Lib.hid hSp
    clear hSp
    have Hhtx := Lib.hid htx
    clear htx
    have HhU := Lib.hid hU
    clear hU
    have Hhfl := Lib.hid hfl
    clear hfl
    by_cases h0 : er = 0
    · subst h0
      rw [if_neg (by simp)] at hPL
      have hcase : (fu.nl = [] ∧ pr = (fu.al, [])) ∨ (fu.nl ≠ [] ∧ pr = ([], fu.nl)) := by
        by_cases hn : fu.nl = []
        · exact .inl ⟨hn, by rw [hPL, if_neg (by simpa using hn)]⟩
        · exact .inr ⟨hn, by rw [hPL, if_pos hn]⟩
      clear hPL
      have hfu := HhU.out
      have hlen := Hhfl.out zs.length
      rw [List.take_length, ← hfu] at hlen
      simp only [List.length_nil, Nat.zero_add] at hlen
      have h1 : decide (5000 < bs.length) = false := decide_eq_false (by omega)
      have h2 : decide ((5000 : Int) < (bs.length : Int)) = false := decide_eq_false (by omega)
      rcases hcase with ⟨hn, rfl⟩ | ⟨hn, rfl⟩
      · have hz : fu.nl.length = 0 := by rw [hn]; rfl
        have Hhfu := Lib.hid hfu
        clear hfu
        go_enter Try.func11, Try.ntmps11
        rw [HW.out] at q2 q1 q0
        go_wp2_with fail
        rw [← HW.out] at q0 q1 q2 ⊢
        refine (HhP.out _ _ (HV.out.ext HE2.out)).mono ?_
        rintro e w1 ⟨ua, un, rfl, hx1, ho1, ho2⟩
        obtain ⟨a1, c1, rfl, hac1, hc1⟩ := rdAs_cell (rd_of_own (encAs_len fn) ho1)
        obtain ⟨a2, c2, rfl⟩ := own_form ho2
        replace q0 := hx1.cell q0
        replace q2 := hx1.cell q2
        have HX1 := Lib.hid (HE2.out.trans hx1)
        dsimp only [List.length_nil] at *
        clear hx1 ho1 ho2
        have Hhc1 := Lib.hid hc1
        clear hc1
        go_wp2_with fail
        refine (HhSp.out _ _ (HV.out.ext HX1.out)).mono ?_
        rintro e w2 ⟨us, rfl, hx2, ho2⟩
        obtain ⟨a3, c3, rfl, hac3, hc3⟩ := rdN_cell (rd_of_own encN_len ho2)
        replace q0 := hx2.cell q0
        have HX2 := Lib.hid (HX1.out.trans hx2)
        have HX12 := Lib.hid hx2
        have Hhc3 := Lib.hid hc3
        clear hc3
        clear hx2 ho2 q1 q2
        by_cases hal : 0 < fu.al.length
        all_goals
          have hd3 : ((0 : Int) < (0 : Int)) = False := by simp
          go_wp2_with (go_quiet (fail))
          go_loopw [7, 8, 9] (fun uk us ui wr => ∃ (i : Nat) (st : US), i ≤ zs.length ∧ st = (zs.take i).foldl stepU ⟨[], false, [], []⟩ ∧ ui = .int .i64 (i : Int) ∧ us = .string (str st.sec) ∧ uk = .int .i64 (st.al.length : Int) ∧ Ext w wr ∧ Ext w2 wr) (fun _ _ ui _ => zs.length - (intOf ui).toNat)
          case atStart => exact ⟨0, ⟨[], false, [], []⟩, Nat.zero_le _, rfl, rfl, rfl, rfl, by repeat (first | exact HX2.out | apply Ext.drewN), by repeat (first | exact Ext.refl _ | apply Ext.drewN)⟩
          case round =>
            obtain ⟨i, st, hi, hst, rfl, rfl, rfl, hxw, hx⟩ := hrel
            clear hal
            have HXW := Lib.hid hxw
            have HX := Lib.hid hx
            have q0' := hx.cell q0
            by_cases hlt : i < zs.length
            · obtain ⟨b, o, rfl, d0, d1⟩ := Hhc3.out i hlt
              replace d0 := hx.cell d0
              replace d1 := hx.cell d1
              have htl := Hhtx.out _ (List.getElem_mem hlt)
              have hfk := Hhfl.out i
              rw [← hst, List.length_take, Nat.min_eq_left hi] at hfk
              have hin := foldU_inn (zs.take i) ⟨[], false, [], []⟩ rfl
              rw [← hst] at hin
              have hnx : stepU st zs[i] = (zs.take (i + 1)).foldl stepU ⟨[], false, [], []⟩ := by
                rw [List.take_succ_eq_append_getElem hlt, List.foldl_append, ← hst]; rfl
              obtain ⟨t1, t2, ht1, ht2⟩ := foldU_at hlt hst HhU.out
              generalize zs[i] = x at *
              obtain ⟨n, t⟩ := x
              obtain ⟨sec, inn, al, nl⟩ := st
              dsimp only at d0 d1 htl hin hfk
              simp only [Nat.zero_add] at hfk
              have hSc := fun W => Section_calls (str t) (by rw [str_size]; exact htl) W
              have hAs := fun W => Assignment_calls (str t) (by rw [str_size]; exact htl) W
              rw [show bytes (str t) = t from by simp [bytes]] at hSc hAs
              have hx0 : stepU ⟨sec, inn, al, nl⟩ (n, t) = if (sectionL t).2 = true then ⟨(sectionL t).1, true, al, nl⟩ else if (assignL t).2.2 = true ∧ inn = true then ⟨sec, inn, al ++ [(n, sec, (assignL t).1, (assignL t).2.1)], nl⟩ else ⟨sec, inn, al, nl ++ [(n, 130, t.take 60)]⟩ := rfl
              rw [hx0] at hnx ht1 ht2
              unfold secV at hSc
              unfold asgV at hAs
              generalize sectionL t = sc at *
              generalize assignL t = ag at *
              obtain ⟨s1, s2⟩ := sc
              obtain ⟨ag1, ag2, ag3⟩ := ag
              dsimp only at hSc hAs hnx ht1 ht2
              have hse : sec.isEmpty = !inn := by rw [hin, Bool.not_not]
              have hwi : IntKind.i64.wrap ((i : Int) + 1) = (i : Int) + 1 := IntWalk.i64_in _ (by omega)
              clear hx hxw hst hx0 hin q0
              have HhSc := Lib.hid hSc
              clear hSc
              have HhAs := Lib.hid hAs
              clear hAs
              cases s2
              case true =>
                rw [if_pos rfl] at hnx
                have Hhnx := Lib.hid hnx
                clear hnx
                clear ht1 ht2
                go_wp2_with fail
                refine (HhSc.out _).mono ?_
                rintro e w4 ⟨rfl, hx4⟩
                have HX4 := Lib.hid (HX.out.trans hx4)
                have HXW4 := Lib.hid (HXW.out.trans hx4)
                clear hx4
                go_wp2_with fail
                go_roundw
                case rel => exact ⟨i + 1, _, by omega, Hhnx.out, by go_num, rfl, rfl, HXW4.out, HX4.out⟩
                case measure => simp [intOf]; omega
              case false =>
                rw [if_neg (by simp)] at hnx ht1 ht2
                have hd0' := d0
                cases ag3 <;> cases inn
                case true.true =>
                  rw [if_pos ⟨rfl, rfl⟩] at hnx ht1 ht2
                  dsimp only at ht1 ht2
                  have hse2 : (!sec.isEmpty) = true := by rw [hse]; rfl
                  have Hhnx := Lib.hid hnx
                  clear hnx
                  obtain ⟨hka, hga⟩ := snoc_at ht1
                  obtain ⟨b2, o2, rfl, g0, g1, g2, g3, g4⟩ := Hhc1.out al.length hka
                  rw [hga] at g1 g2 g3 g4
                  dsimp only at g1 g2 g3 g4
                  have hkd1 : decide (fu.al.length ≤ al.length) = false := decide_eq_false (by omega)
                  have hkd2 : decide ((fu.al.length : Int) ≤ (al.length : Int)) = false := decide_eq_false (by omega)
                  have hkz : (al.length : Int) < (fu.al.length : Int) := by omega
                  have hwk : IntKind.i64.wrap ((al.length : Int) + 1) = (al.length : Int) + 1 := IntWalk.i64_in _ (by omega)
                  have HG := Lib.hid (And.intro g0 (And.intro g1 (And.intro g2 (And.intro g3 g4))))
                  clear ht1 ht2 hga g0 g1 g2 g3 g4
                  go_wp2_with fail
                  refine (HhSc.out _).mono ?_
                  rintro e w4 ⟨rfl, hx4⟩
                  replace d1 := hx4.cell d1
                  replace d0 := hx4.cell d0
                  replace q0' := hx4.cell q0'
                  go_wp2_with fail
                  refine (HhAs.out _).mono ?_
                  rintro e w5 ⟨rfl, hx5⟩
                  replace d0 := hx5.cell d0
                  replace q0' := hx5.cell q0'
                  have HX5 := Lib.hid ((HX.out.trans hx4).trans hx5)
                  have HXW5 := Lib.hid ((HXW.out.trans hx4).trans hx5)
                  clear hx4 hx5 d1
                  have hq := run_neqAs fn (n, sec, ag1, ag2) (n, sec, ag1, ag2)
                  have hg := hgAs
                  rw [show sameAs (n, sec, ag1, ag2) (n, sec, ag1, ag2) = true from (sameAs_iff _ _).2 rfl] at hq
                  obtain ⟨g0, g1, g2, g3, g4⟩ := HG.out
                  replace g0 := (HX12.out.trans HX5.out).cell g0
                  replace g1 := (HX12.out.trans HX5.out).cell g1
                  replace g2 := (HX12.out.trans HX5.out).cell g2
                  replace g3 := (HX12.out.trans HX5.out).cell g3
                  replace g4 := (HX12.out.trans HX5.out).cell g4
                  go_wp2_with (go_quiet (fail))
                  go_roundw
                  case rel => exact ⟨i + 1, _, by omega, Hhnx.out, by go_num, rfl, by simp, by repeat (first | exact HXW5.out | apply Ext.drewN), by repeat (first | exact HX5.out | apply Ext.drewN)⟩
                  case measure => simp [intOf]; omega
                all_goals
                  rw [if_neg (by simp)] at hnx ht1 ht2
                  dsimp only at ht1 ht2
                  exfalso
                  rw [hn] at ht2
                  have := congrArg List.length ht2
                  simp at this
            · obtain rfl : i = zs.length := by omega
              rw [List.take_length, ← HhU.out] at hst
              subst hst
              clear hx hxw
              have hwl : IntKind.i64.wrap ((st.al.length : Int) + 0) = (st.al.length : Int) := by rw [Int.add_zero]; exact IntWalk.i64_in _ (by omega)
              go_wp2_with fail
              refine (HhA.out _).mono ?_
              rintro e w9 ⟨rfl, hx9⟩
              go_wp2_with fail
              go_ret
              exact ⟨rfl, HXW.out.trans hx9⟩
      · have hz : 0 < fu.nl.length := List.length_pos_iff.2 hn
        have hz2 : (0 : Int) < (fu.nl.length : Int) := by omega
        have Hhfu := Lib.hid hfu
        clear hfu
        go_enter Try.func11, Try.ntmps11
        rw [HW.out] at q2 q1 q0
        go_wp2_with fail
        rw [← HW.out] at q0 q1 q2 ⊢
        refine (HhP.out _ _ (HV.out.ext HE2.out)).mono ?_
        rintro e w1 ⟨ua, un, rfl, hx1, ho1, ho2⟩
        obtain ⟨a1, c1, rfl⟩ := own_form ho1
        obtain ⟨a2, c2, rfl, hac2, hc2⟩ := rdNt_cell (rd_of_own (encNt_len fn) ho2)
        replace q0 := hx1.cell q0
        replace q2 := hx1.cell q2
        have HX1 := Lib.hid (HE2.out.trans hx1)
        dsimp only [List.length_nil] at *
        clear hx1 ho1 ho2
        have Hhc2 := Lib.hid hc2
        clear hc2
        go_wp2_with fail
        refine (HhSp.out _ _ (HV.out.ext HX1.out)).mono ?_
        rintro e w2 ⟨us, rfl, hx2, ho2⟩
        obtain ⟨a3, c3, rfl, hac3, hc3⟩ := rdN_cell (rd_of_own encN_len ho2)
        replace q0 := hx2.cell q0
        have HX2 := Lib.hid (HX1.out.trans hx2)
        have HX12 := Lib.hid hx2
        have Hhc3 := Lib.hid hc3
        clear hc3
        clear hx2 ho2 q1 q2
        have hd3 : ((0 : Int) < (0 : Int)) = False := by simp
        go_wp2_with (go_quiet (fail))
        go_loopw [7, 8, 9] (fun uk us ui wr => ∃ (i : Nat) (st : US), i ≤ zs.length ∧ st = (zs.take i).foldl stepU ⟨[], false, [], []⟩ ∧ ui = .int .i64 (i : Int) ∧ us = .string (str st.sec) ∧ uk = .int .i64 (st.nl.length : Int) ∧ Ext w wr ∧ Ext w2 wr) (fun _ _ ui _ => zs.length - (intOf ui).toNat)
        case atStart => exact ⟨0, ⟨[], false, [], []⟩, Nat.zero_le _, rfl, rfl, rfl, rfl, by repeat (first | exact HX2.out | apply Ext.drewN), by repeat (first | exact Ext.refl _ | apply Ext.drewN)⟩
        case round =>
          obtain ⟨i, st, hi, hst, rfl, rfl, rfl, hxw, hx⟩ := hrel
          have HXW := Lib.hid hxw
          have HX := Lib.hid hx
          have q0' := hx.cell q0
          by_cases hlt : i < zs.length
          · obtain ⟨b, o, rfl, d0, d1⟩ := Hhc3.out i hlt
            replace d0 := hx.cell d0
            replace d1 := hx.cell d1
            have htl := Hhtx.out _ (List.getElem_mem hlt)
            have hfk := Hhfl.out i
            rw [← hst, List.length_take, Nat.min_eq_left hi] at hfk
            have hin := foldU_inn (zs.take i) ⟨[], false, [], []⟩ rfl
            rw [← hst] at hin
            have hnx : stepU st zs[i] = (zs.take (i + 1)).foldl stepU ⟨[], false, [], []⟩ := by
              rw [List.take_succ_eq_append_getElem hlt, List.foldl_append, ← hst]; rfl
            obtain ⟨t1, t2, ht1, ht2⟩ := foldU_at hlt hst HhU.out
            generalize zs[i] = x at *
            obtain ⟨n, t⟩ := x
            obtain ⟨sec, inn, al, nl⟩ := st
            dsimp only at d0 d1 htl hin hfk
            simp only [Nat.zero_add] at hfk
            have hSc := fun W => Section_calls (str t) (by rw [str_size]; exact htl) W
            have hAs := fun W => Assignment_calls (str t) (by rw [str_size]; exact htl) W
            rw [show bytes (str t) = t from by simp [bytes]] at hSc hAs
            have hx0 : stepU ⟨sec, inn, al, nl⟩ (n, t) = if (sectionL t).2 = true then ⟨(sectionL t).1, true, al, nl⟩ else if (assignL t).2.2 = true ∧ inn = true then ⟨sec, inn, al ++ [(n, sec, (assignL t).1, (assignL t).2.1)], nl⟩ else ⟨sec, inn, al, nl ++ [(n, 130, t.take 60)]⟩ := rfl
            rw [hx0] at hnx ht1 ht2
            unfold secV at hSc
            unfold asgV at hAs
            generalize sectionL t = sc at *
            generalize assignL t = ag at *
            obtain ⟨s1, s2⟩ := sc
            obtain ⟨ag1, ag2, ag3⟩ := ag
            dsimp only at hSc hAs hnx ht1 ht2
            have hse : sec.isEmpty = !inn := by rw [hin, Bool.not_not]
            have hwi : IntKind.i64.wrap ((i : Int) + 1) = (i : Int) + 1 := IntWalk.i64_in _ (by omega)
            clear hx hxw hst hx0 hin q0
            have HhSc := Lib.hid hSc
            clear hSc
            have HhAs := Lib.hid hAs
            clear hAs
            cases s2
            case true =>
              rw [if_pos rfl] at hnx
              have Hhnx := Lib.hid hnx
              clear hnx
              clear ht1 ht2
              go_wp2_with fail
              refine (HhSc.out _).mono ?_
              rintro e w4 ⟨rfl, hx4⟩
              have HX4 := Lib.hid (HX.out.trans hx4)
              have HXW4 := Lib.hid (HXW.out.trans hx4)
              clear hx4
              go_wp2_with fail
              go_roundw
              case rel => exact ⟨i + 1, _, by omega, Hhnx.out, by go_num, rfl, rfl, HXW4.out, HX4.out⟩
              case measure => simp [intOf]; omega
            case false =>
              rw [if_neg (by simp)] at hnx ht1 ht2
              have hd0' := d0
              cases ag3 <;> cases inn
              case true.true =>
                rw [if_pos ⟨rfl, rfl⟩] at hnx ht1 ht2
                dsimp only at ht1 ht2
                have hse2 : (!sec.isEmpty) = true := by rw [hse]; rfl
                have Hhnx := Lib.hid hnx
                clear hnx
                clear ht1 ht2
                go_wp2_with fail
                refine (HhSc.out _).mono ?_
                rintro e w4 ⟨rfl, hx4⟩
                replace d1 := hx4.cell d1
                replace d0 := hx4.cell d0
                replace q0' := hx4.cell q0'
                go_wp2_with fail
                refine (HhAs.out _).mono ?_
                rintro e w5 ⟨rfl, hx5⟩
                replace d0 := hx5.cell d0
                replace q0' := hx5.cell q0'
                have HX5 := Lib.hid ((HX.out.trans hx4).trans hx5)
                have HXW5 := Lib.hid ((HXW.out.trans hx4).trans hx5)
                clear hx4 hx5 d1
                go_wp2_with (go_quiet (fail))
                go_roundw
                case rel => exact ⟨i + 1, _, by omega, Hhnx.out, by go_num, rfl, by simp, by repeat (first | exact HXW5.out | apply Ext.drewN), by repeat (first | exact HX5.out | apply Ext.drewN)⟩
                case measure => simp [intOf]; omega
              all_goals
                rw [if_neg (by simp)] at hnx ht1 ht2
                dsimp only at ht1 ht2
                obtain ⟨hka, hga⟩ := snoc_at ht2
                obtain ⟨b2, o2, rfl, g0, g1, g2, g3⟩ := Hhc2.out nl.length hka
                rw [hga] at g1 g2 g3
                dsimp only at g1 g2 g3
                have hkd1 : decide (fu.nl.length ≤ nl.length) = false := decide_eq_false (by omega)
                have hkd2 : decide ((fu.nl.length : Int) ≤ (nl.length : Int)) = false := decide_eq_false (by omega)
                have hkz : (nl.length : Int) < (fu.nl.length : Int) := by omega
                have hwk : IntKind.i64.wrap ((nl.length : Int) + 1) = (nl.length : Int) + 1 := IntWalk.i64_in _ (by omega)
                have HG := Lib.hid (And.intro g1 g2)
                have Hhnx := Lib.hid hnx
                clear hnx
                clear ht1 ht2 hga g0 g1 g2 g3
                go_wp2_with fail
                refine (HhSc.out _).mono ?_
                rintro e w4 ⟨rfl, hx4⟩
                replace d1 := hx4.cell d1
                replace d0 := hx4.cell d0
                replace q0' := hx4.cell q0'
                go_wp2_with fail
                refine (HhAs.out _).mono ?_
                rintro e w5 ⟨rfl, hx5⟩
                replace d0 := hx5.cell d0
                replace q0' := hx5.cell q0'
                have HX5 := Lib.hid ((HX.out.trans hx4).trans hx5)
                have HXW5 := Lib.hid ((HXW.out.trans hx4).trans hx5)
                clear hx4 hx5 d1
                obtain ⟨g1, g2⟩ := HG.out
                replace g1 := (HX12.out.trans HX5.out).cell g1
                replace g2 := (HX12.out.trans HX5.out).cell g2
                go_wp2_with (go_quiet (fail))
                go_roundw
                case rel => exact ⟨i + 1, _, by omega, Hhnx.out, by go_num, rfl, by simp, by repeat (first | exact HXW5.out | apply Ext.drewN), by repeat (first | exact HX5.out | apply Ext.drewN)⟩
                case measure => simp [intOf]; omega
          · obtain rfl : i = zs.length := by omega
            rw [List.take_length, ← HhU.out] at hst
            subst hst
            clear hx hxw
            have hwl : IntKind.i64.wrap (0 + (st.nl.length : Int)) = (st.nl.length : Int) := by rw [Int.zero_add]; exact IntWalk.i64_in _ (by omega)
            go_wp2_with fail
            refine (HhA.out _).mono ?_
            rintro e w9 ⟨rfl, hx9⟩
            go_wp2_with fail
            go_ret
            exact ⟨rfl, HXW.out.trans hx9⟩
    · have hne : (er != 0) = true := by simpa using h0
      obtain ⟨en, hen⟩ : ∃ en : Nat, er = (en : Int) := ⟨er.toNat, by omega⟩
      subst hen
      rw [if_pos h0, show ((en : Int)).toNat = en by omega] at hPL
      subst hPL
      have h1 : decide (5000 < bs.length) = false := decide_eq_false (by omega)
      have h2 : decide ((5000 : Int) < (bs.length : Int)) = false := decide_eq_false (by omega)
      go_enter Try.func11, Try.ntmps11
      rw [HW.out] at q2 q1 q0
      go_wp2_with fail
      rw [← HW.out] at q0 q1 q2 ⊢
      refine (HhP.out _ _ (HV.out.ext HE2.out)).mono ?_
      rintro e w1 ⟨ua, un, rfl, hx1, ho1, ho2⟩
      obtain ⟨a1, c1, rfl⟩ := own_form ho1
      obtain ⟨a2, c2, rfl, hac2, hc2⟩ := rdNt_cell (rd_of_own (encNt_len fn) ho2)
      obtain ⟨b, o, rfl, d0, d1, d2, d3⟩ := hc2 0 (by simp)
      try dsimp only at d0 d1 d2 d3
      replace q0 := hx1.cell q0
      replace q2 := hx1.cell q2
      have HX1 := Lib.hid (HE2.out.trans hx1)
      clear hx1 ho1 ho2 hc2
      go_wp2_with fail
      refine (HhSp.out _ _ (HV.out.ext HX1.out)).mono ?_
      rintro e w2 ⟨us, rfl, hx2, ho2⟩
      obtain ⟨a3, c3, rfl⟩ := own_form ho2
      replace q0 := hx2.cell q0
      replace d0 := hx2.cell d0
      replace d1 := hx2.cell d1
      replace d2 := hx2.cell d2
      replace d3 := hx2.cell d3
      have HX2 := Lib.hid (HX1.out.trans hx2)
      have hq : ∀ W, (binOp .neq 65 (.agg #[.string fn, .int .i64 0, .int .i64 (en : Int), .string ⟨#[]⟩]) (.agg #[.string fn, .int .i64 0, .int .i64 (en : Int), .string ⟨#[]⟩])).run Try.prog W = .ok (.bool false) W := fun W => by
        have h := run_neqNt fn (0, en, []) (0, en, []) W
        rw [show sameNt (0, en, []) (0, en, []) = true from (sameNt_iff _ _).2 rfl] at h
        exact h
      have hg := hgNt
      have e0 : w2.cell? ⟨b, o, none⟩ = some (.string fn) := by rw [Nat.zero_mul, Nat.add_zero] at d0; exact d0
      have e1 : w2.cell? ⟨b, o + 1, none⟩ = some (.int .i64 0) := by rw [Nat.zero_mul, Nat.add_zero] at d1; exact d1
      have e2 : w2.cell? ⟨b, o + 2, none⟩ = some (.int .i64 (en : Int)) := by rw [Nat.zero_mul, Nat.add_zero] at d2; exact d2
      have e3 : w2.cell? ⟨b, o + 3, none⟩ = some (.string ⟨#[]⟩) := by rw [Nat.zero_mul, Nat.add_zero] at d3; exact d3
      clear hx2 ho2 q1 q2 d0 d1 d2 d3
      go_wp2_with (go_quiet (fail))
      refine (HhA.out _).mono ?_
      rintro e w9 ⟨rfl, hx9⟩
      go_wp2_with fail
      go_ret
      exact ⟨rfl, Ext.trans (by repeat (first | exact HX2.out | apply Ext.drewN)) hx9⟩
end L12
end Go.Proofs.Yteheegkdcphapaa
