/- Layer 23: the law SpanOf. -/
import Derived.Test.YtaclndhenhjjaaaSpanJ
namespace Go.Proofs.Ytaclndhenhjjaaa
open Go.RowKit Go.Shelf V
namespace L23
theorem infoU : (Try.prog.info? 31).map (fun i => (i.zero, i.size, i.bytes)) = some (some (.int .u32 0), 1, 4) := by kernel_rfl
theorem encU_len (x : Nat) : (encU x).length = 1 := rfl
theorem encU_one (x : Nat) : ∀ u ∈ encU x, u.oneCell' = true := by intro u hu; simp [encU] at hu; subst hu; rfl
theorem Own.ext {w w' : World} {base : Nat} {v : Value} {xs : List Span} (h : Own w base v xs) (hx : Ext w w') : Own w' base v xs := by
  obtain ⟨h1, h2⟩ := h
  refine ⟨h1, ?_⟩
  rcases h2 with h2 | ⟨g, cap, cur, hv, hg, hh, r⟩
  · exact .inl h2
  · exact .inr ⟨g, cap, cur, hv, hg, (hx.block (Array.getElem?_eq_some_iff.1 hh).1).trans hh, r⟩
set_option maxRecDepth 100000 in
set_option maxHeartbeats 4000000 in
theorem SpanOf_calls (vn vw : Value) (ns : List Nat) (ws : List Int) (o : Int) (hnl : ns.length ≤ maxLen) (hwl : ws.length ≤ maxLen) (hns : ∀ n ∈ ns, n < 4294967296) (w : World) (hvn : Rd w 1 encU vn ns) (hvw : Rd w 1 encI vw ws) :
    Calls Try.prog 3 #[vn, vw, .int .i64 o] w fun e w' => e = .returned (.bool true) ∧ Ext w w' := by
  have hrd0 := hvn
  have hvwR := hvw
  obtain ⟨an, cn, rfl, hacn, hcan⟩ := rdU_cell hvn
  obtain ⟨aw, cw, rfl, hacw, -⟩ := rdI_cell hvw
  clear hvn hvw
  have Hhrd0 := Lib.hid hrd0
  clear hrd0
  have HhvwR := Lib.hid hvwR
  clear hvwR
  unfold maxLen at hnl hwl
  obtain ⟨i0, hi, hz0, hz1, hz2⟩ := info_parts infoU
  by_cases hlen : 300 < ns.length
  · have hd : decide (300 < ns.length) = true := decide_eq_true hlen
    have hd' : decide (300 < (ns.length : Int)) = true := decide_eq_true (by omega)
    have Hhlen := Lib.hid hlen
    clear hlen
    clear hcan
    go_enter Try.func3, Try.ntmps3
    go_wp2_with (go_quiet (fail))
    go_ret
    exact ⟨rfl, by repeat (first | exact Ext.refl _ | apply Ext.drewN)⟩
  have hd : decide (300 < ns.length) = false := decide_eq_false hlen
  have hd' : decide (300 < (ns.length : Int)) = false := decide_eq_false (by omega)
  by_cases hlen2 : 300 < ws.length
  · have hd2 : decide (300 < ws.length) = true := decide_eq_true hlen2
    have hd2' : decide (300 < (ws.length : Int)) = true := decide_eq_true (by omega)
    have Hhlen2 := Lib.hid hlen2
    clear hlen2
    have Hhlen := Lib.hid hlen
    clear hlen
    clear hcan
    go_enter Try.func3, Try.ntmps3
    go_wp2_with (go_quiet (fail))
    go_ret
    exact ⟨rfl, by repeat (first | exact Ext.refl _ | apply Ext.drewN)⟩
  have hd2 : decide (300 < ws.length) = false := decide_eq_false hlen2
  have hd2' : decide (300 < (ws.length : Int)) = false := decide_eq_false (by omega)
  go_enter Try.func3, Try.ntmps3
  go_wp2_with (first
      | (go_quiet (fail))
      | (at_make; refine wpList_make_full _ rfl _ _ 22 rfl w.heap.size 31 i0 (.int .u32 0) 1 Try.underlying22 hi hz0 hz1 _ _ _ _ ns.length rfl rfl (by omega) (by omega) (by rw [hz2]; omega) (by unfold maxLen; omega) (by first | exact Nat.le_refl _ | (rw [heap_drewN]; exact Nat.le_refl _)) ?_; intro w1 hown1 hg1; have hE1 : Ext w w1 := Ext.grown (by repeat (first | exact Ext.refl _ | apply Ext.drewN)) hg1 (by intro k hk; cases hk); have HO := Lib.hid hown1; clear hown1)
      | ((with_reducible show wpList _ _ _ (⟨some 28, _, _, _, _, _⟩ :: _) _ _); refine wpList_copy_full rfl (.tmp 26) (.tmp 27) 22 22 rfl 31 1 Try.underlying22 (by rw [hi]; simp [hz1]) encU encU_len encU_one w.heap.size w.heap.size _ _ ns rfl rfl HO.out (Hhrd0.out.ext hE1) ?_; intro w2 hown2 hg2; have hE2 : Ext w w2 := hE1.grown hg2 (by intro k hk; cases hk; exact Nat.le_refl _); have hrdM := rd_of_own encU_len hown2; clear hown2 hE1))
  have HE := Lib.hid hE2
  have HM := Lib.hid hrdM
  obtain ⟨aM, cM, eM, hcM, hcm⟩ := rdU_cell hrdM
  obtain ⟨rfl, -, rfl⟩ := Value.slice.inj eM
  clear HO hE2 hrdM eM hg1 hg2
  go_loopw [8] (fun i wr => ∃ t : Nat, t ≤ 2 ∧ i = .int .i64 t ∧ Ext w2 wr) (fun i _ => 2 - (intOf i).toNat)
  case atStart => exact ⟨0, by omega, rfl, Ext.refl _⟩
  case round =>
    obtain ⟨t, ht, rfl, hx⟩ := hrel
    have HX := Lib.hid hx
    by_cases hlt : t < 2
    · clear hcan hcm hx
      generalize hr : ofA ns ws o = r
      have hof := Of_calls _ _ ns ws o (by omega) hns wr (HM.out.ext HX.out) (HhvwR.out.ext (HE.out.trans HX.out))
      rw [hr] at hof
      have hof2 : ∀ wr1, Ext wr wr1 → _ := fun wr1 hx1 => refOf_calls _ _ ns ws o (by omega) hns wr1 (Hhrd0.out.ext ((HE.out.trans HX.out).trans hx1)) (HhvwR.out.ext ((HE.out.trans HX.out).trans hx1))
      rw [hr] at hof2
      have hrl : r.1.length ≤ 1000000 := by
        rw [← hr]; unfold ofA
        split
        · have := merge_len (pc o ns ws 0); have := pc_len o ns ws 0; simp only; omega
        · simp
      obtain ⟨rs, ev⟩ := r
      dsimp only at hof hof2 hrl
      have Hhof := Lib.hid hof
      clear hof
      have Hhof2 := Lib.hid hof2
      clear hof2
      have Hhr := Lib.hid hr
      clear hr
      go_wp2_with (first
        | (go_at_call 13; refine Hhof.out.mono ?_; rintro e w3 ⟨u, rfl, hx3, hq3⟩; have Hx3 := Lib.hid hx3; have Hq3 := Lib.hid hq3; clear hx3 hq3)
        | (go_at_call 14; refine (Hhof2.out _ Hx3.out).mono ?_; rintro e w4 ⟨u', rfl, hx4, hq4⟩; have Hx4 := Lib.hid hx4; have Hq4 := Lib.hid hq4; clear hx4 hq4)
        | (go_at_call 15; refine (refSame_calls _ _ rs rs (by omega) _ (Hq3.out.rd.ext Hx4.out) Hq4.out.rd).mono ?_; rw [sameL_refl]; rintro e w5 ⟨rfl, hx5⟩))
      have HX5 := Lib.hid (((HX.out.trans Hx3.out).trans Hx4.out).trans hx5)
      have hown := (Hq3.out.ext Hx4.out).ext hx5
      have hB := HX.out.size
      obtain ⟨B, hBe⟩ : ∃ B, B = wr.heap.size := ⟨_, rfl⟩
      rw [← hBe] at hB hown
      have HhBe := Lib.hid hBe
      clear hBe
      clear hx5
      obtain ⟨au, cu, rfl, -, -⟩ := rdS_cell hown.rd
      go_loopw [13] (fun i wr' => ∃ k : Nat, k ≤ rs.length ∧ i = .int .i64 k ∧ Ext w2 wr' ∧ ∃ ys : List Span, ys.length = rs.length ∧ Own wr' B (.slice au rs.length cu) ys) (fun i _ => rs.length - (intOf i).toNat)
      case atStart => exact ⟨0, by omega, rfl, HX5.out, rs, rfl, hown⟩
      case round =>
        obtain ⟨k, hk, rfl, hxk, ys, hyl, hq⟩ := hrel
        have HXk := Lib.hid hxk
        by_cases hltk : k < rs.length
        · have hpos : 0 < ys.length := by omega
          obtain ⟨ar, cr, er, -, hcr⟩ := rdS_cell hq.rd
          obtain ⟨rfl, -, rfl⟩ := Value.slice.inj er
          obtain ⟨g, og, rfl, -, -, g3⟩ := hcr k (by omega)
          have hq' := hq
          unfold Own at hq'
          rw [← hyl] at hq'
          obtain ⟨g', c', e', hgb, hgs, hfz⟩ := own_parts hq' hpos
          obtain ⟨rfl, rfl⟩ : g = g' ∧ og = 0 := by simpa using (Value.slice.inj e').1
          rw [Nat.zero_add] at g3
          have hfz1 := hfz (k * 3 + 2)
          have HQ := Lib.hid hq'
          have hkl : k < ys.length := by omega
          clear hq hq' er hcr hfz e' hxk hown
          generalize hyv : ys[k] = yv at *
          obtain ⟨ylo, yhi, ywy⟩ := yv
          dsimp only at *
          have Hhyv := Lib.hid hyv
          clear hyv
          go_wp2_with (go_quiet (fail))
          go_roundw
          case rel =>
            have hst := own_store (e := 33) encS_len HQ.out k 2 (.int .i64 (wrap64 (ywy + 1))) ⟨ylo, yhi, wrap64 (ywy + 1)⟩ hkl (by decide) (by rw [Hhyv.out]; rfl)
            exact ⟨k + 1, by omega, by go_num, Ext.setCell HXk.out (Nat.le_trans hB hgb) _, ys.set k ⟨ylo, yhi, wrap64 (ywy + 1)⟩, by rw [List.length_set]; exact hyl, by unfold Own; rw [List.length_set, ← hyl]; exact hst.1⟩
          case measure => simp [intOf]; omega
        · go_wp2
          go_roundw
          case rel => exact ⟨t + 1, by omega, by go_num, HXk.out⟩
          case measure => simp [intOf]; omega
    · go_wp2_with fail
      go_loopw [14] (fun i wr => ∃ k : Nat, k ≤ ns.length ∧ i = .int .i64 k ∧ Ext w2 wr) (fun i _ => ns.length - (intOf i).toNat)
      case atStart => exact ⟨0, by omega, rfl, HX.out⟩
      case round =>
        obtain ⟨k, hk, rfl, hx3⟩ := hrel
        by_cases hltk : k < ns.length
        · obtain ⟨b3, o3, e3, h3⟩ := hcm k hltk
          obtain ⟨b4, o4, rfl, h4⟩ := hcan k hltk
          obtain ⟨rfl, rfl⟩ : w.heap.size = b3 ∧ 0 = o3 := by simpa using e3
          replace h3 := hx3.cell h3
          replace h4 := hx3.cell (HE.out.cell h4)
          rw [Nat.zero_add] at h3
          have HX3 := Lib.hid hx3
          clear hcm hcan e3 hx3 hx
          go_wp2_with (go_quiet (fail))
          go_roundw
          case rel => exact ⟨k + 1, by omega, by go_num, HX3.out.drewN _⟩
          case measure => simp [intOf]; omega
        · go_wp2
          go_ret
          exact ⟨rfl, HE.out.trans hx3⟩
theorem dec_U {H : Type} {enc : TypeId × Value → H} {W : World} (fuel : Nat) (cs : List Value) (y : DataW H × List MemPlace) (h : DataW.trod enc Try.prog W 0 (fun _ => true) true fuel 31 cs = some y) :
    ∃ n : Nat, cs = encU n ∧ n < 4294967296 := by
  obtain ⟨a, e0, _, wa⟩ := DataW.trod_int Try.underlying31 h
  obtain ⟨n, rfl, hn⟩ := wf_u32 wa
  exact ⟨n, e0, hn⟩
def OkI (i : Int) : Prop := -9223372036854775808 ≤ i ∧ i ≤ 9223372036854775807
theorem dec_I {H : Type} {enc : TypeId × Value → H} {W : World} (fuel : Nat) (cs : List Value) (y : DataW H × List MemPlace) (h : DataW.trod enc Try.prog W 0 (fun _ => true) true fuel 3 cs = some y) :
    ∃ n : Int, cs = encI n ∧ OkI n := by
  obtain ⟨a, e0, _, wa⟩ := DataW.trod_int Try.underlying3 h
  exact ⟨a, e0, wf_i64 wa⟩
end L23
end Go.Proofs.Ytaclndhenhjjaaa
