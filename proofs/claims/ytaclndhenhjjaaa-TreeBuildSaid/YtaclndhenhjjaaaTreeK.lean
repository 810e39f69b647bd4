/- Layer 24: the law TreeBuild. -/
import Derived.Test.YtaclndhenhjjaaaTreeG
import Derived.Test.YtaclndhenhjjaaaTreeF
namespace Go.Proofs.Ytaclndhenhjjaaa
open Go.RowKit V
namespace L24
open L23
set_option maxRecDepth 100000 in
set_option maxHeartbeats 2000000 in
theorem TreeBuild_calls (v : Value) (l : List Span) (hnl : l.length ≤ maxLen) (hok : ∀ s ∈ l, OkS s) (w : World) (hv : Rd w 3 encS v l) :
    Calls Try.prog 8 #[v] w fun e w' => e = .returned (.bool true) ∧ Ext w w' := by
  have hrd0 := hv
  obtain ⟨a, c, rfl, hac, -⟩ := rdS_cell hv
  clear hv
  have Hhrd0 := Lib.hid hrd0
  clear hrd0
  unfold maxLen at hnl
  obtain ⟨i0, hi, hz0, hz1, hz2⟩ := info_parts infoS
  by_cases hlen : 300 < l.length
  · have hd : decide (300 < l.length) = true := decide_eq_true hlen
    have hd' : decide (300 < (l.length : Int)) = true := decide_eq_true (by omega)
    have Hhlen := Lib.hid hlen
    clear hlen
    go_enter Try.func8, Try.ntmps8
    go_wp2
    go_ret
    exact ⟨rfl, Ext.refl _⟩
  have hd : decide (300 < l.length) = false := decide_eq_false hlen
  have hd' : decide (300 < (l.length : Int)) = false := decide_eq_false (by omega)
  have hll : l.length ≤ 300 := by omega
  have hB := fun v w1 (h : Rd w1 3 encS v l) => Build_calls v l (by omega) hok w1 h
  have hB2 := fun v w1 (h : Rd w1 3 encS v l) => refBuild_calls v l (by omega) hok w1 h
  have hrl : (buildA l).1.length ≤ 1000 := by
    unfold buildA
    split
    · have := tre_len l (whole_pos (by assumption)) 0; simp only; omega
    · simp
  generalize buildA l = r at *
  obtain ⟨ts, ev⟩ := r
  dsimp only at hB hB2 hrl
  have HhB := Lib.hid hB
  clear hB
  have HhB2 := Lib.hid hB2
  clear hB2
  have Hhok := Lib.hid hok
  clear hok
  go_enter Try.func8, Try.ntmps8
  go_wp2_with (first
      | (at_make; refine wpList_make_full _ rfl _ _ 24 rfl w.heap.size 33 i0 (.agg #[.int .u32 0, .int .u32 0, .int .i64 0]) 3 Try.underlying24 hi hz0 hz1 _ _ _ _ l.length rfl rfl (by omega) (by omega) (by rw [hz2]; omega) (by unfold maxLen; omega) (Nat.le_refl _) ?_; intro w1 hown1 hg1; have hE1 : Ext w w1 := Ext.grown (Ext.refl _) hg1 (by intro k hk; cases hk); have HO := Lib.hid hown1; clear hown1)
      | ((with_reducible show wpList _ _ _ (⟨some 18, _, _, _, _, _⟩ :: _) _ _); refine wpList_copy_full rfl (.tmp 16) (.tmp 17) 24 24 rfl 33 3 Try.underlying24 (by rw [hi]; simp [hz1]) encS encS_len encS_one w.heap.size w.heap.size _ _ l rfl rfl HO.out (Hhrd0.out.ext hE1) ?_; intro w2 hown2 hg2; have HE2 := Lib.hid (Ext.grown hE1 hg2 (by intro k hk; cases hk; exact Nat.le_refl _)); have HM := Lib.hid (rd_of_own encS_len hown2); clear hown2 hE1))
  clear HO hg1 hg2
  go_loopw [4] (fun i wr => ∃ t : Nat, t ≤ 2 ∧ i = .int .i64 t ∧ Ext w2 wr) (fun i _ => 2 - (intOf i).toNat)
  case atStart => exact ⟨0, by omega, rfl, Ext.refl _⟩
  case round =>
    obtain ⟨t, ht, rfl, hx⟩ := hrel
    have HX := Lib.hid hx
    by_cases hlt : t < 2
    · clear hx
      go_wp2_with (first
        | (go_at_call 25; refine (HhB.out _ _ (HM.out.ext HX.out)).mono ?_; rintro e w3 ⟨u, rfl, hx3, hq3⟩; obtain ⟨au, cu, rfl, -⟩ := rdN_cell hq3.rd; have Hx3 := Lib.hid hx3; have Hq3 := Lib.hid hq3; clear hx3 hq3)
        | (go_at_call 26; refine (HhB2.out _ _ (Hhrd0.out.ext ((HE2.out.trans HX.out).trans Hx3.out))).mono ?_; rintro e w4 ⟨u', rfl, hx4, hq4⟩; have Hx4 := Lib.hid hx4; have Hq4 := Lib.hid hq4; clear hx4 hq4)
        | (go_at_call 27; refine (refSameN_calls _ _ ts (by omega) _ (Hq3.out.rd.ext Hx4.out) Hq4.out.rd).mono ?_; rintro e w5 ⟨rfl, hx5⟩))
      have HX5 := Lib.hid (((HX.out.trans Hx3.out).trans Hx4.out).trans hx5)
      have hown := (Hq3.out.ext Hx4.out).ext hx5
      have hB := HX.out.size
      obtain ⟨B, hBe⟩ : ∃ B, B = wr.heap.size := ⟨_, rfl⟩
      rw [← hBe] at hB hown
      have HhBe := Lib.hid hBe
      clear hBe
      clear hx5
      go_loopw [9] (fun i wr' => ∃ k : Nat, k ≤ ts.length ∧ i = .int .i64 k ∧ Ext w2 wr' ∧ ∃ ys : List Node, ys.length = ts.length ∧ OwnN wr' B (.slice au ts.length cu) ys) (fun i _ => ts.length - (intOf i).toNat)
      case atStart => exact ⟨0, by omega, rfl, HX5.out, ts, rfl, hown⟩
      case round =>
        obtain ⟨k, hk, rfl, hxk, ys, hyl, hq⟩ := hrel
        have HXk := Lib.hid hxk
        by_cases hltk : k < ts.length
        · have hpos : 0 < ys.length := by omega
          obtain ⟨ar, cr, er, -, hcr⟩ := rdN_cell hq.rd
          obtain ⟨rfl, -, rfl⟩ := Value.slice.inj er
          obtain ⟨g, og, rfl, -, g2, -, -, -⟩ := hcr k (by omega)
          have hq' := hq
          unfold OwnN at hq'
          rw [← hyl] at hq'
          obtain ⟨g', c', e', hgb, hgs, hfz⟩ := own_parts hq' hpos
          obtain ⟨rfl, rfl⟩ : g = g' ∧ og = 0 := by simpa using (Value.slice.inj e').1
          rw [Nat.zero_add] at g2
          have hfz1 := hfz (k * 5 + 1)
          have HQ := Lib.hid hq'
          have hkl : k < ys.length := by omega
          clear hq hq' er hcr hfz e' hxk hown
          generalize hyv : ys[k] = yv at *
          obtain ⟨ylf, ywy, yat, yls, ymr⟩ := yv
          dsimp only at *
          have Hhyv := Lib.hid hyv
          clear hyv
          go_wp2
          go_roundw
          case rel =>
            have hst := own_store (e := 51) encN_len HQ.out k 1 (.int .i64 (wrap64 (ywy + 1))) ⟨ylf, wrap64 (ywy + 1), yat, yls, ymr⟩ hkl (by decide) (by rw [Hhyv.out]; rfl)
            exact ⟨k + 1, by omega, by go_num, Ext.setCell HXk.out (Nat.le_trans hB hgb) _, ys.set k ⟨ylf, wrap64 (ywy + 1), yat, yls, ymr⟩, by rw [List.length_set]; exact hyl, by unfold OwnN; rw [List.length_set, ← hyl]; exact hst.1⟩
          case measure => simp [intOf]; omega
        · clear hq hxk hown
          go_wp2
          go_roundw
          case rel => exact ⟨t + 1, by omega, by go_num, HXk.out⟩
          case measure => simp [intOf]; omega
    · clear hx
      go_wp2
      go_ret
      exact ⟨rfl, HE2.out.trans HX.out⟩
end L24
end Go.Proofs.Ytaclndhenhjjaaa
