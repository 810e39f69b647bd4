/- Layer 23: the law SpanMerges. -/
import Derived.Test.YtaclndhenhjjaaaSpanN
import Derived.Test.YtaclndhenhjjaaaSpanP
namespace Go.Proofs.Ytaclndhenhjjaaa
open Go.RowKit Go.Shelf V
namespace L23
set_option maxRecDepth 100000 in
set_option maxHeartbeats 1000000 in
theorem SpanMerges_calls (v : Value) (xs : List Span) (n : Nat) (hnl : xs.length ≤ maxLen) (hok : ∀ s ∈ xs, OkS s) (hn : n < 4294967296) (w : World) (hv : Rd w 3 encS v xs) :
    Calls Try.prog 7 #[v, .int .u32 (n : Int)] w fun e w' => e = .returned (.bool true) ∧ Ext w w' := by
  have hrd0 := hv
  obtain ⟨a, c, rfl, hac, -⟩ := rdS_cell hv
  clear hv
  have Hhrd0 := Lib.hid hrd0
  clear hrd0
  unfold maxLen at hnl
  by_cases hlen : 300 < xs.length
  · have hd : decide (300 < xs.length) = true := decide_eq_true hlen
    have hd' : decide (300 < (xs.length : Int)) = true := decide_eq_true (by omega)
    have Hhlen := Lib.hid hlen
    clear hlen
    go_enter Try.func7, Try.ntmps7
    go_wp2_with (go_at_call 24; refine (awake_calls _).mono ?_; rintro e w1 ⟨rfl, hx1⟩)
    go_ret
    exact ⟨rfl, hx1⟩
  have hd : decide (300 < xs.length) = false := decide_eq_false hlen
  have hd' : decide (300 < (xs.length : Int)) = false := decide_eq_false (by omega)
  have hMg := fun w1 (hx : Ext w w1) => Merge_calls _ xs (by omega) hok w1 (Hhrd0.out.ext hx)
  have hWh := fun w1 (hx : Ext w w1) => Whole_calls _ xs (by omega) hok w1 (Hhrd0.out.ext hx)
  cases hwh : whole xs
  case false =>
    have hA : mergeA xs = ([], 2) := by unfold mergeA; rw [hwh]; rfl
    rw [hA] at hMg
    rw [hwh] at hWh
    have HhMg := Lib.hid hMg
    clear hMg
    have HhWh := Lib.hid hWh
    clear hWh
    have HhA := Lib.hid hA
    clear hA
    have Hhwh := Lib.hid hwh
    clear hwh
    go_enter Try.func7, Try.ntmps7
    go_wp2_with (first
      | (go_at_call 24; refine (awake_calls _).mono ?_; rintro e w1 ⟨rfl, hx1⟩)
      | (go_at_call 18; refine (HhMg.out _ hx1).mono ?_; rintro e w2 ⟨u, rfl, hx2, hq⟩; obtain ⟨au, cu, rfl, -, -⟩ := rdS_cell hq.rd; clear hq)
      | (go_at_call 19; refine (HhWh.out _ (hx1.trans hx2)).mono ?_; rintro e w3 ⟨rfl, hx3⟩))
    go_ret
    exact ⟨rfl, (hx1.trans hx2).trans hx3⟩
  have hA : mergeA xs = (merge xs, 0) := by unfold mergeA; rw [hwh]; rfl
  have hA2 : mergeA (merge xs) = (merge xs, 0) := by unfold mergeA; rw [whole_merge hwh, merge_merge]; rfl
  have hmd := merged_merge hwh
  have hml := merge_len xs
  have hwm := way_merge hwh n
  have hwf : (way xs n).2 = true := way_found ((whole_iff _).1 hwh) (Nat.zero_le _) hn
  have hmok := merge_ok hok
  rw [hA] at hMg
  dsimp only at hMg
  have hMg2 := fun v w1 (h : Rd w1 3 encS v (merge xs)) => Merge_calls v (merge xs) (by omega) hmok w1 h
  rw [hA2] at hMg2
  dsimp only at hMg2
  have hMd := fun v w1 (h : Rd w1 3 encS v (merge xs)) => Merged_calls v (merge xs) (by omega) hmok w1 h
  rw [hmd] at hMd
  have hW1 := fun w1 (hx : Ext w w1) => Way_calls _ xs n (by omega) hok w1 (Hhrd0.out.ext hx)
  have hW2 := fun v w1 (h : Rd w1 3 encS v (merge xs)) => Way_calls v (merge xs) n (by omega) hmok w1 h
  rw [hwm] at hW2
  generalize hmx : merge xs = ms at *
  generalize way xs n = wx at *
  obtain ⟨wx, wis⟩ := wx
  dsimp only at hwf hW1 hW2
  subst hwf
  have hd2 : decide ((xs.length : Int) < (ms.length : Int)) = false := decide_eq_false (by omega)
  have hd3 : decide (xs.length < ms.length) = false := decide_eq_false (by omega)
  clear hWh hA hA2 hmd hwm
  have HhMg := Lib.hid hMg
  clear hMg
  have HhMg2 := Lib.hid hMg2
  clear hMg2
  have HhMd := Lib.hid hMd
  clear hMd
  have HhW1 := Lib.hid hW1
  clear hW1
  have HhW2 := Lib.hid hW2
  clear hW2
  have Hhmx := Lib.hid hmx
  clear hmx
  have Hhwh := Lib.hid hwh
  clear hwh
  have Hhmok := Lib.hid hmok
  clear hmok
  go_enter Try.func7, Try.ntmps7
  go_wp2_with (first
      | (go_at_call 24; refine (awake_calls _).mono ?_; rintro e w1 ⟨rfl, hx1⟩)
      | (go_at_call 18; (with_reducible refine (HhMg2.out _ _ HQ.out.rd).mono ?_); rintro e w3 ⟨u, rfl, hx3, hq⟩; have HR := Lib.hid hq; obtain ⟨au2, cu2, rfl, -, -⟩ := rdS_cell hq.rd; have HQ3 := Lib.hid (HQ.out.ext hx3); have HX3 := Lib.hid (HX2.out.trans hx3); clear hq hx3)
      | (go_at_call 18; refine (HhMg.out _ hx1).mono ?_; rintro e w2 ⟨u, rfl, hx2, hq⟩; have HQ := Lib.hid hq; obtain ⟨au, cu, rfl, -, -⟩ := rdS_cell hq.rd; have HX2 := Lib.hid (hx1.trans hx2); clear hq hx1 hx2)
      | (go_at_call 21; refine (HhMd.out _ _ HQ3.out.rd).mono ?_; rintro e w4 ⟨rfl, hx4⟩)
      | (go_quiet (fail)))
  have HX4 := Lib.hid (HX3.out.trans hx4)
  have HQ4 := Lib.hid (HQ3.out.ext hx4)
  have HR4 := Lib.hid (HR.out.ext hx4)
  clear hx4
  have hq1 := HQ4.out.rd
  have hq2 := HR4.out.rd
  obtain ⟨a1, c1, e1, -, hc1⟩ := rdS_cell hq1
  obtain ⟨a2, c2, e2, -, hc2⟩ := rdS_cell hq2
  obtain ⟨rfl, -, rfl⟩ := Value.slice.inj e1
  obtain ⟨rfl, -, rfl⟩ := Value.slice.inj e2
  clear hq1 hq2 e1 e2
  go_loopw [9] (fun i wr => ∃ k : Nat, k ≤ ms.length ∧ i = .int .i64 k ∧ Ext w4 wr) (fun i _ => ms.length - (intOf i).toNat)
  case atStart => exact ⟨0, by omega, rfl, Ext.refl _⟩
  case round =>
    obtain ⟨k, hk, rfl, hx⟩ := hrel
    have HX := Lib.hid (HX4.out.trans hx)
    have HY := Lib.hid hx
    by_cases hlt : k < ms.length
    · obtain ⟨b1, o1, rfl, f1, f2, f3⟩ := hc1 k hlt
      obtain ⟨b2, o2, rfl, g1, g2, g3⟩ := hc2 k hlt
      replace f1 := hx.cell f1; replace f2 := hx.cell f2; replace f3 := hx.cell f3
      replace g1 := hx.cell g1; replace g2 := hx.cell g2; replace g3 := hx.cell g3
      clear hc1 hc2 hx
      generalize ms[k] = s at *
      have hq := run_neqS s s
      rw [sameS_refl] at hq
      have hg := hgS
      go_wp2_with (go_quiet (fail))
      go_roundw
      case rel => exact ⟨k + 1, by omega, by go_num, HY.out.drewN _⟩
      case measure => simp [intOf]; omega
    · obtain rfl : k = ms.length := by omega
      clear hc1 hc2 hx
      go_wp2_with (first
        | (go_at_call 16; (with_reducible refine (HhW2.out _ _ (HQ4.out.rd.ext (HY.out.trans hx5))).mono ?_); rintro e w6 ⟨rfl, hx6⟩)
        | (go_at_call 16; refine (HhW1.out _ HX.out).mono ?_; rintro e w5 ⟨rfl, hx5⟩)
        | (go_quiet (fail)))
      go_ret
      exact ⟨by simp, (HX.out.trans hx5).trans hx6⟩
end L23
end Go.Proofs.Ytaclndhenhjjaaa
