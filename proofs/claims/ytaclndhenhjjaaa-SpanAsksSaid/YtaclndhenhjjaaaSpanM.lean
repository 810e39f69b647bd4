/- Layer 23: the law SpanAsks. -/
import Derived.Test.YtaclndhenhjjaaaSpanK
namespace Go.Proofs.Ytaclndhenhjjaaa
open Go.RowKit Go.Shelf V
namespace L23
set_option maxRecDepth 100000 in
set_option maxHeartbeats 4000000 in
theorem SpanAsks_calls (v : Value) (xs : List Span) (n : Nat) (hnl : xs.length ≤ maxLen) (hok : ∀ s ∈ xs, OkS s) (w : World) (hv : Rd w 3 encS v xs) :
    Calls Try.prog 4 #[v, .int .u32 (n : Int)] w fun e w' => e = .returned (.bool true) ∧ Ext w w' := by
  have hrd0 := hv
  obtain ⟨a, c, rfl, hac, -⟩ := rdS_cell hv
  clear hv
  have Hhrd0 := Lib.hid hrd0
  clear hrd0
  unfold maxLen at hnl
  obtain ⟨i0, hi, hz0, hz1, hz2⟩ := info_parts infoS
  by_cases hlen : 300 < xs.length
  · have hd : decide (300 < xs.length) = true := decide_eq_true hlen
    have hd' : decide (300 < (xs.length : Int)) = true := decide_eq_true (by omega)
    have Hhlen := Lib.hid hlen
    clear hlen
    go_enter Try.func4, Try.ntmps4
    go_wp2
    go_ret
    exact ⟨rfl, by repeat (first | exact Ext.refl _ | apply Ext.drewN)⟩
  have hd : decide (300 < xs.length) = false := decide_eq_false hlen
  have hd' : decide (300 < (xs.length : Int)) = false := decide_eq_false (by omega)
  generalize hwx : way xs n = wx
  obtain ⟨wx, wis⟩ := wx
  have hWay := fun v w h => Way_calls v xs n (by omega) hok w h
  have hrWay := fun v w h => refWay_calls v xs n (by omega) hok w h
  have hWh := fun v w h => Whole_calls v xs (by omega) hok w h
  have hrWh := fun v w h => refWhole_calls v xs (by omega) hok w h
  have hMd := fun v w h => Merged_calls v xs (by omega) hok w h
  have hrMd := fun v w h => refMerged_calls v xs (by omega) hok w h
  have hMg := fun v w h => Merge_calls v xs (by omega) hok w h
  have hrMg := fun v w h => refMerge_calls v xs (by omega) w h
  rw [hwx] at hWay hrWay
  have hml := merge_len xs
  have Hhwx := Lib.hid hwx
  clear hwx
  cases hwhole : whole xs
  · have hA : mergeA xs = ([], 2) := by simp [mergeA, hwhole]
    rw [hA] at hMg
    rw [hwhole] at hWh hrWh
    generalize mergedB xs = mb at *
    clear hA
    have HhMg := Lib.hid hMg
    clear hMg
    have HhrMg := Lib.hid hrMg
    clear hrMg
    have HhWay := Lib.hid hWay
    clear hWay
    have HhrWay := Lib.hid hrWay
    clear hrWay
    have HhWh := Lib.hid hWh
    clear hWh
    have HhrWh := Lib.hid hrWh
    clear hrWh
    have HhMd := Lib.hid hMd
    clear hMd
    have HhrMd := Lib.hid hrMd
    clear hrMd
    go_enter Try.func4, Try.ntmps4
    go_wp2_with (first
      | (go_at_call 20; refine (HhrWh.out _ _ (Hhrd0.out.ext (HE2.out.trans HX10.out))).mono ?_; rintro e w11 ⟨rfl, hx11⟩; have HX11 := Lib.hid (HX10.out.trans hx11); have HQ11 := Lib.hid (HQ10.out.ext hx11); clear hx11)
      | (at_make; refine wpList_make_full _ rfl _ _ 24 rfl w.heap.size 33 i0 (.agg #[.int .u32 0, .int .u32 0, .int .i64 0]) 3 Try.underlying24 hi hz0 hz1 _ _ _ _ xs.length rfl rfl (by omega) (by omega) (by rw [hz2]; omega) (by unfold maxLen; omega) (Nat.le_refl _) ?_; intro w1 hown1 hg1; have hE1 : Ext w w1 := Ext.grown (Ext.refl _) hg1 (by intro k hk; cases hk); have HO := Lib.hid hown1; clear hown1)
      | ((with_reducible show wpList _ _ _ (⟨some 20, _, _, _, _, _⟩ :: _) _ _); refine wpList_copy_full rfl (.tmp 18) (.tmp 19) 24 24 rfl 33 3 Try.underlying24 (by rw [hi]; simp [hz1]) encS encS_len encS_one w.heap.size w.heap.size _ _ xs rfl rfl HO.out (Hhrd0.out.ext hE1) ?_; intro w2 hown2 hg2; have HE2 := Lib.hid (Ext.grown hE1 hg2 (by intro k hk; cases hk; exact Nat.le_refl _)); have HM := Lib.hid (rd_of_own encS_len hown2); clear hown2 hE1)
      | (go_at_call 16; refine (HhWay.out _ _ HM.out).mono ?_; rintro e w3 ⟨rfl, hx3⟩; have HX3 := Lib.hid hx3; clear hx3)
      | (go_at_call 17; refine (HhrWay.out _ _ (Hhrd0.out.ext (HE2.out.trans HX3.out))).mono ?_; rintro e w4 ⟨rfl, hx4⟩; have HX4 := Lib.hid (HX3.out.trans hx4); clear hx4)
      | (go_at_call 18; refine (HhMg.out _ _ (HM.out.ext HX4.out)).mono ?_; rintro e w5 ⟨u, rfl, hx5, hq5⟩; obtain ⟨au, cu, rfl, -, -⟩ := rdS_cell hq5.rd; (try rw [List.length_nil] at hq5 ⊢); have HX5 := Lib.hid (HX4.out.trans hx5); have HQ := Lib.hid hq5; clear hx5 hq5)
      | (go_at_call 19; refine (HhWh.out _ _ (HM.out.ext HX5.out)).mono ?_; rintro e w6 ⟨rfl, hx6⟩; have HX6 := Lib.hid (HX5.out.trans hx6); have HQ6 := Lib.hid (HQ.out.ext hx6); clear hx6)
      | (go_at_call 20; refine (HhrWh.out _ _ (Hhrd0.out.ext (HE2.out.trans HX6.out))).mono ?_; rintro e w7 ⟨rfl, hx7⟩; have HX7 := Lib.hid (HX6.out.trans hx7); have HQ7 := Lib.hid (HQ6.out.ext hx7); clear hx7)
      | (go_at_call 21; refine (HhMd.out _ _ (HM.out.ext HX7.out)).mono ?_; rintro e w8 ⟨rfl, hx8⟩; have HX8 := Lib.hid (HX7.out.trans hx8); have HQ8 := Lib.hid (HQ7.out.ext hx8); clear hx8)
      | (go_at_call 22; refine (HhrMd.out _ _ (Hhrd0.out.ext (HE2.out.trans HX8.out))).mono ?_; rintro e w9 ⟨rfl, hx9⟩; have HX9 := Lib.hid (HX8.out.trans hx9); have HQ9 := Lib.hid (HQ8.out.ext hx9); clear hx9)
      | (go_at_call 15; refine (refSame_calls _ _ xs xs (by omega) _ (HM.out.ext HX9.out) (Hhrd0.out.ext (HE2.out.trans HX9.out))).mono ?_; rw [sameL_refl]; rintro e w10 ⟨rfl, hx10⟩; have HX10 := Lib.hid (HX9.out.trans hx10); have HQ10 := Lib.hid (HQ9.out.ext hx10); clear hx10))
    go_ret
    exact ⟨rfl, HE2.out.trans HX11.out⟩
  · have hA : mergeA xs = (merge xs, 0) := by simp [mergeA, hwhole]
    rw [hA] at hMg
    rw [hwhole] at hWh hrWh
    generalize mergedB xs = mb at *
    generalize merge xs = ms at *
    clear hA
    have HhMg := Lib.hid hMg
    clear hMg
    have HhrMg := Lib.hid hrMg
    clear hrMg
    have HhWay := Lib.hid hWay
    clear hWay
    have HhrWay := Lib.hid hrWay
    clear hrWay
    have HhWh := Lib.hid hWh
    clear hWh
    have HhrWh := Lib.hid hrWh
    clear hrWh
    have HhMd := Lib.hid hMd
    clear hMd
    have HhrMd := Lib.hid hrMd
    clear hrMd
    go_enter Try.func4, Try.ntmps4
    go_wp2_with (first
      | (go_at_call 20; refine (HhrWh.out _ _ (Hhrd0.out.ext (HE2.out.trans HX10.out))).mono ?_; rintro e w11 ⟨rfl, hx11⟩; have HX11 := Lib.hid (HX10.out.trans hx11); have HQ11 := Lib.hid (HQ10.out.ext hx11); clear hx11)
      | (at_make; refine wpList_make_full _ rfl _ _ 24 rfl w.heap.size 33 i0 (.agg #[.int .u32 0, .int .u32 0, .int .i64 0]) 3 Try.underlying24 hi hz0 hz1 _ _ _ _ xs.length rfl rfl (by omega) (by omega) (by rw [hz2]; omega) (by unfold maxLen; omega) (Nat.le_refl _) ?_; intro w1 hown1 hg1; have hE1 : Ext w w1 := Ext.grown (Ext.refl _) hg1 (by intro k hk; cases hk); have HO := Lib.hid hown1; clear hown1)
      | ((with_reducible show wpList _ _ _ (⟨some 20, _, _, _, _, _⟩ :: _) _ _); refine wpList_copy_full rfl (.tmp 18) (.tmp 19) 24 24 rfl 33 3 Try.underlying24 (by rw [hi]; simp [hz1]) encS encS_len encS_one w.heap.size w.heap.size _ _ xs rfl rfl HO.out (Hhrd0.out.ext hE1) ?_; intro w2 hown2 hg2; have HE2 := Lib.hid (Ext.grown hE1 hg2 (by intro k hk; cases hk; exact Nat.le_refl _)); have HM := Lib.hid (rd_of_own encS_len hown2); clear hown2 hE1)
      | (go_at_call 16; refine (HhWay.out _ _ HM.out).mono ?_; rintro e w3 ⟨rfl, hx3⟩; have HX3 := Lib.hid hx3; clear hx3)
      | (go_at_call 17; refine (HhrWay.out _ _ (Hhrd0.out.ext (HE2.out.trans HX3.out))).mono ?_; rintro e w4 ⟨rfl, hx4⟩; have HX4 := Lib.hid (HX3.out.trans hx4); clear hx4)
      | (go_at_call 18; refine (HhMg.out _ _ (HM.out.ext HX4.out)).mono ?_; rintro e w5 ⟨u, rfl, hx5, hq5⟩; obtain ⟨au, cu, rfl, -, -⟩ := rdS_cell hq5.rd; (try rw [List.length_nil] at hq5 ⊢); have HX5 := Lib.hid (HX4.out.trans hx5); have HQ := Lib.hid hq5; clear hx5 hq5)
      | (go_at_call 19; refine (HhWh.out _ _ (HM.out.ext HX5.out)).mono ?_; rintro e w6 ⟨rfl, hx6⟩; have HX6 := Lib.hid (HX5.out.trans hx6); have HQ6 := Lib.hid (HQ.out.ext hx6); clear hx6)
      | (go_at_call 20; refine (HhrWh.out _ _ (Hhrd0.out.ext (HE2.out.trans HX6.out))).mono ?_; rintro e w7 ⟨rfl, hx7⟩; have HX7 := Lib.hid (HX6.out.trans hx7); have HQ7 := Lib.hid (HQ6.out.ext hx7); clear hx7)
      | (go_at_call 21; refine (HhMd.out _ _ (HM.out.ext HX7.out)).mono ?_; rintro e w8 ⟨rfl, hx8⟩; have HX8 := Lib.hid (HX7.out.trans hx8); have HQ8 := Lib.hid (HQ7.out.ext hx8); clear hx8)
      | (go_at_call 22; refine (HhrMd.out _ _ (Hhrd0.out.ext (HE2.out.trans HX8.out))).mono ?_; rintro e w9 ⟨rfl, hx9⟩; have HX9 := Lib.hid (HX8.out.trans hx9); have HQ9 := Lib.hid (HQ8.out.ext hx9); clear hx9)
      | (go_at_call 15; refine (refSame_calls _ _ ms ms (by omega) _ HQ12.out.rd HR12.out.rd).mono ?_; rw [sameL_refl]; rintro e w13 ⟨rfl, hx13⟩; have HX13 := Lib.hid (HX12.out.trans hx13); clear hx13)
      | (go_at_call 15; refine (refSame_calls _ _ xs xs (by omega) _ (HM.out.ext HX9.out) (Hhrd0.out.ext (HE2.out.trans HX9.out))).mono ?_; rw [sameL_refl]; rintro e w10 ⟨rfl, hx10⟩; have HX10 := Lib.hid (HX9.out.trans hx10); have HQ10 := Lib.hid (HQ9.out.ext hx10); clear hx10)
      | (go_at_call 23; refine (HhrMg.out _ _ (Hhrd0.out.ext (HE2.out.trans HX11.out))).mono ?_; rintro e w12 ⟨u', rfl, hx12, hq12⟩; have HX12 := Lib.hid (HX11.out.trans hx12); have HQ12 := Lib.hid (HQ11.out.ext hx12); have HR12 := Lib.hid hq12; clear hx12 hq12))
    go_ret
    exact ⟨rfl, HE2.out.trans HX13.out⟩
end L23
end Go.Proofs.Ytaclndhenhjjaaa
