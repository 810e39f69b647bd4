/- Layer 23: the law SpanOnce. -/
import Derived.Deep.RegionLaw
import Derived.Test.YtaclndhenhjjaaaApp
import Derived.Test.YtaclndhenhjjaaaSpanN
import Derived.Test.YtaclndhenhjjaaaSpanP
namespace Go.Proofs.Ytaclndhenhjjaaa
open Go.RowKit Go.Shelf V
namespace L23
set_option maxRecDepth 100000 in
set_option maxHeartbeats 1000000 in
theorem SpanOnce_calls (v : Value) (xs : List Span) (i : Int) (at_ : Nat) (hnl : xs.length ≤ maxLen) (hok : ∀ s ∈ xs, OkS s) (hi1 : -9223372036854775808 ≤ i) (hi2 : i ≤ 9223372036854775807) (hat : at_ < 4294967296) (w : World) (hv : Rd w 3 encS v xs) :
    Calls Try.prog 6 #[v, .int .i64 i, .int .u32 (at_ : Int)] w fun e w' => e = .returned (.bool true) ∧ Ext w w' := by
  have hrd0 := hv
  obtain ⟨a, c, rfl, hac, hca⟩ := rdS_cell hv
  clear hv
  have Hhrd0 := Lib.hid hrd0
  clear hrd0
  unfold maxLen at hnl
  by_cases hlen : 300 < xs.length
  · have hd : decide (300 < xs.length) = true := decide_eq_true hlen
    have hd' : decide (300 < (xs.length : Int)) = true := decide_eq_true (by omega)
    have Hhlen := Lib.hid hlen
    clear hlen
    clear hca
    go_enter Try.func6, Try.ntmps6
    go_wp2_with (first
      | (go_at_call 24; refine (awake_calls _).mono ?_; rintro e w1 ⟨rfl, hx1⟩)
      | (go_quiet (fail)))
    go_ret
    exact ⟨rfl, hx1⟩
  have hd : decide (300 < xs.length) = false := decide_eq_false hlen
  have hd' : decide (300 < (xs.length : Int)) = false := decide_eq_false (by omega)
  by_cases hi0 : i < 0
  · have hd2 : decide (i < 0) = true := decide_eq_true hi0
    have Hhlen := Lib.hid hlen
    clear hlen
    clear hca
    go_enter Try.func6, Try.ntmps6
    go_wp2_with (first
      | (go_at_call 24; refine (awake_calls _).mono ?_; rintro e w1 ⟨rfl, hx1⟩)
      | (go_quiet (fail)))
    go_ret
    exact ⟨rfl, hx1⟩
  obtain ⟨i, rfl⟩ := Int.eq_ofNat_of_zero_le (by omega : 0 ≤ i)
  have hd2 : decide ((i : Int) < 0) = false := decide_eq_false (by omega)
  by_cases hil : xs.length ≤ i
  · have hd3 : decide (xs.length ≤ i) = true := decide_eq_true hil
    have hd3' : decide ((xs.length : Int) ≤ (i : Int)) = true := decide_eq_true (by omega)
    have Hhlen := Lib.hid hlen
    clear hlen
    clear hca
    go_enter Try.func6, Try.ntmps6
    go_wp2_with (first
      | (go_at_call 24; refine (awake_calls _).mono ?_; rintro e w1 ⟨rfl, hx1⟩)
      | (go_quiet (fail)))
    go_ret
    exact ⟨rfl, hx1⟩
  have hlt : i < xs.length := by omega
  have hd3 : decide (xs.length ≤ i) = false := decide_eq_false hil
  have hd3' : decide ((xs.length : Int) ≤ (i : Int)) = false := decide_eq_false (by omega)
  obtain ⟨b, o, rfl, f1, f2, f3⟩ := hca i hlt
  clear hca
  by_cases h1 : at_ ≤ xs[i].lo
  · have hd4 : decide ((at_ : Int) ≤ (xs[i].lo : Int)) = true := decide_eq_true (by omega)
    have hd4' : decide (at_ ≤ xs[i].lo) = true := decide_eq_true h1
    have Hhlen := Lib.hid hlen
    clear hlen
    have Hh1 := Lib.hid h1
    clear h1
    clear f2 f3
    generalize xs[i].lo = lo at *
    go_enter Try.func6, Try.ntmps6
    go_wp2_with (first
      | (go_at_call 24; refine (awake_calls _).mono ?_; rintro e w1 ⟨rfl, hx1⟩; replace f1 := hx1.cell f1)
      | (go_quiet (fail)))
    go_ret
    exact ⟨rfl, by repeat (first | exact hx1 | apply Ext.drewN)⟩
  have hd4 : decide ((at_ : Int) ≤ (xs[i].lo : Int)) = false := decide_eq_false (by omega)
  have hd4' : decide (at_ ≤ xs[i].lo) = false := decide_eq_false h1
  by_cases h2 : xs[i].hi < at_
  · have hd5 : decide ((xs[i].hi : Int) < (at_ : Int)) = true := decide_eq_true (by omega)
    have hd5' : decide (xs[i].hi < at_) = true := decide_eq_true h2
    have Hhlen := Lib.hid hlen
    clear hlen
    have Hh1 := Lib.hid h1
    clear h1
    have Hh2 := Lib.hid h2
    clear h2
    clear f3
    generalize xs[i].lo = lo at *
    generalize xs[i].hi = hi at *
    go_enter Try.func6, Try.ntmps6
    go_wp2_with (first
      | (go_at_call 24; refine (awake_calls _).mono ?_; rintro e w1 ⟨rfl, hx1⟩; replace f1 := hx1.cell f1; replace f2 := hx1.cell f2)
      | (go_quiet (fail)))
    go_ret
    exact ⟨rfl, by repeat (first | exact hx1 | apply Ext.drewN)⟩
  have hd5 : decide ((xs[i].hi : Int) < (at_ : Int)) = false := decide_eq_false (by omega)
  have hd5' : decide (xs[i].hi < at_) = false := decide_eq_false h2
  have hcw := whole_cut (xs := xs) (i := i) (at_ := at_) hlt (by omega) (by omega)
  have hcm := merge_cut (xs := xs) (i := i) (at_ := at_) hlt
  have hcd := merged_cut (xs := xs) (i := i) (at_ := at_) hlt
  have hoi := hok _ (List.getElem_mem hlt)
  have hcok : ∀ s ∈ cutAt xs i at_ xs[i], OkS s := by
    intro s hs
    unfold cutAt at hs
    rcases List.mem_append.1 hs with hs | hs
    · rcases List.mem_append.1 hs with hs | hs
      · exact hok s (List.mem_of_mem_take hs)
      · simp at hs
        rcases hs with rfl | rfl
        · exact ⟨hoi.l, by dsimp only; omega, hoi.a, hoi.b⟩
        · exact ⟨hat, hoi.h, hoi.a, hoi.b⟩
    · exact hok s (List.mem_of_mem_drop hs)
  have hclen : (cutAt xs i at_ xs[i]).length = xs.length + 1 := by unfold cutAt; simp; omega
  have hcut : cutAt xs i at_ xs[i] = xs.take i ++ [⟨xs[i].lo, at_ - 1, xs[i].way⟩, ⟨at_, xs[i].hi, xs[i].way⟩] ++ xs.drop (i + 1) := rfl
  obtain ⟨j, hj⟩ : ∃ j, j = at_ - 1 := ⟨_, rfl⟩
  have hj' : (at_ : Int) - 1 = (j : Int) := by omega
  rw [← hj] at hcut
  generalize hcv : cutAt xs i at_ xs[i] = cut at *
  have hjl : j < 4294967296 := by omega
  have hlol := hoi.l
  have hhil := hoi.h
  generalize hlo : xs[i].lo = lo at *
  generalize hhi : xs[i].hi = hi at *
  generalize hwy : xs[i].way = wy at *
  have hmE : mergeA cut = mergeA xs := by unfold mergeA; rw [hcw, hcm]
  have hMg := fun w1 (hx : Ext w w1) => Merge_calls _ xs (by omega) hok w1 (Hhrd0.out.ext hx)
  have hWh := fun w1 (hx : Ext w w1) => Whole_calls _ xs (by omega) hok w1 (Hhrd0.out.ext hx)
  have hMg2 := fun v w1 (h : Rd w1 3 encS v cut) => Merge_calls v cut (by omega) hcok w1 h
  have hWh2 := fun v w1 (h : Rd w1 3 encS v cut) => Whole_calls v cut (by omega) hcok w1 h
  have hMd2 := fun v w1 (h : Rd w1 3 encS v cut) => Merged_calls v cut (by omega) hcok w1 h
  rw [hmE] at hMg2
  rw [hcw] at hWh2
  rw [hcd] at hMd2
  generalize whole xs = wh at *
  have hmal : (mergeA xs).1.length ≤ xs.length := by unfold mergeA; split; exact merge_len xs; simp
  generalize mergeA xs = ma at *
  obtain ⟨ms, ev⟩ := ma
  dsimp only at hMg hMg2 hmal
  obtain ⟨i0, hi0', hz0, hz1, hz2⟩ := info_parts infoS
  have fo1 := f1
  have fo2 := f2
  have fo3 := f3
  have Hfo1 := Lib.hid fo1
  clear fo1
  have Hfo2 := Lib.hid fo2
  clear fo2
  have Hfo3 := Lib.hid fo3
  clear fo3
  have hel : ([] : List Span).length + (xs.take i).length = i := by rw [List.length_take, List.length_nil]; omega
  have hel2 : (xs.take i).length = i := by rw [List.length_take]; omega
  have hel3 : (xs.take i).length + [(⟨lo, j, wy⟩ : Span), ⟨at_, hi, wy⟩].length = i + 2 := by rw [hel2]; rfl
  have hel4 : (xs.take i ++ [(⟨lo, j, wy⟩ : Span), ⟨at_, hi, wy⟩]).length = i + 2 := by rw [List.length_append, hel2]; rfl
  have hel5 : (xs.take i ++ [(⟨lo, j, wy⟩ : Span), ⟨at_, hi, wy⟩]).length + (xs.drop (i + 1)).length = cut.length := by rw [hel4, List.length_drop, hclen]; omega
  have hwj : IntKind.u32.wrap (j : Int) = (j : Int) := IntWalk.u32_in _ (by omega)
  obtain ⟨A, hsl, hsA, hsN⟩ := run_slice_from (P := Try.prog) Try.underlying24 (by kernel_rfl) (n := 3) (by rw [hi0']; simp [hz1]) (some ⟨b, o, none⟩) xs.length c (i + 1) (by omega)
  replace hsl := hsl ((i : Int) + 1) (by omega)
  have hA3 : ∀ W, Rd W 3 encS (.slice (some ⟨b, o, none⟩) xs.length c) xs → Rd W 3 encS (.slice A (xs.length - (i + 1)) (c - (i + 1))) (xs.drop (i + 1)) := fun _ h => h.drop (by omega) (fun h => hsA (by omega)) (fun h => by have := hsN h; cases this) (by omega)
  have HhA3 := Lib.hid hA3
  clear hA3
  clear hsA hsN
  have hb1 : (0 : Int) ≤ (i : Int) := by omega
  have hb2 : (i : Int) < (xs.length : Int) := by omega
  have Hhcut := Lib.hid hcut
  clear hcut
  have Hhcv := Lib.hid hcv
  clear hcv
  have Hhlo := Lib.hid hlo
  clear hlo
  have Hhhi := Lib.hid hhi
  clear hhi
  have Hhwy := Lib.hid hwy
  clear hwy
  have Hhcw := Lib.hid hcw
  clear hcw
  have Hhcm := Lib.hid hcm
  clear hcm
  have Hhcd := Lib.hid hcd
  clear hcd
  have Hhclen := Lib.hid hclen
  clear hclen
  have HhmE := Lib.hid hmE
  clear hmE
  have Hhj := Lib.hid hj
  clear hj
  have Hhoi := Lib.hid hoi
  clear hoi
  have Hhok := Lib.hid hok
  clear hok
  have Hhcok := Lib.hid hcok
  clear hcok
  have HhMg := Lib.hid hMg
  clear hMg
  have HhMg2 := Lib.hid hMg2
  clear hMg2
  have HhWh := Lib.hid hWh
  clear hWh
  have HhWh2 := Lib.hid hWh2
  clear hWh2
  have HhMd2 := Lib.hid hMd2
  clear hMd2
  go_enter Try.func6, Try.ntmps6
  go_wp2_with (first
      | (go_at_call 24; refine (awake_calls _).mono ?_; rintro e w1 ⟨rfl, hx1⟩; have HX1 := Lib.hid hx1; replace f1 := hx1.cell f1; replace f2 := hx1.cell f2; replace f3 := hx1.cell f3; clear hx1)
      | (go_quiet (fail))
      | (at_make; refine wpList_make_room rfl _ _ _ rfl Try.underlying24 infoS w _ _ _ (xs.length + 1) rfl rfl (by omega) (by omega) (by unfold maxLen; omega) (by repeat (first | exact HX1.out | apply Ext.drewN)) ?_; intro w2 ho2 hx2; have HX2 := Lib.hid hx2; have HO2 := Lib.hid ho2; clear ho2 hx2)
      | (at_builtin; refine wpList_app_rd rfl (.tmp 50) (.tmp 53) _ rfl Try.underlying24 infoS rfl (by decide) encS_len encS_one w _ _ [] (xs.take i) rfl rfl HO2.out ((Hhrd0.out.ext HX2.out).take (by omega) (by omega) (by intro h; cases h)) (by rw [List.length_take, List.length_nil]; omega) (by decide) HX2.out ?_; intro au3 cu3 w3 ho3 hx3; rw [hel] at ho3 ⊢; have HX3 := Lib.hid hx3; have HO3 := Lib.hid ho3; replace f1 := hx3.cell Hfo1.out; replace f2 := hx3.cell Hfo2.out; replace f3 := hx3.cell Hfo3.out; clear ho3 hx3))
  (go_region_held3 (fun w' => w'.cell? ⟨b, o + i * 3, none⟩ = some (.int .u32 (lo : Int)) ∧ w'.cell? ⟨b, o + i * 3 + 1, none⟩ = some (.int .u32 (hi : Int)) ∧ w'.cell? ⟨b, o + i * 3 + 2, none⟩ = some (.int .i64 wy))
    (first | exact ⟨f1, f2, f3⟩ | exact ⟨hx4.cell Hfo1.out, hx4.cell Hfo2.out, hx4.cell Hfo3.out⟩ | exact ⟨Ext.cell (by repeat (first | exact Ext.refl _ | apply Ext.drewN | apply Ext.drew | apply Ext.alloc)) f1, Ext.cell (by repeat (first | exact Ext.refl _ | apply Ext.drewN | apply Ext.drew | apply Ext.alloc)) f2, Ext.cell (by repeat (first | exact Ext.refl _ | apply Ext.drewN | apply Ext.drew | apply Ext.alloc)) f3⟩)
    ((refine step_app_rd rfl (.tmp 55) (.tmp 81) _ rfl Try.underlying24 infoS rfl (by decide) encS_len encS_one w _ _ (xs.take i) [⟨lo, j, wy⟩, ⟨at_, hi, wy⟩] (by rfl) (by rfl) (by rw [hel2]; exact World.ownsRow.alloc (w := w3) HO3.out _) (Rd.ext ((Ext.refl _).drew) (rd_lit encS_len w3 [⟨lo, j, wy⟩, ⟨at_, hi, wy⟩] _ _ rfl)) (by rw [hel2]; simp; omega) (by decide) (by repeat (first | exact HX3.out | apply Ext.drew | apply Ext.alloc)) ?_; intro au4 cu4 w4 ho4 hx4; rw [hel3] at ho4 ⊢)))
  have HX4 := Lib.hid hx4
  have HO4 := Lib.hid ho4
  clear ho4 hx4 f1 f2 f3
  go_wp2_with (first
      | (at_builtin; refine wpList_app_rd rfl (.tmp 83) (.tmp 87) _ rfl Try.underlying24 infoS rfl (by decide) encS_len encS_one w _ _ (xs.take i ++ [⟨lo, j, wy⟩, ⟨at_, hi, wy⟩]) (xs.drop (i + 1)) rfl rfl (by rw [hel4]; exact HO4.out) (HhA3.out _ (Hhrd0.out.ext HX4.out)) (by rw [hel4]; simp; omega) (by decide) HX4.out ?_; intro au5 cu5 w5 ho5 hx5; rw [hel5, ← Hhcut.out] at ho5; rw [hel5]; have HX5 := Lib.hid hx5; have HO5 := Lib.hid ho5; clear ho5 hx5)
      | (go_at_call 18; (with_reducible refine (HhMg2.out _ _ HQ6.out).mono ?_); rintro e w7 ⟨u, rfl, hx7, hq7⟩; have HR7 := Lib.hid hq7; obtain ⟨au7, cu7, rfl, -, -⟩ := rdS_cell hq7.rd; have HQ7 := Lib.hid (HQ6.out.ext hx7); have HR6' := Lib.hid (HR6.out.ext hx7); have HX7 := Lib.hid (HX6.out.trans hx7); clear hq7 hx7)
      | (go_at_call 18; refine (HhMg.out _ HX5.out).mono ?_; rintro e w6 ⟨u, rfl, hx6, hq6⟩; have HR6 := Lib.hid hq6; obtain ⟨au6, cu6, rfl, -, -⟩ := rdS_cell hq6.rd; have HQ6 := Lib.hid ((rd_of_own encS_len HO5.out).ext hx6); have HX6 := Lib.hid (HX5.out.trans hx6); clear hq6 hx6)
      | (go_at_call 19; (with_reducible refine (HhWh2.out _ _ (HQ7.out.ext hx8)).mono ?_); rintro e w9 ⟨rfl, hx9⟩)
      | (go_at_call 19; refine (HhWh.out _ HX7.out).mono ?_; rintro e w8 ⟨rfl, hx8⟩)
      | (go_at_call 21; refine (HhMd2.out _ _ (HQ7.out.ext (hx8.trans hx9))).mono ?_; rintro e w10 ⟨rfl, hx10⟩)
      | (go_quiet (fail)))
  have HX10 := Lib.hid (((HX7.out.trans hx8).trans hx9).trans hx10)
  have hr1 := (((HR6'.out.ext hx8).ext hx9).ext hx10).rd
  have hr2 := (((HR7.out.ext hx8).ext hx9).ext hx10).rd
  clear hx8 hx9 hx10
  obtain ⟨a1, c1, e1, -, hc1⟩ := rdS_cell hr1
  obtain ⟨a2, c2, e2, -, hc2⟩ := rdS_cell hr2
  obtain ⟨rfl, -, rfl⟩ := Value.slice.inj e1
  obtain ⟨rfl, -, rfl⟩ := Value.slice.inj e2
  clear hr1 hr2 e1 e2
  go_loopw [12] (fun i wr => ∃ k : Nat, k ≤ ms.length ∧ i = .int .i64 k ∧ Ext w10 wr) (fun i _ => ms.length - (intOf i).toNat)
  case atStart => exact ⟨0, by omega, rfl, Ext.refl _⟩
  case round =>
    obtain ⟨k, hk, rfl, hx⟩ := hrel
    have HX := Lib.hid (HX10.out.trans hx)
    have HY := Lib.hid hx
    by_cases hlt : k < ms.length
    · obtain ⟨b1, o1, rfl, f1, f2, f3⟩ := hc1 k hlt
      obtain ⟨b2, o2, rfl, g1, g2, g3⟩ := hc2 k hlt
      replace f1 := hx.cell f1; replace f2 := hx.cell f2; replace f3 := hx.cell f3
      replace g1 := hx.cell g1; replace g2 := hx.cell g2; replace g3 := hx.cell g3
      clear hc1 hc2 hx
      generalize ms[k] = s at *
      have hq := run_neqS s s
      rw [sameS_refl] at hq
      have hg := hgS
      go_wp2_with (go_quiet (fail))
      go_roundw
      case rel => exact ⟨k + 1, by omega, by go_num, HY.out.drewN _⟩
      case measure => simp [intOf]; omega
    · obtain rfl : k = ms.length := by omega
      clear hc1 hc2 hx
      go_wp2
      go_ret
      exact ⟨rfl, HX.out⟩
end L23
end Go.Proofs.Ytaclndhenhjjaaa
