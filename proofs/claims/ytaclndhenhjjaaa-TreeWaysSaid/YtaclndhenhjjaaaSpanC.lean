/- Layer 23: the walks of Merged, and of the reference's Merged and Same. -/
import Derived.Test.YtaclndhenhjjaaaSpanB
namespace Go.Proofs.Ytaclndhenhjjaaa
open Go.RowKit V
namespace L23
set_option maxRecDepth 100000 in
set_option maxHeartbeats 1000000 in
theorem Merged_calls (v : Value) (xs : List Span) (hl : xs.length ≤ 140737488351232) (hok : ∀ s ∈ xs, OkS s) (w : World) (hv : Rd w 3 encS v xs) :
    Calls Try.prog 21 #[v] w fun e w' => e = .returned (.bool (mergedB xs)) ∧ Ext w w' := by
  obtain ⟨a, c, rfl, hac, hca⟩ := rdS_cell hv
  go_enter Try.func21, Try.ntmps21
  go_wp2
  go_loopw [3, 7] (fun d i wr => ∃ k : Nat, k ≤ xs.length ∧ i = .int .i64 k ∧ Ext w wr ∧ d = .bool (dup xs k)) (fun _ i _ => xs.length - (intOf i).toNat)
  case atStart => exact ⟨0, by omega, rfl, Ext.refl _, rfl⟩
  case round =>
    obtain ⟨k, hk, rfl, hx, rfl⟩ := hrel
    have HX := Lib.hid hx
    by_cases hlt : k < xs.length
    · have hs := dup_succ xs k
      cases hd : dup xs k
      case true =>
        rw [hd, Bool.true_or] at hs
        have Hhd := Lib.hid hd
        clear hd
        have Hhs := Lib.hid hs
        clear hs
        clear hx hca hok hv
        go_wp2_with (go_quiet (fail))
        go_roundw
        case rel => exact ⟨k + 1, by omega, by go_num, (by repeat (first | exact HX.out | apply Ext.drewN | apply Ext.alloc | apply Ext.drew)), by rw [Hhs.out]⟩
        case measure => simp [intOf]; omega
      case false =>
        rw [hd, Bool.false_or] at hs
        have Hhd := Lib.hid hd
        clear hd
        obtain ⟨b, o, rfl, -, -, h3⟩ := hca k hlt
        replace h3 := hx.cell h3
        by_cases hk0 : k = 0
        · have hres : dup xs (k + 1) = false := by rw [hs, hk0]; rfl
          have hd2 : decide ((0 : Int) < (k : Int)) = false := by simp; omega
          have hd3 : decide (0 < k) = false := by simp; omega
          have Hhres := Lib.hid hres
          clear hres
          have Hhk0 := Lib.hid hk0
          clear hk0
          clear hs hx hca hok hv
          go_wp2_with (go_quiet (fail))
          go_roundw
          case rel => exact ⟨k + 1, by omega, by go_num, (by repeat (first | exact HX.out | apply Ext.drewN | apply Ext.alloc | apply Ext.drew)), by rw [Hhres.out]⟩
          case measure => simp [intOf]; omega
        · obtain ⟨j, hj⟩ : ∃ j, j = k - 1 := ⟨_, rfl⟩
          have hjl : j < xs.length := by omega
          obtain ⟨b', o', e', -, -, p3⟩ := hca j hjl
          obtain ⟨rfl, rfl⟩ : b = b' ∧ o = o' := by simpa using e'
          clear e'
          replace p3 := hx.cell p3
          have hres : dup xs (k + 1) = (xs[k].way == xs[j].way) := by
            rw [hs]; unfold dupAt; rw [wy_get hlt, ← hj, wy_get hjl]; simp; omega
          have hd2 : decide ((0 : Int) < (k : Int)) = true := by simp; omega
          have hd3 : decide (0 < k) = true := by simp; omega
          have hd4 : ((k : Int) - 1) = (j : Int) := by omega
          have Hhres := Lib.hid hres
          clear hres
          have Hhj := Lib.hid hj
          clear hj
          clear hs hx hca hok hv hk0
          generalize xs[k].way = x at *
          generalize xs[j].way = y at *
          go_wp2_with (go_quiet (fail))
          go_roundw
          case rel => exact ⟨k + 1, by omega, by go_num, (by repeat (first | exact HX.out | apply Ext.drewN | apply Ext.alloc | apply Ext.drew)), by rw [Hhres.out]⟩
          case measure => simp [intOf]; omega
    · obtain rfl : k = xs.length := by omega
      have hres : mergedB xs = (whole xs && !dup xs xs.length) := rfl
      have Hhres := Lib.hid hres
      clear hres
      go_wp2_with (go_at_call 19; refine (Whole_calls _ xs hl hok _ (hv.ext hx)).mono ?_; rintro e w1 ⟨rfl, hx1⟩)
      all_goals
        go_ret
        exact ⟨by rw [Hhres.out]; simp [*], HX.out.trans hx1⟩
set_option maxRecDepth 100000 in
set_option maxHeartbeats 1000000 in
theorem refMerged_calls (v : Value) (xs : List Span) (hl : xs.length ≤ 140737488351232) (hok : ∀ s ∈ xs, OkS s) (w : World) (hv : Rd w 3 encS v xs) :
    Calls Try.prog 22 #[v] w fun e w' => e = .returned (.bool (mergedB xs)) ∧ Ext w w' := by
  obtain ⟨a, c, rfl, hac, hca⟩ := rdS_cell hv
  go_enter Try.func22, Try.ntmps22
  go_wp2
  go_loopw [3] (fun i wr => ∃ k : Nat, i = .int .i64 ((k : Int) + 1) ∧ (k + 1 ≤ xs.length ∨ k = 0) ∧ Ext w wr ∧ dup xs (k + 1) = false) (fun i _ => xs.length - (intOf i).toNat)
  case atStart => exact ⟨0, rfl, .inr rfl, Ext.refl _, rfl⟩
  case round =>
    obtain ⟨k, rfl, hk, hx, hd⟩ := hrel
    have HX := Lib.hid hx
    by_cases hlt : k + 1 < xs.length
    · have hs := dup_succ xs (k + 1)
      rw [hd, Bool.false_or] at hs
      have Hhd := Lib.hid hd
      clear hd
      have hlt2 : k < xs.length := by omega
      obtain ⟨b, o, rfl, -, -, h3⟩ := hca (k + 1) hlt
      obtain ⟨b', o', e', -, -, p3⟩ := hca k hlt2
      obtain ⟨rfl, rfl⟩ : b = b' ∧ o = o' := by simpa using e'
      clear e'
      replace h3 := hx.cell h3
      replace p3 := hx.cell p3
      have hres : dup xs (k + 1 + 1) = (xs[k + 1].way == xs[k].way) := by
        rw [hs]; unfold dupAt; rw [wy_get hlt, Nat.add_sub_cancel, wy_get hlt2]; simp
      have Hhres := Lib.hid hres
      clear hres
      clear hs hx hca hok hv hk
      generalize xs[k + 1].way = x at *
      generalize xs[k].way = y at *
      by_cases hxy : x = y
      · have hq : (x == y) = true := by rw [hxy]; simp
        have Hhxy := Lib.hid hxy
        clear hxy
        go_wp2_with (go_quiet (fail))
        go_ret
        have hres : mergedB xs = false := by unfold mergedB; rw [dup_mono (k := k + 1 + 1) (by omega) (by rw [Hhres.out]; exact hq)]; simp
        exact ⟨by rw [hres]; rfl, (by repeat (first | exact HX.out | apply Ext.drewN | apply Ext.alloc | apply Ext.drew))⟩
      · have hq : (x == y) = false := by simp [hxy]
        have Hhxy := Lib.hid hxy
        clear hxy
        go_wp2_with (go_quiet (fail))
        go_roundw
        case rel => exact ⟨k + 1, by go_num, by omega, (by repeat (first | exact HX.out | apply Ext.drewN | apply Ext.alloc | apply Ext.drew)), by rw [Hhres.out]; exact hq⟩
        case measure => simp [intOf]; omega
    · have hres : mergedB xs = whole xs := by
        have hd2 : dup xs xs.length = false := by
          rcases hk with hk | hk
          · rw [show xs.length = k + 1 by omega]; exact hd
          · cases h9 : dup xs xs.length with
            | false => rfl
            | true => exact absurd (dup_mono (n := k + 1) (by omega) h9) (by rw [hd]; simp)
        unfold mergedB; rw [hd2]; simp
      have Hhres := Lib.hid hres
      clear hres
      clear hd
      go_wp2_with (go_at_call 20; refine (refWhole_calls _ xs hl hok _ (hv.ext hx)).mono ?_; rintro e w1 ⟨rfl, hx1⟩)
      go_ret
      exact ⟨by rw [Hhres.out]; rfl, HX.out.trans hx1⟩
theorem hgS : Try.prog.eqGuardType Try.prog.depth 33 = false := by kernel_rfl
theorem run_neqS (s t : Span) (w : World) : (binOp .neq 33 (.agg #[.int .u32 (s.lo : Int), .int .u32 (s.hi : Int), .int .i64 s.way])
    (.agg #[.int .u32 (t.lo : Int), .int .u32 (t.hi : Int), .int .i64 t.way])).run Try.prog w = .ok (.bool (!sameS s t)) w := by
  have h : (Op.equalIn 10000 33 (.agg #[.int .u32 (s.lo : Int), .int .u32 (s.hi : Int), .int .i64 s.way])
    (.agg #[.int .u32 (t.lo : Int), .int .u32 (t.hi : Int), .int .i64 t.way])).run Try.prog w = .ok (sameS s t) w := by
    simp [go_sem]
    by_cases h1 : s.lo = t.lo <;> by_cases h2 : s.hi = t.hi <;> by_cases h3 : s.way = t.way <;> simp [sameS, h1, h2, h3, Int.ofNat_inj]
  rw [run_neq_struct, h]; rfl
def sameL : List Span → List Span → Bool
  | [], [] => true
  | x :: xs, y :: ys => sameS x y && sameL xs ys
  | _, _ => false
theorem sameL_len : ∀ {xs ys : List Span}, xs.length ≠ ys.length → sameL xs ys = false
  | [], [], h => absurd rfl h
  | [], _ :: _, _ => rfl
  | _ :: _, [], _ => rfl
  | _ :: xs, _ :: ys, h => by simp only [sameL, sameL_len (xs := xs) (ys := ys) (fun e => h (by simp [e])), Bool.and_false]
theorem sameL_step {xs ys : List Span} {k : Nat} (h : k < xs.length) (h' : k < ys.length) :
    sameL (xs.drop k) (ys.drop k) = (sameS xs[k] ys[k] && sameL (xs.drop (k + 1)) (ys.drop (k + 1))) := by
  rw [List.drop_eq_getElem_cons h, List.drop_eq_getElem_cons h']; rfl
theorem sameL_end {xs ys : List Span} (h : xs.length = ys.length) : sameL (xs.drop xs.length) (ys.drop xs.length) = true := by
  rw [List.drop_eq_nil_of_le (Nat.le_refl _), List.drop_eq_nil_of_le (by omega)]; rfl
theorem sameS_refl (s : Span) : sameS s s = true := by simp [sameS]
theorem sameL_refl : ∀ xs : List Span, sameL xs xs = true
  | [] => rfl
  | x :: xs => by simp [sameL, sameS_refl, sameL_refl xs]
theorem sameS_eq {s t : Span} (h : sameS s t = true) : s = t := by
  cases s; cases t; simp [sameS] at h; obtain ⟨rfl, rfl, rfl⟩ := h; rfl
set_option maxRecDepth 100000 in
set_option maxHeartbeats 1000000 in
theorem refSame_calls (u v : Value) (xs ys : List Span) (hl : xs.length ≤ 140737488351232) (w : World) (hu : Rd w 3 encS u xs) (hv : Rd w 3 encS v ys) :
    Calls Try.prog 15 #[u, v] w fun e w' => e = .returned (.bool (sameL xs ys)) ∧ Ext w w' := by
  obtain ⟨a, c, rfl, hac, hca⟩ := rdS_cell hu
  obtain ⟨b, d, rfl, hbd, hcb⟩ := rdS_cell hv
  by_cases hl : xs.length = ys.length
  · have hl2 : ((xs.length : Int) != (ys.length : Int)) = false := by rw [hl]; simp
    have HL := Lib.hid hl
    clear hl
    go_enter Try.func15, Try.ntmps15
    go_wp2
    go_loopw [5] (fun i wr => ∃ k : Nat, k ≤ xs.length ∧ i = .int .i64 k ∧ Ext w wr ∧ sameL xs ys = sameL (xs.drop k) (ys.drop k)) (fun i _ => xs.length - (intOf i).toNat)
    case atStart => exact ⟨0, by omega, rfl, Ext.refl _, rfl⟩
    case round =>
      obtain ⟨k, hk, rfl, hx, heq⟩ := hrel
      have HE := Lib.hid heq
      have HX := Lib.hid hx
      clear heq
      by_cases hlt : k < xs.length
      · have hlt' : k < ys.length := by rw [← HL.out]; exact hlt
        obtain ⟨b1, o1, rfl, h1, h2, h3⟩ := hca k hlt
        obtain ⟨b2, o2, rfl, g1, g2, g3⟩ := hcb k hlt'
        replace h1 := hx.cell h1; replace h2 := hx.cell h2; replace h3 := hx.cell h3
        replace g1 := hx.cell g1; replace g2 := hx.cell g2; replace g3 := hx.cell g3
        have hstep := sameL_step hlt hlt'
        have HS := Lib.hid hstep
        clear hca hcb hx hstep hu hv
        generalize xs[k] = s at h1 h2 h3 HS
        generalize ys[k] = t at g1 g2 g3 HS
        have hq := run_neqS s t
        have hg := hgS
        cases hst : sameS s t
        all_goals
          have HST := Lib.hid hst
          rw [hst] at hq
          clear hst
          go_wp2_with (go_quiet (fail))
        · go_ret
          exact ⟨by rw [HE.out, HS.out, HST.out]; rfl, HX.out.drewN _⟩
        · go_roundw
          case rel => exact ⟨k + 1, by omega, by go_num, HX.out.drewN _, by rw [HE.out, HS.out, HST.out]; rfl⟩
          case measure => simp [intOf]; omega
      · obtain rfl : k = xs.length := by omega
        go_wp2
        go_ret
        exact ⟨by rw [HE.out, sameL_end HL.out]; rfl, hx⟩
  · have hl2 : ((xs.length : Int) != (ys.length : Int)) = true := by rw [bne_iff_ne]; omega
    have HL := Lib.hid hl
    clear hl
    go_enter Try.func15, Try.ntmps15
    go_wp2
    go_ret
    exact ⟨by rw [sameL_len HL.out]; rfl, Ext.refl _⟩
end L23
end Go.Proofs.Ytaclndhenhjjaaa
