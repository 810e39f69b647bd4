/- Layer 23: the walks of Whole and Way and of the reference's. -/
import Derived.Test.YtaclndhenhjjaaaSpanA
namespace Go.Proofs.Ytaclndhenhjjaaa
open Go.RowKit V
namespace L23
set_option maxRecDepth 100000 in
set_option maxHeartbeats 400000 in
theorem Whole_calls (v : Value) (xs : List Span) (hl : xs.length ≤ 140737488351232) (hok : ∀ s ∈ xs, OkS s) (w : World) (hv : Rd w 3 encS v xs) :
    Calls Try.prog 19 #[v] w fun e w' => e = .returned (.bool (whole xs)) ∧ Ext w w' := by
  obtain ⟨a, c, rfl, hac, hca⟩ := rdS_cell hv
  clear hv
  go_enter Try.func19, Try.ntmps19
  go_wp2
  go_loopw [3, 8] (fun v i wr => ∃ k nx : Nat, k ≤ xs.length ∧ i = .int .i64 k ∧ nx ≤ 4294967296 ∧ v = .int .u64 nx ∧ Ext w wr ∧ chain xs 0 = chain (xs.drop k) nx) (fun _ i _ => xs.length - (intOf i).toNat)
  case atStart => exact ⟨0, 0, by omega, rfl, by omega, rfl, Ext.refl _, rfl⟩
  case round =>
    obtain ⟨k, nx, hk, rfl, hnx, rfl, hx, heq⟩ := hrel
    have HE := Lib.hid heq
    have HX := Lib.hid hx
    clear heq
    by_cases hlt : k < xs.length
    · obtain ⟨b, o, rfl, h1, h2, h3⟩ := hca k hlt
      replace h1 := hx.cell h1; replace h2 := hx.cell h2; replace h3 := hx.cell h3
      have hs := chain_step hlt nx
      have HS := Lib.hid hs
      obtain ⟨ok1, ok2, -, -⟩ := hok _ (List.getElem_mem hlt)
      clear hs hca hok hx
      generalize xs[k] = s at *
      obtain ⟨lo, hi, wy⟩ := s
      dsimp only at *
      by_cases hc : lo = nx ∧ lo ≤ hi
      · obtain ⟨rfl, hle⟩ := hc
        go_wp2
        go_roundw
        case rel => exact ⟨k + 1, hi + 1, by omega, by go_num, by omega, by go_num, HX.out.alloc _, by rw [HE.out, HS.out, if_pos ⟨rfl, hle⟩]⟩
        case measure => simp [intOf]; omega
      · have hres : whole xs = false := by unfold whole; rw [HE.out, HS.out, if_neg hc]; rfl
        have HR := Lib.hid hres
        clear hres
        by_cases h4 : lo = nx
        · subst h4
          have h5 : hi < lo := by omega
          go_wp2
          go_ret
          exact ⟨by rw [HR.out]; rfl, HX.out.alloc _⟩
        · have h6 : ((lo : Int) != (nx : Int)) = true := by rw [bne_iff_ne]; omega
          go_wp2
          go_ret
          exact ⟨by rw [HR.out]; rfl, HX.out.alloc _⟩
    · obtain rfl : k = xs.length := by omega
      have hres : whole xs = ((nx : Int) == 4294967296) := by
        unfold whole; rw [HE.out, List.drop_eq_nil_of_le (Nat.le_refl _), chain_nil, Bool.eq_iff_iff]; simp; omega
      have HR := Lib.hid hres
      clear hres
      go_wp2
      go_ret
      exact ⟨by rw [HR.out]; rfl, HX.out⟩
set_option maxRecDepth 100000 in
set_option maxHeartbeats 400000 in
theorem Way_calls (v : Value) (xs : List Span) (n : Nat) (hl : xs.length ≤ 140737488351232) (hok : ∀ s ∈ xs, OkS s) (w : World) (hv : Rd w 3 encS v xs) :
    Calls Try.prog 16 #[v, .int .u32 (n : Int)] w fun e w' => e = .returned (.tuple #[.int .i64 (way xs n).1, .bool (way xs n).2]) ∧ Ext w w' := by
  obtain ⟨a, c, rfl, hac, hca⟩ := rdS_cell hv
  clear hv
  go_enter Try.func16, Try.ntmps16
  go_wp2
  go_loopw [10] (fun i wr => ∃ k : Nat, k ≤ xs.length ∧ i = .int .i64 k ∧ Ext w wr ∧ way xs n = way (xs.drop k) n) (fun i _ => xs.length - (intOf i).toNat)
  case atStart => exact ⟨0, by omega, rfl, Ext.refl _, rfl⟩
  case round =>
    obtain ⟨k, hk, rfl, hx, heq⟩ := hrel
    have HE := Lib.hid heq
    have HX := Lib.hid hx
    clear heq
    by_cases hlt : k < xs.length
    · obtain ⟨b, o, rfl, h1, h2, h3⟩ := hca k hlt
      replace h1 := hx.cell h1; replace h2 := hx.cell h2; replace h3 := hx.cell h3
      have hs := way_step hlt n
      have HS := Lib.hid hs
      obtain ⟨ok1, ok2, -, -⟩ := hok _ (List.getElem_mem hlt)
      clear hs hca hok hx
      generalize xs[k] = s at *
      obtain ⟨lo, hi, wy⟩ := s
      dsimp only at *
      by_cases hc : lo ≤ n ∧ n ≤ hi
      · obtain ⟨hc1, hc2⟩ := hc
        have hres : way xs n = (wy, true) := by rw [HE.out, HS.out, if_pos ⟨hc1, hc2⟩]
        have HR := Lib.hid hres
        clear hres
        go_wp2_with (go_quiet (fail))
        go_ret2
        exact ⟨by rw [HR.out]; rfl, HX.out.alloc _⟩
      · have hres : way xs n = way (xs.drop (k + 1)) n := by rw [HE.out, HS.out, if_neg hc]
        have HR := Lib.hid hres
        clear hres
        by_cases h4 : lo ≤ n
        · have h5 : hi < n := by omega
          go_wp2_with (go_quiet (fail))
          go_roundw
          case rel => exact ⟨k + 1, by omega, by go_num, HX.out.alloc _, HR.out⟩
          case measure => simp [intOf]; omega
        · go_wp2_with (go_quiet (fail))
          go_roundw
          case rel => exact ⟨k + 1, by omega, by go_num, HX.out.alloc _, HR.out⟩
          case measure => simp [intOf]; omega
    · obtain rfl : k = xs.length := by omega
      have hres : way xs n = (0, false) := by rw [HE.out, List.drop_eq_nil_of_le (Nat.le_refl _)]; rfl
      have HR := Lib.hid hres
      clear hres
      go_wp2
      go_ret2
      exact ⟨by rw [HR.out]; rfl, HX.out⟩
set_option maxRecDepth 100000 in
set_option maxHeartbeats 400000 in
theorem refWay_calls (v : Value) (xs : List Span) (n : Nat) (hl : xs.length ≤ 140737488351232) (hok : ∀ s ∈ xs, OkS s) (w : World) (hv : Rd w 3 encS v xs) :
    Calls Try.prog 17 #[v, .int .u32 (n : Int)] w fun e w' => e = .returned (.tuple #[.int .i64 (way xs n).1, .bool (way xs n).2]) ∧ Ext w w' := by
  obtain ⟨a, c, rfl, hac, hca⟩ := rdS_cell hv
  clear hv
  go_enter Try.func17, Try.ntmps17
  go_wp2
  go_loopw [6] (fun i wr => ∃ k : Nat, k ≤ xs.length ∧ i = .int .i64 k ∧ Ext w wr ∧ way xs n = way (xs.drop k) n) (fun i _ => xs.length - (intOf i).toNat)
  case atStart => exact ⟨0, by omega, rfl, Ext.refl _, rfl⟩
  case round =>
    obtain ⟨k, hk, rfl, hx, heq⟩ := hrel
    have HE := Lib.hid heq
    have HX := Lib.hid hx
    clear heq
    by_cases hlt : k < xs.length
    · obtain ⟨b, o, rfl, h1, h2, h3⟩ := hca k hlt
      replace h1 := hx.cell h1; replace h2 := hx.cell h2; replace h3 := hx.cell h3
      have hs := way_step hlt n
      have HS := Lib.hid hs
      obtain ⟨ok1, ok2, -, -⟩ := hok _ (List.getElem_mem hlt)
      clear hs hca hok hx
      generalize xs[k] = s at *
      obtain ⟨lo, hi, wy⟩ := s
      dsimp only at *
      by_cases hc : lo ≤ n ∧ n ≤ hi
      · obtain ⟨hc1, hc2⟩ := hc
        have hres : way xs n = (wy, true) := by rw [HE.out, HS.out, if_pos ⟨hc1, hc2⟩]
        have HR := Lib.hid hres
        clear hres
        have hd : decide ((lo : Int) ≤ (n : Int)) = true := by simp; omega
        go_wp2_with (go_quiet (fail))
        go_ret2
        exact ⟨by rw [HR.out]; rfl, (by repeat (first | exact HX.out | apply Ext.drewN | apply Ext.alloc | apply Ext.drew))⟩
      · have hres : way xs n = way (xs.drop (k + 1)) n := by rw [HE.out, HS.out, if_neg hc]
        have HR := Lib.hid hres
        clear hres
        by_cases h4 : lo ≤ n
        · have h5 : hi < n := by omega
          have hd : decide ((lo : Int) ≤ (n : Int)) = true := by simp; omega
          go_wp2_with (go_quiet (fail))
          go_roundw
          case rel => exact ⟨k + 1, by omega, by go_num, (by repeat (first | exact HX.out | apply Ext.drewN | apply Ext.alloc | apply Ext.drew)), HR.out⟩
          case measure => simp [intOf]; omega
        · have hd : decide ((lo : Int) ≤ (n : Int)) = false := by simp; omega
          go_wp2_with (go_quiet (fail))
          go_roundw
          case rel => exact ⟨k + 1, by omega, by go_num, (by repeat (first | exact HX.out | apply Ext.drewN | apply Ext.alloc | apply Ext.drew)), HR.out⟩
          case measure => simp [intOf]; omega
    · obtain rfl : k = xs.length := by omega
      have hres : way xs n = (0, false) := by rw [HE.out, List.drop_eq_nil_of_le (Nat.le_refl _)]; rfl
      have HR := Lib.hid hres
      clear hres
      go_wp2
      go_ret2
      exact ⟨by rw [HR.out]; rfl, HX.out⟩
set_option maxRecDepth 100000 in
set_option maxHeartbeats 400000 in
theorem refWhole_calls (v : Value) (xs : List Span) (hl : xs.length ≤ 140737488351232) (hok : ∀ s ∈ xs, OkS s) (w : World) (hv : Rd w 3 encS v xs) :
    Calls Try.prog 20 #[v] w fun e w' => e = .returned (.bool (whole xs)) ∧ Ext w w' := by
  obtain ⟨a, c, rfl, hac, hca⟩ := rdS_cell hv
  clear hv
  by_cases h0 : xs.length = 0
  · have hx : xs = [] := List.eq_nil_of_length_eq_zero h0
    subst hx
    go_enter Try.func20, Try.ntmps20
    go_wp2
    go_ret
    exact ⟨by rw [whole_nil]; rfl, Ext.refl _⟩
  have hpos : 0 < xs.length := by omega
  have hz : ((xs.length : Int) == 0) = false := beq_eq_false_iff_ne.2 (by omega)
  obtain ⟨b, o, rfl, f1, -, -⟩ := hca 0 hpos
  rw [Nat.zero_mul, Nat.add_zero] at f1
  obtain ⟨q, hq⟩ : ∃ q, q = xs.length - 1 := ⟨_, rfl⟩
  have hqi : (xs.length : Int) - 1 = (q : Int) := by omega
  have hql : q < xs.length := by omega
  obtain ⟨b', o', e', -, f2, -⟩ := hca q hql
  obtain ⟨rfl, rfl⟩ : b = b' ∧ o = o' := by simpa using e'
  clear e'
  have hw1 := whole_first (xs := xs) hpos
  have hw2 : xs[q].hi ≠ 4294967295 → whole xs = false := by subst hq; exact whole_last hpos
  have hst0 : chain xs 0 = chain (xs.drop 0) 0 := rfl
  have hlo := (hok _ (List.getElem_mem hpos)).l
  have hhi := (hok _ (List.getElem_mem hql)).h
  by_cases h1 : xs[0].lo = 0
  case neg =>
    have hres := hw1 h1
    have h1' : ((xs[0].lo : Int) != 0) = true := by rw [bne_iff_ne]; omega
    have Hhres := Lib.hid hres
    clear hres
    clear hw2 hw1 hst0 hq
    generalize xs[0].lo = z at *
    go_enter Try.func20, Try.ntmps20
    go_wp2
    go_ret
    exact ⟨by rw [Hhres.out]; rfl, Ext.refl _⟩
  have h1' : ((xs[0].lo : Int) != 0) = false := by rw [h1]; rfl
  by_cases h2 : xs[q].hi = 4294967295
  case neg =>
    have hres := hw2 h2
    have h2' : ((xs[q].hi : Int) != 4294967295) = true := by rw [bne_iff_ne]; omega
    have Hhres := Lib.hid hres
    clear hres
    clear hw2 hw1 hst0 hq h1 h2
    generalize xs[0].lo = z at *
    generalize xs[q].hi = y at *
    go_enter Try.func20, Try.ntmps20
    go_wp2
    go_ret
    exact ⟨by rw [Hhres.out]; rfl, Ext.refl _⟩
  have h2' : ((xs[q].hi : Int) != 4294967295) = false := by rw [h2]; rfl
  have hend : ∀ m, chain xs 0 = some m → m = 4294967296 := by
    intro m hm
    have := chain_last hm hpos
    subst hq
    omega
  have Hhend := Lib.hid hend
  clear hend
  have Hh1 := Lib.hid h1
  clear h1
  have Hhw1 := Lib.hid hw1
  clear hw1
  have Hhw2 := Lib.hid hw2
  clear hw2
  have Hhst0 := Lib.hid hst0
  clear hst0
  have Hh2 := Lib.hid h2
  clear h2
  have Hhq := Lib.hid hq
  clear hq
  generalize hz0 : xs[0].lo = z at *
  generalize hy0 : xs[q].hi = y at *
  have Hhz0 := Lib.hid hz0
  clear hz0
  have Hhy0 := Lib.hid hy0
  clear hy0
  go_enter Try.func20, Try.ntmps20
  go_wp2
  go_loopw [3] (fun i wr => ∃ k : Nat, k ≤ xs.length ∧ i = .int .i64 k ∧ Ext w wr ∧ ∃ nx, chain xs 0 = chain (xs.drop k) nx ∧ (k = 0 → nx = 0) ∧ ∀ j (hj : j < xs.length), k = j + 1 → nx = xs[j].hi + 1) (fun i _ => xs.length - (intOf i).toNat)
  case atStart => exact ⟨0, by omega, rfl, Ext.refl _, 0, Hhst0.out, fun _ => rfl, by omega⟩
  case round =>
    obtain ⟨k, hk, rfl, hx, nx, heq, hn0, hn1⟩ := hrel
    have Hhx := Lib.hid hx
    have HX := Hhx
    have Hheq := Lib.hid heq
    clear heq
    by_cases hlt : k < xs.length
    · obtain ⟨b', o', e', g1, g2, -⟩ := hca k hlt
      obtain ⟨rfl, rfl⟩ : b = b' ∧ o = o' := by simpa using e'
      clear e'
      replace g1 := hx.cell g1
      replace g2 := hx.cell g2
      have hs := chain_step hlt nx
      obtain ⟨ok1, ok2, -, -⟩ := hok _ (List.getElem_mem hlt)
      generalize hsv : xs[k] = s at *
      have Hhsv := Lib.hid hsv
      clear hsv
      obtain ⟨lo, hi, wy⟩ := s
      dsimp only at *
      have Hhs := Lib.hid hs
      clear hs
      by_cases hle : lo ≤ hi
      case neg =>
        have hres : whole xs = false := by unfold whole; rw [Hheq.out, Hhs.out, if_neg (by omega)]; rfl
        have Hhres := Lib.hid hres
        clear hres
        have hd : decide ((hi : Int) < (lo : Int)) = true := by simp; omega
        have hd' : decide (hi < lo) = true := by simp; omega
        have hlt' : hi < lo := by omega
        clear hok hca hx hn0 hn1
        go_wp2_with (go_quiet (fail))
        go_ret
        exact ⟨by rw [Hhres.out]; rfl, (by repeat (first | exact HX.out | apply Ext.drewN | apply Ext.alloc | apply Ext.drew))⟩
      have hd : decide ((hi : Int) < (lo : Int)) = false := by simp; omega
      have hd' : decide (hi < lo) = false := by simp; omega
      by_cases hk0 : k = 0
      · have hnx : nx = 0 := hn0 hk0
        have hlz : lo = nx := by have := Hh1.out; have e0 := Hhz0.out; subst hk0; have e1 := Hhsv.out; rw [e1] at e0; dsimp only at e0; omega
        have hd2 : decide ((0 : Int) < (k : Int)) = false := by simp; omega
        have hd3 : decide (0 < k) = false := by simp; omega
        have hres : chain xs 0 = chain (xs.drop (k + 1)) (hi + 1) := by rw [Hheq.out, Hhs.out, if_pos ⟨hlz, hle⟩]
        have Hhres := Lib.hid hres
        clear hres
        have Hhlz := Lib.hid hlz
        clear hlz
        have Hhk0 := Lib.hid hk0
        clear hk0
        have Hhnx := Lib.hid hnx
        clear hnx
        clear hok hca hx hn0 hn1
        go_wp2_with (go_quiet (fail))
        go_roundw
        case rel => exact ⟨k + 1, by omega, by go_num, (by repeat (first | exact HX.out | apply Ext.drewN | apply Ext.alloc | apply Ext.drew)), hi + 1, Hhres.out, by omega, fun j hj e => by (obtain rfl : j = k := (by omega)); rw [Hhsv.out]⟩
        case measure => simp [intOf]; omega
      · obtain ⟨j, hj⟩ : ∃ j, j = k - 1 := ⟨_, rfl⟩
        have hjl : j < xs.length := by omega
        have hnx := hn1 j hjl (by omega)
        obtain ⟨b', o', e', -, p2, -⟩ := hca j hjl
        obtain ⟨rfl, rfl⟩ : b = b' ∧ o = o' := by simpa using e'
        clear e'
        replace p2 := hx.cell p2
        have hph := (hok _ (List.getElem_mem hjl)).h
        generalize xs[j].hi = ph at *
        subst hnx
        have hd2 : decide ((0 : Int) < (k : Int)) = true := by simp; omega
        have hd3 : decide (0 < k) = true := by simp; omega
        have hd4 : ((k : Int) - 1) = (j : Int) := by omega
        have Hhj := Lib.hid hj
        clear hj
        clear hok hca hx hn0 hn1 hk0
        by_cases hc : lo = ph + 1
        · have hd3 : ((lo : Int) != (ph : Int) + 1) = false := by rw [hc]; simp
          have hres : chain xs 0 = chain (xs.drop (k + 1)) (hi + 1) := by rw [Hheq.out, Hhs.out, if_pos ⟨hc, hle⟩]
          have Hhres := Lib.hid hres
          clear hres
          have Hhc := Lib.hid hc
          clear hc
          go_wp2_with (go_quiet (fail))
          go_roundw
          case rel => exact ⟨k + 1, by omega, by go_num, (by repeat (first | exact HX.out | apply Ext.drewN | apply Ext.alloc | apply Ext.drew)), hi + 1, Hhres.out, by omega, fun j hj e => by (obtain rfl : j = k := (by omega)); rw [Hhsv.out]⟩
          case measure => simp [intOf]; omega
        · have hd3 : ((lo : Int) != (ph : Int) + 1) = true := by rw [bne_iff_ne]; omega
          have hres : whole xs = false := by unfold whole; rw [Hheq.out, Hhs.out, if_neg (by omega)]; rfl
          have Hhres := Lib.hid hres
          clear hres
          have Hhc := Lib.hid hc
          clear hc
          go_wp2_with (go_quiet (fail))
          go_ret
          exact ⟨by rw [Hhres.out]; rfl, (by repeat (first | exact HX.out | apply Ext.drewN | apply Ext.alloc | apply Ext.drew))⟩
    · obtain rfl : k = xs.length := by omega
      have hres : whole xs = true := by
        have h9 := Hhend.out nx (by rw [Hheq.out, List.drop_eq_nil_of_le (Nat.le_refl _)]; rfl)
        unfold whole; rw [Hheq.out, List.drop_eq_nil_of_le (Nat.le_refl _), h9]; rfl
      have Hhres := Lib.hid hres
      clear hres
      go_wp2
      go_ret
      exact ⟨by rw [Hhres.out]; rfl, HX.out⟩
end L23
end Go.Proofs.Ytaclndhenhjjaaa
