/- Layer 24: the walks of May and of the reference's May. -/
import Derived.Test.YtaclndhenhjjaaaTreeA
namespace Go.Proofs.Ytaclndhenhjjaaa
open Go.RowKit V
namespace L24
open L23
theorem mayN_leaf {len i : Nat} {n : Node} (h : n.leaf = true) : mayN len i n = true := by unfold mayN; rw [h]; rfl
theorem mayN_yes {len i : Nat} {n : Node} (h : n.leaf = false) (h1 : (i : Int) < min n.less n.more) (h2 : max n.less n.more < (len : Int)) : mayN len i n = true := by
  unfold mayN; rw [h]; simp; omega
theorem mayN_no1 {len i : Nat} {n : Node} (h : n.leaf = false) (h1 : min n.less n.more ≤ (i : Int)) : mayN len i n = false := by
  unfold mayN; rw [h]; simp; omega
theorem mayN_no2 {len i : Nat} {n : Node} (h : n.leaf = false) (h1 : (len : Int) ≤ max n.less n.more) : mayN len i n = false := by
  unfold mayN; rw [h]; simp; omega
set_option maxRecDepth 100000 in
set_option maxHeartbeats 400000 in
theorem May_calls (v : Value) (xs : List Node) (hl : xs.length ≤ 1000000) (w : World) (hv : Rd w 5 encN v xs) :
    Calls Try.prog 30 #[v] w fun e w' => e = .returned (.bool (may xs)) ∧ Ext w w' := by
  obtain ⟨a, c, rfl, hac, hca⟩ := rdN_cell hv
  clear hv
  go_enter Try.func30, Try.ntmps30
  go_wp2
  go_loopw [7] (fun i wr => ∃ k : Nat, k ≤ xs.length ∧ i = .int .i64 k ∧ Ext w wr ∧ mayL xs.length xs 0 = mayL xs.length (xs.drop k) k) (fun i _ => xs.length - (intOf i).toNat)
  case atStart => exact ⟨0, by omega, rfl, Ext.refl _, rfl⟩
  case round =>
    obtain ⟨k, hk, rfl, hx, heq⟩ := hrel
    have HX := Lib.hid hx
    by_cases hlt : k < xs.length
    · obtain ⟨b, o, rfl, h1, h2, h3, h4, h5⟩ := hca k hlt
      replace h1 := hx.cell h1; replace h2 := hx.cell h2; replace h3 := hx.cell h3; replace h4 := hx.cell h4; replace h5 := hx.cell h5
      rw [mayL_step _ hlt] at heq
      clear hca hx
      generalize hnv : xs[k] = n at *
      have Hhnv := Lib.hid hnv
      clear hnv
      obtain ⟨lf, wy, at_, ls, mr⟩ := n
      dsimp only at *
      cases lf
      case true =>
        rw [mayN_leaf rfl, Bool.true_and] at heq
        have Hheq := Lib.hid heq
        clear heq
        go_wp2
        go_roundw
        case rel => exact ⟨k + 1, by omega, by go_num, (by repeat (first | exact HX.out | apply Ext.drewN | apply Ext.alloc | apply Ext.drew)), Hheq.out⟩
        case measure => simp [intOf]; omega
      case false =>
        have hif1 : (if mr < ls then mr else ls) = min ls mr := by split <;> omega
        have hif2 : (if ls < mr then mr else ls) = max ls mr := by split <;> omega
        have hy := mayN_yes (len := xs.length) (i := k) (n := ⟨false, wy, at_, ls, mr⟩) rfl
        have hn1 := mayN_no1 (len := xs.length) (i := k) (n := ⟨false, wy, at_, ls, mr⟩) rfl
        have hn2 := mayN_no2 (len := xs.length) (i := k) (n := ⟨false, wy, at_, ls, mr⟩) rfl
        dsimp only at hy hn1 hn2
        generalize min ls mr = mn at *
        generalize max ls mr = mx at *
        by_cases c1 : mn ≤ (k : Int)
        · have hres : may xs = false := by unfold may; rw [heq, hn1 c1]; rfl
          have d1 : decide (mn ≤ (k : Int)) = true := decide_eq_true c1
          have Hheq := Lib.hid heq
          clear heq
          have Hhres := Lib.hid hres
          clear hres
          have Hc1 := Lib.hid c1
          clear c1
          clear hy hn1 hn2
          go_wp2
          go_ret
          exact ⟨by rw [Hhres.out]; rfl, (by repeat (first | exact HX.out | apply Ext.drewN | apply Ext.alloc | apply Ext.drew))⟩
        · have d1 : decide (mn ≤ (k : Int)) = false := decide_eq_false c1
          by_cases c2 : (xs.length : Int) ≤ mx
          · have hres : may xs = false := by unfold may; rw [heq, hn2 c2]; rfl
            have d2 : decide ((xs.length : Int) ≤ mx) = true := decide_eq_true c2
            have Hheq := Lib.hid heq
            clear heq
            have Hhres := Lib.hid hres
            clear hres
            have Hc1 := Lib.hid c1
            clear c1
            have Hc2 := Lib.hid c2
            clear c2
            clear hy hn1 hn2
            go_wp2
            go_ret
            exact ⟨by rw [Hhres.out]; rfl, (by repeat (first | exact HX.out | apply Ext.drewN | apply Ext.alloc | apply Ext.drew))⟩
          · have d2 : decide ((xs.length : Int) ≤ mx) = false := decide_eq_false c2
            rw [hy (by omega) (by omega), Bool.true_and] at heq
            have Hheq := Lib.hid heq
            clear heq
            have Hc1 := Lib.hid c1
            clear c1
            have Hc2 := Lib.hid c2
            clear c2
            clear hy hn1 hn2
            go_wp2
            go_roundw
            case rel => exact ⟨k + 1, by omega, by go_num, (by repeat (first | exact HX.out | apply Ext.drewN | apply Ext.alloc | apply Ext.drew)), Hheq.out⟩
            case measure => simp [intOf]; omega
    · obtain rfl : k = xs.length := by omega
      have hres : may xs = decide (0 < xs.length) := by unfold may; rw [heq, mayL_end, Bool.true_and]
      have Hhres := Lib.hid hres
      clear hres
      have Hheq := Lib.hid heq
      clear heq
      go_wp2
      go_ret
      exact ⟨by rw [Hhres.out]; simp, HX.out⟩
set_option maxRecDepth 100000 in
set_option maxHeartbeats 400000 in
theorem refMay_calls (v : Value) (xs : List Node) (hl : xs.length ≤ 1000000) (w : World) (hv : Rd w 5 encN v xs) :
    Calls Try.prog 31 #[v] w fun e w' => e = .returned (.bool (may xs)) ∧ Ext w w' := by
  obtain ⟨a, c, rfl, hac, hca⟩ := rdN_cell hv
  clear hv
  go_enter Try.func31, Try.ntmps31
  go_wp2
  go_loopw [3] (fun i wr => ∃ k : Nat, k ≤ xs.length ∧ i = .int .i64 k ∧ Ext w wr ∧ mayL xs.length xs 0 = mayL xs.length (xs.drop k) k) (fun i _ => xs.length - (intOf i).toNat)
  case atStart => exact ⟨0, by omega, rfl, Ext.refl _, rfl⟩
  case round =>
    obtain ⟨k, hk, rfl, hx, heq⟩ := hrel
    have HX := Lib.hid hx
    by_cases hlt : k < xs.length
    · obtain ⟨b, o, rfl, h1, h2, h3, h4, h5⟩ := hca k hlt
      replace h1 := hx.cell h1; replace h2 := hx.cell h2; replace h3 := hx.cell h3; replace h4 := hx.cell h4; replace h5 := hx.cell h5
      rw [mayL_step _ hlt] at heq
      clear hca hx
      generalize hnv : xs[k] = n at *
      have Hhnv := Lib.hid hnv
      clear hnv
      obtain ⟨lf, wy, at_, ls, mr⟩ := n
      dsimp only at *
      cases lf
      case true =>
        rw [mayN_leaf rfl, Bool.true_and] at heq
        have Hheq := Lib.hid heq
        clear heq
        go_wp2
        go_roundw
        case rel => exact ⟨k + 1, by omega, by go_num, (by repeat (first | exact HX.out | apply Ext.drewN | apply Ext.alloc | apply Ext.drew)), Hheq.out⟩
        case measure => simp [intOf]; omega
      case false =>
        by_cases c : (k : Int) < min ls mr ∧ max ls mr < (xs.length : Int)
        · have d1 : decide (ls ≤ (k : Int)) = false := decide_eq_false (by omega)
          have d2 : decide (mr ≤ (k : Int)) = false := decide_eq_false (by omega)
          have d3 : decide ((xs.length : Int) ≤ ls) = false := decide_eq_false (by omega)
          have d4 : decide ((xs.length : Int) ≤ mr) = false := decide_eq_false (by omega)
          rw [mayN_yes rfl c.1 c.2, Bool.true_and] at heq
          have Hheq := Lib.hid heq
          clear heq
          have Hc := Lib.hid c
          clear c
          go_wp2
          go_roundw
          case rel => exact ⟨k + 1, by omega, by go_num, (by repeat (first | exact HX.out | apply Ext.drewN | apply Ext.alloc | apply Ext.drew)), Hheq.out⟩
          case measure => simp [intOf]; omega
        · have hres : may xs = false := by
            unfold may; rw [heq]
            by_cases c1 : min ls mr ≤ (k : Int)
            · rw [mayN_no1 rfl c1]; rfl
            · rw [mayN_no2 rfl (by dsimp only; omega)]; rfl
          have Hheq := Lib.hid heq
          clear heq
          have Hhres := Lib.hid hres
          clear hres
          by_cases c1 : ls ≤ (k : Int)
          · have d1 : decide (ls ≤ (k : Int)) = true := decide_eq_true c1
            have Hc := Lib.hid c
            clear c
            have Hc1 := Lib.hid c1
            clear c1
            go_wp2
            go_ret
            exact ⟨by rw [Hhres.out]; rfl, (by repeat (first | exact HX.out | apply Ext.drewN | apply Ext.alloc | apply Ext.drew))⟩
          have d1 : decide (ls ≤ (k : Int)) = false := decide_eq_false c1
          by_cases c2 : mr ≤ (k : Int)
          · have d2 : decide (mr ≤ (k : Int)) = true := decide_eq_true c2
            have Hc := Lib.hid c
            clear c
            have Hc1 := Lib.hid c1
            clear c1
            have Hc2 := Lib.hid c2
            clear c2
            go_wp2
            go_ret
            exact ⟨by rw [Hhres.out]; rfl, (by repeat (first | exact HX.out | apply Ext.drewN | apply Ext.alloc | apply Ext.drew))⟩
          have d2 : decide (mr ≤ (k : Int)) = false := decide_eq_false c2
          by_cases c3 : (xs.length : Int) ≤ ls
          · have d3 : decide ((xs.length : Int) ≤ ls) = true := decide_eq_true c3
            have Hc := Lib.hid c
            clear c
            have Hc1 := Lib.hid c1
            clear c1
            have Hc2 := Lib.hid c2
            clear c2
            have Hc3 := Lib.hid c3
            clear c3
            go_wp2
            go_ret
            exact ⟨by rw [Hhres.out]; rfl, (by repeat (first | exact HX.out | apply Ext.drewN | apply Ext.alloc | apply Ext.drew))⟩
          have d3 : decide ((xs.length : Int) ≤ ls) = false := decide_eq_false c3
          have d4 : decide ((xs.length : Int) ≤ mr) = true := decide_eq_true (by omega)
          have Hc := Lib.hid c
          clear c
          have Hc1 := Lib.hid c1
          clear c1
          have Hc2 := Lib.hid c2
          clear c2
          have Hc3 := Lib.hid c3
          clear c3
          go_wp2
          go_ret
          exact ⟨by rw [Hhres.out]; rfl, (by repeat (first | exact HX.out | apply Ext.drewN | apply Ext.alloc | apply Ext.drew))⟩
    · obtain rfl : k = xs.length := by omega
      have hres : may xs = decide (0 < xs.length) := by unfold may; rw [heq, mayL_end, Bool.true_and]
      have Hhres := Lib.hid hres
      clear hres
      have Hheq := Lib.hid heq
      clear heq
      go_wp2
      go_ret
      exact ⟨by rw [Hhres.out]; simp, HX.out⟩
end L24
end Go.Proofs.Ytaclndhenhjjaaa
