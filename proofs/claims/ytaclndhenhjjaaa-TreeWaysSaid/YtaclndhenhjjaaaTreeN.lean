/- Layer 24: the law TreeWays. -/
import Derived.Test.YtaclndhenhjjaaaTreeJ
namespace Go.Proofs.Ytaclndhenhjjaaa
open Go.RowKit V
namespace L24
open L23
set_option maxRecDepth 100000 in
set_option maxHeartbeats 2000000 in
theorem TreeWays_calls (v : Value) (l : List Span) (n : Nat) (hnl : l.length ≤ maxLen) (hok : ∀ s ∈ l, OkS s) (hn : n < 4294967296) (w : World) (hv : Rd w 3 encS v l) :
    Calls Try.prog 12 #[v, .int .u32 (n : Int)] w fun e w' => e = .returned (.bool true) ∧ Ext w w' := by
  have hrd0 := hv
  obtain ⟨a, c, rfl, hac, -⟩ := rdS_cell hv
  clear hv
  have Hhrd0 := Lib.hid hrd0
  clear hrd0
  unfold maxLen at hnl
  by_cases hlen : 300 < l.length
  · have hd : decide (300 < l.length) = true := decide_eq_true hlen
    have hd' : decide (300 < (l.length : Int)) = true := decide_eq_true (by omega)
    have Hhlen := Lib.hid hlen
    clear hlen
    go_enter Try.func12, Try.ntmps12
    go_wp2_with (go_at_call 34; refine (awake_calls _).mono ?_; rintro e w1 ⟨rfl, hx1⟩)
    go_ret
    exact ⟨rfl, hx1⟩
  have hd : decide (300 < l.length) = false := decide_eq_false hlen
  have hd' : decide (300 < (l.length : Int)) = false := decide_eq_false (by omega)
  have hB := fun w1 (hx : Ext w w1) => Build_calls _ l (by omega) hok w1 (Hhrd0.out.ext hx)
  have hWh := fun w1 (hx : Ext w w1) => Whole_calls _ l (by omega) hok w1 (Hhrd0.out.ext hx)
  cases hw : whole l
  case false =>
    have hA : buildA l = ([], 240) := by unfold buildA; rw [hw]; rfl
    rw [hA] at hB
    rw [hw] at hWh
    have HhB := Lib.hid hB
    clear hB
    have HhA := Lib.hid hA
    clear hA
    have Hhw := Lib.hid hw
    clear hw
    have HhWh := Lib.hid hWh
    clear hWh
    have Hhlen := Lib.hid hlen
    clear hlen
    go_enter Try.func12, Try.ntmps12
    go_wp2_with fail
    refine (awake_calls _).mono ?_
    rintro e w1 ⟨rfl, hx1⟩
    go_wp2_with fail
    refine (HhB.out _ hx1).mono ?_
    rintro e w2 ⟨u, rfl, hx2, hq2⟩
    obtain ⟨au, cu, rfl, -⟩ := rdN_cell hq2.rd
    clear hq2
    go_wp2_with fail
    refine (HhWh.out _ (hx1.trans hx2)).mono ?_
    rintro e w3 ⟨rfl, hx3⟩
    go_wp2_with fail
    go_ret
    exact ⟨rfl, (hx1.trans hx2).trans hx3⟩
  have hA : buildA l = (tre l 0, 0) := by unfold buildA; rw [hw]; rfl
  have hp := whole_pos hw
  rw [hA] at hB
  dsimp only at hB
  have htl := tre_len l hp 0
  have hmy := tre_may hp
  have hch := (whole_iff l).1 hw
  have hwf : (way l n).2 = true := way_found hch (Nat.zero_le _) hn
  have hF := fun q (hq : l.length ≤ 2 ^ q) => build_find (q := q) hw hn hq
  have hD := fun q (hq : l.length ≤ 2 ^ q) => build_depth (q := q) hw hq
  have hC := fun v w1 (h : Rd w1 5 encN v (tre l 0)) => Find_calls v (tre l 0) n (by omega) w1 h
  have hDC := fun v w1 (h : Rd w1 5 encN v (tre l 0)) => Depth_calls v (tre l 0) (by omega) w1 h
  have hMC := fun v w1 (h : Rd w1 5 encN v (tre l 0)) => May_calls v (tre l 0) (by omega) w1 h
  have hWC := fun w1 (hx : Ext w w1) => Way_calls _ l n (by omega) hok w1 (Hhrd0.out.ext hx)
  rw [hmy] at hC hMC
  have hf1 := (hF 9 (by have : (2 : Nat) ^ 9 = 512 := rfl; omega)).1
  rw [hf1] at hC
  generalize way l n = wx at *
  obtain ⟨wx, wis⟩ := wx
  dsimp only at hwf hWC hC
  subst hwf
  have hF2 := fun q hq => (hF q hq).2
  clear hF hf1
  generalize (findA (tre l 0) n).2 = st at *
  generalize depthA (tre l 0) = dt at *
  generalize tre l 0 = t at *
  have HhB := Lib.hid hB
  clear hB
  have HhA := Lib.hid hA
  clear hA
  have Hhw := Lib.hid hw
  clear hw
  have HhWh := Lib.hid hWh
  clear hWh
  have Hhlen := Lib.hid hlen
  clear hlen
  have Hhtl := Lib.hid htl
  clear htl
  have Hhmy := Lib.hid hmy
  clear hmy
  have Hhch := Lib.hid hch
  clear hch
  have HhF2 := Lib.hid hF2
  clear hF2
  have HhD := Lib.hid hD
  clear hD
  have HhC := Lib.hid hC
  clear hC
  have HhDC := Lib.hid hDC
  clear hDC
  have HhMC := Lib.hid hMC
  clear hMC
  have HhWC := Lib.hid hWC
  clear hWC
  go_enter Try.func12, Try.ntmps12
  go_wp2_with fail
  refine (awake_calls _).mono ?_
  rintro e w1 ⟨rfl, hx1⟩
  go_wp2_with fail
  refine (HhB.out _ hx1).mono ?_
  rintro e w2 ⟨u, rfl, hx2, hq2⟩
  have HQ := Lib.hid hq2.rd
  obtain ⟨au, cu, rfl, -⟩ := rdN_cell hq2.rd
  have HX2 := Lib.hid (hx1.trans hx2)
  clear hq2 hx1 hx2
  go_wp2_with fail
  go_loop [7, 8] (fun most k => ∃ m q : Nat, most = .int .i64 m ∧ k = .int .i64 q ∧ q = 2 ^ m ∧ 1 ≤ q ∧ m ≤ q ∧ q ≤ 600) (fun _ k => 600 - (intOf k).toNat)
  case atStart => exact ⟨0, 1, rfl, rfl, rfl, by omega, by omega, by omega⟩
  case round =>
    obtain ⟨m, q, rfl, rfl, hq, hq1, hmq, hq6⟩ := hrel
    by_cases hlt : q < l.length
    · have hll : l.length ≤ 300 := by have := Hhlen.out; omega
      have Hhq := Lib.hid hq
      clear hq
      go_wp2
      go_round
      case rel => exact ⟨m + 1, 2 * q, by go_num, by go_num, by rw [Hhq.out, Nat.pow_succ]; omega, by omega, by omega, by omega⟩
      case measure => simp [intOf]; omega
    · have hst := HhF2.out m (by omega)
      have hdt := HhD.out m (by omega)
      have hd3 : decide ((st : Int) ≤ (m : Int)) = true := decide_eq_true (by omega)
      have hd4 : decide ((dt : Int) ≤ (m : Int)) = true := decide_eq_true (by omega)
      have hd3' : decide (st ≤ m) = true := decide_eq_true (by omega)
      have hd4' : decide (dt ≤ m) = true := decide_eq_true (by omega)
      have Hhst := Lib.hid hst
      clear hst
      have Hhdt := Lib.hid hdt
      clear hdt
      have Hhq := Lib.hid hq
      clear hq
      go_wp2_with fail
      refine (HhC.out _ _ HQ.out).mono ?_
      rintro e w3 ⟨rfl, hx3⟩
      go_wp2_with fail
      refine (HhWC.out _ (HX2.out.trans hx3)).mono ?_
      rintro e w4 ⟨rfl, hx4⟩
      have hx34 := hx3.trans hx4
      clear hx3 hx4
      go_wp2_with fail
      refine (HhDC.out _ _ (HQ.out.ext (by first | exact hx34 | (repeat (first | exact hx34 | apply Ext.drewN | apply Ext.drew))))).mono ?_
      rintro e w5 ⟨rfl, hx5⟩
      go_wp2_with fail
      refine (HhMC.out _ _ (HQ.out.ext (hx34.trans hx5))).mono ?_
      rintro e w6 ⟨rfl, hx6⟩
      go_wp2_with fail
      go_ret
      exact ⟨by simp, HX2.out.trans ((hx34.trans hx5).trans hx6)⟩
end L24
end Go.Proofs.Ytaclndhenhjjaaa
