/- Layer 24: the law TreeEdges. -/
import Derived.Test.YtaclndhenhjjaaaTreeJ
namespace Go.Proofs.Ytaclndhenhjjaaa
open Go.RowKit V
namespace L24
open L23
set_option maxRecDepth 100000 in
set_option maxHeartbeats 2000000 in
theorem TreeEdges_calls (v : Value) (l : List Span) (i : Int) (hnl : l.length ≤ maxLen) (hok : ∀ s ∈ l, OkS s) (hi1 : -9223372036854775808 ≤ i) (hi2 : i ≤ 9223372036854775807) (w : World) (hv : Rd w 3 encS v l) :
    Calls Try.prog 11 #[v, .int .i64 i] w fun e w' => e = .returned (.bool true) ∧ Ext w w' := by
  have hrd0 := hv
  obtain ⟨a, c, rfl, hac, hca⟩ := rdS_cell hv
  clear hv
  have Hhrd0 := Lib.hid hrd0
  clear hrd0
  have Hhca := Lib.hid hca
  clear hca
  unfold maxLen at hnl
  by_cases hlen : 300 < l.length
  · have hd : decide (300 < l.length) = true := decide_eq_true hlen
    have hd' : decide (300 < (l.length : Int)) = true := decide_eq_true (by omega)
    have Hhlen := Lib.hid hlen
    clear hlen
    go_enter Try.func11, Try.ntmps11
    go_wp2_with (go_at_call 34; refine (awake_calls _).mono ?_; rintro e w1 ⟨rfl, hx1⟩)
    go_ret
    exact ⟨rfl, hx1⟩
  have hd : decide (300 < l.length) = false := decide_eq_false hlen
  have hd' : decide (300 < (l.length : Int)) = false := decide_eq_false (by omega)
  by_cases hi0 : i < 0
  · have hd2 : decide (i < 0) = true := decide_eq_true hi0
    have Hhlen := Lib.hid hlen
    clear hlen
    go_enter Try.func11, Try.ntmps11
    go_wp2_with (go_at_call 34; refine (awake_calls _).mono ?_; rintro e w1 ⟨rfl, hx1⟩)
    go_ret
    exact ⟨rfl, hx1⟩
  obtain ⟨i, rfl⟩ := Int.eq_ofNat_of_zero_le (by omega : 0 ≤ i)
  have hd2 : decide ((i : Int) < 0) = false := decide_eq_false (by omega)
  by_cases hil : l.length ≤ i
  · have hd3 : decide (l.length ≤ i) = true := decide_eq_true hil
    have hd3' : decide ((l.length : Int) ≤ (i : Int)) = true := decide_eq_true (by omega)
    have Hhlen := Lib.hid hlen
    clear hlen
    go_enter Try.func11, Try.ntmps11
    go_wp2_with (go_at_call 34; refine (awake_calls _).mono ?_; rintro e w1 ⟨rfl, hx1⟩)
    go_ret
    exact ⟨rfl, hx1⟩
  have hlt : i < l.length := by omega
  have hd3 : decide (l.length ≤ i) = false := decide_eq_false hil
  have hd3' : decide ((l.length : Int) ≤ (i : Int)) = false := decide_eq_false (by omega)
  have hB := fun w1 (hx : Ext w w1) => Build_calls _ l (by omega) hok w1 (Hhrd0.out.ext hx)
  cases hw : whole l
  case false =>
    have hA : buildA l = ([], 240) := by unfold buildA; rw [hw]; rfl
    rw [hA] at hB
    have HhB := Lib.hid hB
    clear hB
    have HhA := Lib.hid hA
    clear hA
    have Hhw := Lib.hid hw
    clear hw
    have Hhlen := Lib.hid hlen
    clear hlen
    have Hhil := Lib.hid hil
    clear hil
    go_enter Try.func11, Try.ntmps11
    go_wp2_with (first
      | (go_at_call 34; refine (awake_calls _).mono ?_; rintro e w1 ⟨rfl, hx1⟩)
      | (go_at_call 25; refine (HhB.out _ hx1).mono ?_; rintro e w2 ⟨u, rfl, hx2, -⟩))
    go_ret
    exact ⟨rfl, hx1.trans hx2⟩
  have hA : buildA l = (tre l 0, 0) := by unfold buildA; rw [hw]; rfl
  have hp := whole_pos hw
  rw [hA] at hB
  dsimp only at hB
  have htl := tre_len l hp 0
  have hmy := tre_may hp
  have hch := (whole_iff l).1 hw
  have hoi := hok _ (List.getElem_mem hlt)
  have hle := chain_le hch hlt
  have hF := fun n (hn : n < 4294967296) => (build_find (q := 10) hw hn (by have : (2 : Nat) ^ 10 = 1024 := rfl; omega)).1
  have f1 := hF l[i].lo hoi.l
  have f2 := hF l[i].hi hoi.h
  rw [way_first hch hlt (Nat.le_refl _) hle] at f1
  rw [way_first hch hlt hle (Nat.le_refl _)] at f2
  have hC1 := fun v w1 (h : Rd w1 5 encN v (tre l 0)) => Find_calls v (tre l 0) l[i].lo (by omega) w1 h
  have hC2 := fun v w1 (h : Rd w1 5 encN v (tre l 0)) => Find_calls v (tre l 0) l[i].hi (by omega) w1 h
  rw [f1, hmy] at hC1
  rw [f2, hmy] at hC2
  obtain ⟨b, o, rfl, s1, s2, s3⟩ := Hhca.out i hlt
  have hbi : (i : Int) < (l.length : Int) := by omega
  have hbi2 : (0 : Int) ≤ (i : Int) := by omega
  by_cases hz : i = 0
  · have hz2 : ((i : Int) == 0) = true := by rw [hz]; rfl
    generalize (findA (tre l 0) l[i].lo).2 = st1 at *
    generalize (findA (tre l 0) l[i].hi).2 = st2 at *
    generalize tre l 0 = t at *
    generalize l[i].lo = lo at *
    generalize l[i].hi = hi at *
    generalize l[i].way = wy' at *
    have HhB := Lib.hid hB
    clear hB
    have HhA := Lib.hid hA
    clear hA
    have Hhw := Lib.hid hw
    clear hw
    have Hhlen := Lib.hid hlen
    clear hlen
    have Hhtl := Lib.hid htl
    clear htl
    have Hhmy := Lib.hid hmy
    clear hmy
    have Hhch := Lib.hid hch
    clear hch
    have HhF := Lib.hid hF
    clear hF
    have Hf1 := Lib.hid f1
    clear f1
    have Hf2 := Lib.hid f2
    clear f2
    have HhC1 := Lib.hid hC1
    clear hC1
    have HhC2 := Lib.hid hC2
    clear hC2
    have Hhz := Lib.hid hz
    clear hz
    have Hhoi := Lib.hid hoi
    clear hoi
    have Hhil := Lib.hid hil
    clear hil
    go_enter Try.func11, Try.ntmps11
    go_wp2_with fail
    refine (awake_calls _).mono ?_
    rintro e w1 ⟨rfl, hx1⟩
    go_wp2_with fail
    refine (HhB.out _ hx1).mono ?_
    rintro e w2 ⟨u, rfl, hx2, hq2⟩
    have hx12 := hx1.trans hx2
    have HQ := Lib.hid hq2.rd
    obtain ⟨au, cu, rfl, -⟩ := rdN_cell hq2.rd
    replace s1 := hx12.cell s1; replace s2 := hx12.cell s2; replace s3 := hx12.cell s3
    clear hq2 hx1 hx2
    go_wp2_with fail
    refine (HhC1.out _ _ HQ.out).mono ?_
    rintro e w3 ⟨rfl, hx3⟩
    replace s1 := hx3.cell s1; replace s2 := hx3.cell s2; replace s3 := hx3.cell s3
    go_wp2_with fail
    refine (HhC2.out _ _ (HQ.out.ext hx3)).mono ?_
    rintro e w4 ⟨rfl, hx4⟩
    replace s1 := hx4.cell s1; replace s2 := hx4.cell s2; replace s3 := hx4.cell s3
    go_wp2
    go_ret
    exact ⟨rfl, (hx12.trans hx3).trans hx4⟩
  · have hz2 : ((i : Int) == 0) = false := by simp; omega
    obtain ⟨p, hpv⟩ : ∃ p, p = i - 1 := ⟨_, rfl⟩
    have hpl : p < l.length := by omega
    have hcn : l[i].lo = l[p].hi + 1 ∧ l[p].lo ≤ l[p].hi := by
      have hq : p + 1 < l.length := by omega
      have h9 := chain_next hch hq
      have e9 : l[p + 1] = l[i] := by congr 1; omega
      rw [e9] at h9
      exact ⟨h9.1, h9.2.1⟩
    obtain ⟨g1, g2⟩ := hcn
    have hop := hok _ (List.getElem_mem hpl)
    have f3 := hF l[p].hi hop.h
    rw [way_first hch hpl g2 (Nat.le_refl _)] at f3
    have hC3 := fun v w1 (h : Rd w1 5 encN v (tre l 0)) => Find_calls v (tre l 0) l[p].hi (by omega) w1 h
    rw [f3, hmy] at hC3
    obtain ⟨b', o', e', -, -, p3⟩ := Hhca.out p hpl
    obtain ⟨rfl, rfl⟩ : b = b' ∧ o = o' := by simpa using e'
    clear e'
    have hpi : ((i : Int) - 1) = (p : Int) := by omega
    have hlop : ((l[i].lo : Int) - 1) = (l[p].hi : Int) := by omega
    have hloh := hop.h
    have hbp : (p : Int) < (l.length : Int) := by omega
    have hbp2 : (0 : Int) ≤ (p : Int) := by omega
    have hlol := hoi.l
    have hlo1 : 1 ≤ l[i].lo := by omega
    generalize (findA (tre l 0) l[i].lo).2 = st1 at *
    generalize (findA (tre l 0) l[i].hi).2 = st2 at *
    generalize (findA (tre l 0) l[p].hi).2 = st3 at *
    generalize tre l 0 = t at *
    generalize l[i].lo = lo at *
    generalize l[i].hi = hi at *
    generalize l[i].way = wy' at *
    generalize l[p].hi = hip at *
    generalize l[p].way = wyp at *
    have HhB := Lib.hid hB
    clear hB
    have HhA := Lib.hid hA
    clear hA
    have Hhw := Lib.hid hw
    clear hw
    have Hhlen := Lib.hid hlen
    clear hlen
    have Hhtl := Lib.hid htl
    clear htl
    have Hhmy := Lib.hid hmy
    clear hmy
    have Hhch := Lib.hid hch
    clear hch
    have HhF := Lib.hid hF
    clear hF
    have Hf1 := Lib.hid f1
    clear f1
    have Hf2 := Lib.hid f2
    clear f2
    have Hf3 := Lib.hid f3
    clear f3
    have HhC1 := Lib.hid hC1
    clear hC1
    have HhC2 := Lib.hid hC2
    clear hC2
    have HhC3 := Lib.hid hC3
    clear hC3
    have Hhz := Lib.hid hz
    clear hz
    have Hhoi := Lib.hid hoi
    clear hoi
    have Hhop := Lib.hid hop
    clear hop
    have Hg1 := Lib.hid g1
    clear g1
    clear g2
    have Hhpv := Lib.hid hpv
    clear hpv
    go_enter Try.func11, Try.ntmps11
    go_wp2_with fail
    refine (awake_calls _).mono ?_
    rintro e w1 ⟨rfl, hx1⟩
    go_wp2_with fail
    refine (HhB.out _ hx1).mono ?_
    rintro e w2 ⟨u, rfl, hx2, hq2⟩
    have hx12 := hx1.trans hx2
    have HQ := Lib.hid hq2.rd
    obtain ⟨au, cu, rfl, -⟩ := rdN_cell hq2.rd
    replace s1 := hx12.cell s1; replace s2 := hx12.cell s2; replace s3 := hx12.cell s3; replace p3 := hx12.cell p3
    clear hq2 hx1 hx2
    go_wp2_with fail
    refine (HhC1.out _ _ HQ.out).mono ?_
    rintro e w3 ⟨rfl, hx3⟩
    replace s1 := hx3.cell s1; replace s2 := hx3.cell s2; replace s3 := hx3.cell s3; replace p3 := hx3.cell p3
    go_wp2_with fail
    refine (HhC2.out _ _ (HQ.out.ext hx3)).mono ?_
    rintro e w4 ⟨rfl, hx4⟩
    replace s1 := hx4.cell s1; replace s2 := hx4.cell s2; replace s3 := hx4.cell s3; replace p3 := hx4.cell p3
    have hx24 := hx3.trans hx4
    clear hx3 hx4
    go_wp2_with fail
    refine (HhC3.out _ _ (HQ.out.ext (by repeat (first | exact hx24 | apply Ext.drewN | apply Ext.drew)))).mono ?_
    rintro e w5 ⟨rfl, hx5⟩
    replace s1 := hx5.cell s1; replace s2 := hx5.cell s2; replace s3 := hx5.cell s3; replace p3 := hx5.cell p3
    go_wp2
    go_ret
    exact ⟨by simp, (hx12.trans hx24).trans hx5⟩
end L24
end Go.Proofs.Ytaclndhenhjjaaa
