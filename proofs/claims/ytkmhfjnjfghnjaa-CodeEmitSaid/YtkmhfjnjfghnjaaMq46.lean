import Derived.Test.YtkmhfjnjfghnjaaMq44
import Derived.Test.YtkmhfjnjfghnjaaMq45
import Derived.Test.YtkmhfjnjfghnjaaMq18
/- Layer 25: the walk of the reference's Run. -/
namespace Go.Proofs.Ytkmhfjnjfghnjaa
open Go.RowKit V
namespace L25
set_option maxRecDepth 100000 in
set_option maxHeartbeats 4000000 in
theorem refRun_calls (v : Value) (xs : List Sy) (hok : ∀ s ∈ xs, OkY s) (d : Dat) (hd : OkD d) (hl : xs.length ≤ 1000000) (w : World) (hv : Rd w 4 encY v xs) :
    Calls Try.prog 33 #[v, datV d] w fun e w' => e = .returned (.tuple #[.int .u32 ((runA d xs).1 : Nat), .int .i64 ((runA d xs).2 : Nat), .int .i64 (runE xs)]) ∧ Ext w w' := by
  have hM := fun (W : World) (hx : Ext w W) => refMay_calls v xs hl W (hv.ext hx)
  obtain ⟨a, c, rfl, hac, hca⟩ := rdY_cell hv
  clear hv
  unfold datV
  cases hm : mayA xs
  case false =>
    rw [hm] at hM
    have hA : runA d xs = (0, 0) := by unfold runA; rw [if_neg (by rw [hm]; simp)]
    have hE : runE xs = 250 := by unfold runE; rw [if_neg (by rw [hm]; simp)]
    rw [hA, hE]
    have HhA := Lib.hid hA
    clear hA
    have HhE := Lib.hid hE
    clear hE
    have Hhm := Lib.hid hm
    clear hm
    have HhM := Lib.hid hM
    clear hM
    have Hhok := Lib.hid hok
    clear hok
    clear hca
    go_enter Try.func33, Try.ntmps33
    go_wp2_with fail
    refine (HhM.out _ ((Ext.refl _).alloc _)).mono ?_
    rintro e w1 ⟨rfl, hx1⟩
    go_wp2_with fail
    go_ret3
    exact ⟨rfl, ((Ext.refl _).alloc _).trans hx1⟩
  have hA : runA d xs = run1 d xs (xs.length - 0) 0 0 0 := by unfold runA; rw [if_pos hm]; rfl
  have hE : runE xs = 0 := by unfold runE; rw [if_pos hm]
  have hpos := mayA_pos hm
  have hlen : xs.length ≤ 131072 := by unfold mayA at hm; simp at hm; omega
  have hgt := fun j (hj : j < xs.length) h6 a => nx_in hm hj h6 a
  have hend := fun i a st (hi : i < xs.length) h6 => run1_end (d := d) (a := a) (st := st) hi h6
  have hst := fun i a st (hi : i < xs.length) h6 => run1_step (d := d) hm (a := a) (st := st) hi h6
  have hjm := fun j (hj : j < xs.length) h6 h1 h2 a => jmp_int hm hj h6 h1 h2 a
  have hge := fun j (hj : j < xs.length) => mayA_get hm hj
  have hW := fun k W => refWord_calls d hd k W
  unfold datV at hW
  have hnb := fun s a (ha : a < 4294967296) => na_bd hd s ha
  rw [hm] at hM
  rw [hE]
  have HhA := Lib.hid hA
  clear hA
  have HhE := Lib.hid hE
  clear hE
  have Hhm := Lib.hid hm
  clear hm
  have HhM := Lib.hid hM
  clear hM
  have Hhok := Lib.hid hok
  clear hok
  have Hhgt := Lib.hid hgt
  clear hgt
  have Hhend := Lib.hid hend
  clear hend
  have Hhst := Lib.hid hst
  clear hst
  have Hhjm := Lib.hid hjm
  clear hjm
  have Hhge := Lib.hid hge
  clear hge
  have HhW := Lib.hid hW
  clear hW
  have Hhnb := Lib.hid hnb
  clear hnb
  have Hhca := Lib.hid hca
  clear hca
  go_enter Try.func33, Try.ntmps33
  go_wp2_with fail
  obtain ⟨W1, hW1⟩ : ∃ W1, W1 = w.alloc (.cells #[.int .u32 (d.nr : Int), .int .u32 (d.ar : Int), .int .u64 (d.ip : Int), .int .u64 (d.a0 : Int), .int .u64 (d.a1 : Int), .int .u64 (d.a2 : Int), .int .u64 (d.a3 : Int), .int .u64 (d.a4 : Int), .int .u64 (d.a5 : Int)] 40) := ⟨_, rfl⟩
  have hx1 : Ext w W1 := by rw [hW1]; exact (Ext.refl _).alloc _
  have hcd : Cd W1 w.heap.size d := by
    refine ⟨?_, ?_, ?_, ?_, ?_, ?_, ?_, ?_, ?_⟩ <;> (rw [hW1]; simp [go_sem])
  rw [← hW1]
  clear hW1
  refine (HhM.out _ hx1).mono ?_
  rintro e w2 ⟨rfl, hx2⟩
  have HCD := Lib.hid (hcd.ext hx2)
  have HX2 := Lib.hid (hx1.trans hx2)
  clear hx1 hx2 hcd
  go_wp2_with fail
  go_loopw [7, 8, 9] (fun av pv sv wr => ∃ st a i : Nat, i < xs.length ∧ st ≤ i ∧ a < 4294967296 ∧ sv = .int .i64 st ∧ av = .int .u32 a ∧ pv = .int .i64 i ∧ Ext w2 wr ∧ runA d xs = run1 d xs (xs.length - i) i a st) (fun _ p _ _ => xs.length - (intOf p).toNat)
  case atStart => exact ⟨0, 0, 0, hpos, by omega, by omega, rfl, rfl, rfl, Ext.refl _, HhA.out⟩
  case round =>
    obtain ⟨st, ac, i, hi, hsi, hac2, rfl, rfl, rfl, hx, heq⟩ := hrel
    have HX := Lib.hid hx
    obtain ⟨b, o, rfl, h1, h2, h3, h4⟩ := Hhca.out i hi
    have hz := HX2.out.trans hx
    replace h1 := hz.cell h1; replace h2 := hz.cell h2; replace h3 := hz.cell h3; replace h4 := hz.cell h4
    have hcd := HCD.out.ext hx
    have HCDr := Lib.hid hcd
    have hoy := Hhok.out (xs[i]'hi) (List.getElem_mem hi)
    have hok1 := hoy.c
    have hok2 := hoy.k
    have hend := Hhend.out i ac st hi
    have hst := Hhst.out i ac st hi
    have hgt := Hhgt.out i hi
    have hjm := Hhjm.out i hi
    have hge := Hhge.out i hi
    have hnb := Hhnb.out (xs[i]'hi) ac hac2
    have hnj := fun h1 h2 => na_jmp (d := d) (s := xs[i]'hi) (a := ac) h1 h2
    clear hx hz hoy hcd
    generalize xs[i] = s at *
    obtain ⟨c, k, th, el⟩ := s
    dsimp only at *
    have Hhend := Lib.hid hend
    clear hend
    have Hhst := Lib.hid hst
    clear hst
    have Hhgt := Lib.hid hgt
    clear hgt
    have Hhjm := Lib.hid hjm
    clear hjm
    have Hhge := Lib.hid hge
    clear hge
    have Hhnj := Lib.hid hnj
    clear hnj
    by_cases c1 : c = 6
    · subst c1
      have hr := heq.trans (Hhend.out rfl)
      have hr1 : (runA d xs).1 = k := by rw [hr]
      have hr2 : (runA d xs).2 = st + 1 := by rw [hr]
      have Hhr := Lib.hid hr
      clear hr
      have Hhr1 := Lib.hid hr1
      clear hr1
      have Hhr2 := Lib.hid hr2
      clear hr2
      have Hheq := Lib.hid heq
      clear heq
      go_wp2_with fail
      go_ret3
      exact ⟨by rw [Hhr1.out, Hhr2.out]; rfl, HX2.out.trans (HX.out.alloc _)⟩
    have hs1 := heq.trans (Hhst.out c1)
    obtain ⟨g1, g2⟩ := Hhgt.out c1 ac
    have Hheq := Lib.hid heq
    clear heq
    have Hhs1 := Lib.hid hs1
    clear hs1
    by_cases c2 : c = 32
    · subst c2
      have hkw := okW_of Hhge.out rfl
      have hn1 : na d ⟨32, k, th, el⟩ ac = wd d k := by unfold na; rw [if_pos rfl]
      have hn2 : nx ⟨32, k, th, el⟩ i ac = i + 1 := nx_lin (.inl rfl)
      have hWk := HhW.out k
      have hwa : wordA d k = (wd d k, 0) := by unfold wordA; rw [if_pos hkw]
      rw [hwa] at hWk
      dsimp only at hWk
      rw [hn2] at g2
      rw [hn1] at hnb
      have hs2 := Hhs1.out
      rw [hn1, hn2] at hs2
      generalize wd d k = x at *
      have hcq := fun o => HCDr.out.ext ((Ext.refl wr).alloc o)
      have q0 := fun o => (hcq o).1
      have q1 := fun o => (hcq o).2.1
      have q2 := fun o => (hcq o).2.2.1
      have q3 := fun o => (hcq o).2.2.2.1
      have q4 := fun o => (hcq o).2.2.2.2.1
      have q5 := fun o => (hcq o).2.2.2.2.2.1
      have q6 := fun o => (hcq o).2.2.2.2.2.2.1
      have q7 := fun o => (hcq o).2.2.2.2.2.2.2.1
      have q8 := fun o => (hcq o).2.2.2.2.2.2.2.2
      have HCQ := Lib.hid hcq
      clear hcq
      have Hhs2 := Lib.hid hs2
      clear hs2
      have Hhn1 := Lib.hid hn1
      clear hn1
      have Hhn2 := Lib.hid hn2
      clear hn2
      have Hhwa := Lib.hid hwa
      clear hwa
      have Hhkw := Lib.hid hkw
      clear hkw
      have HhWk := Lib.hid hWk
      clear hWk
      have Hc1 := Lib.hid c1
      clear c1
      go_wp2_with fail
      refine (HhWk.out _).mono ?_
      rintro e w5 ⟨rfl, hx5⟩
      have r0 := hx5.cell (p := ⟨wr.heap.size, 0, none⟩) (by simp [go_sem]; rfl)
      go_wp2_with fail
      first
        | (go_roundw
           case rel => exact ⟨st + 1, x, i + 1, g2, by omega, hnb, by go_num, rfl, by go_num, (HX.out.alloc _).trans hx5, Hhs2.out⟩
           case measure => simp [intOf]; omega)
        | exact ⟨⟨st + 1, x, i + 1, g2, by omega, hnb, by go_num, rfl, by go_num, (HX.out.alloc _).trans hx5, Hhs2.out⟩, by simp [intOf]; omega⟩
    by_cases c3 : c = 84
    · subst c3
      have hn1 : na d ⟨84, k, th, el⟩ ac = ac &&& k := by unfold na; rw [if_neg (by show ¬ (84 : Nat) = 32; decide), if_pos rfl]
      have hn2 : nx ⟨84, k, th, el⟩ i ac = i + 1 := nx_lin (.inr rfl)
      have hab := and_u32 hac2 hok2
      rw [hn2] at g2
      rw [hn1] at hnb
      have hs2 := Hhs1.out
      rw [hn1, hn2] at hs2
      generalize ac &&& k = x at *
      have Hhs2 := Lib.hid hs2
      clear hs2
      have Hhn1 := Lib.hid hn1
      clear hn1
      have Hhn2 := Lib.hid hn2
      clear hn2
      have Hc1 := Lib.hid c1
      clear c1
      have Hc2 := Lib.hid c2
      clear c2
      go_wp2_with fail
      first
        | (go_roundw
           case rel => exact ⟨st + 1, x, i + 1, g2, by omega, hnb, by go_num, rfl, by go_num, HX.out.alloc _, Hhs2.out⟩
           case measure => simp [intOf]; omega)
        | exact ⟨⟨st + 1, x, i + 1, g2, by omega, hnb, by go_num, rfl, by go_num, HX.out.alloc _, Hhs2.out⟩, by simp [intOf]; omega⟩
    have hj := Hhjm.out c1 c2 c3 ac
    have hn1 := Hhnj.out c2 c3
    have hs2 := Hhs1.out
    rw [hn1] at hs2
    have f1 : ((c : Int) == 32) = false := beq_eq_false_iff_ne.mpr (by omega)
    have f2 : ((c : Int) == 84) = false := beq_eq_false_iff_ne.mpr (by omega)
    have f3 : ((c : Int) == 6) = false := beq_eq_false_iff_ne.mpr (by omega)
    have Hc1 := Lib.hid c1
    clear c1
    have Hc2 := Lib.hid c2
    clear c2
    have Hc3 := Lib.hid c3
    clear c3
    have Hhn1 := Lib.hid hn1
    clear hn1
    have Hhs2 := Lib.hid hs2
    clear hs2
    clear hnb f1 f2 f3
    have hab := and_u32 hac2 hok2
    have e1 : ((ac : Int) == (k : Int)) = (ac == k) := by rw [Bool.eq_iff_iff]; simp; omega
    have e2 : decide ((k : Int) < (ac : Int)) = decide (k < ac) := by rw [Bool.eq_iff_iff]; simp
    have e3 : decide ((k : Int) ≤ (ac : Int)) = decide (k ≤ ac) := by rw [Bool.eq_iff_iff]; simp
    have e5 : decide ((0 : Int) < ((ac &&& k : Nat) : Int)) = ((ac &&& k) != 0) := by rw [Bool.eq_iff_iff]; simp; omega
    have hcode := may1_code Hhge.out
    dsimp only at hcode
    have hH : hld ⟨c, k, th, el⟩ ac = if c = 21 then ac == k else if c = 37 then decide (k < ac) else if c = 53 then decide (k ≤ ac) else if c = 69 then (ac &&& k) != 0 else true := rfl
    generalize nx ⟨c, k, th, el⟩ i ac = gi at *
    generalize (ac &&& k) = mm at *
    rw [hH] at hj
    have hcode2 : c = 5 ∨ c = 21 ∨ c = 37 ∨ c = 53 ∨ c = 69 := by have := Hc1.out; have := Hc2.out; have := Hc3.out; omega
    clear hcode hH
    rcases hcode2 with rfl | rfl | rfl | rfl | rfl
    · skip
      simp at hj
      subst hj
      go_wp2_with fail
      first
        | (go_roundw
           case rel => exact ⟨st + 1, ac, gi, g2, by omega, hac2, by go_num, rfl, rfl, HX.out.alloc _, Hhs2.out⟩
           case measure => simp [intOf]; omega)
        | exact ⟨⟨st + 1, ac, gi, g2, by omega, hac2, by go_num, rfl, rfl, HX.out.alloc _, Hhs2.out⟩, by simp [intOf]; omega⟩
    · clear e2 e3 e5 hab
      cases hb : (ac == k)
      all_goals
        rw [hb] at e1 hj
        simp at hj
        subst hj
        go_wp2_with fail
        first
          | (go_roundw
             case rel => exact ⟨st + 1, ac, gi, g2, by omega, hac2, by go_num, rfl, rfl, HX.out.alloc _, Hhs2.out⟩
             case measure => simp [intOf]; omega)
          | exact ⟨⟨st + 1, ac, gi, g2, by omega, hac2, by go_num, rfl, rfl, HX.out.alloc _, Hhs2.out⟩, by simp [intOf]; omega⟩
    · clear e1 e3 e5 hab
      cases hb : decide (k < ac)
      all_goals
        rw [hb] at e2 hj
        simp at hj
        subst hj
        go_wp2_with fail
        first
          | (go_roundw
             case rel => exact ⟨st + 1, ac, gi, g2, by omega, hac2, by go_num, rfl, rfl, HX.out.alloc _, Hhs2.out⟩
             case measure => simp [intOf]; omega)
          | exact ⟨⟨st + 1, ac, gi, g2, by omega, hac2, by go_num, rfl, rfl, HX.out.alloc _, Hhs2.out⟩, by simp [intOf]; omega⟩
    · clear e1 e2 e5 hab
      cases hb : decide (k ≤ ac)
      all_goals
        rw [hb] at e3 hj
        simp at hj
        subst hj
        go_wp2_with fail
        first
          | (go_roundw
             case rel => exact ⟨st + 1, ac, gi, g2, by omega, hac2, by go_num, rfl, rfl, HX.out.alloc _, Hhs2.out⟩
             case measure => simp [intOf]; omega)
          | exact ⟨⟨st + 1, ac, gi, g2, by omega, hac2, by go_num, rfl, rfl, HX.out.alloc _, Hhs2.out⟩, by simp [intOf]; omega⟩
    · clear e1 e2 e3 e5
      by_cases hz : mm = 0
      · subst hz
        have e7 : decide ((0 : Int) < ((0 : Nat) : Int)) = false := rfl
        simp at hj
        subst hj
        go_wp2_with fail
        first
          | (go_roundw
             case rel => exact ⟨st + 1, ac, gi, g2, by omega, hac2, by go_num, rfl, rfl, HX.out.alloc _, Hhs2.out⟩
             case measure => simp [intOf]; omega)
          | exact ⟨⟨st + 1, ac, gi, g2, by omega, hac2, by go_num, rfl, rfl, HX.out.alloc _, Hhs2.out⟩, by simp [intOf]; omega⟩
      · have e7 : decide ((0 : Int) < (mm : Int)) = true := decide_eq_true (by omega)
        have e8 : decide (0 < mm) = true := decide_eq_true (by omega)
        have e9 : (mm != 0) = true := by simp [hz]
        rw [e9] at hj
        clear e9
        have Hhz := Lib.hid hz
        clear hz
        simp at hj
        subst hj
        go_wp2_with fail
        first
          | (go_roundw
             case rel => exact ⟨st + 1, ac, gi, g2, by omega, hac2, by go_num, rfl, rfl, HX.out.alloc _, Hhs2.out⟩
             case measure => simp [intOf]; omega)
          | exact ⟨⟨st + 1, ac, gi, g2, by omega, hac2, by go_num, rfl, rfl, HX.out.alloc _, Hhs2.out⟩, by simp [intOf]; omega⟩
end L25
end Go.Proofs.Ytkmhfjnjfghnjaa

