import Derived.Test.YtkmhfjnjfghnjaaMq15
import Derived.Test.YtkmhfjnjfghnjaaMq17
/- Layer 25: plain: what a chain of asks with one place to go to tells. -/
namespace Go.Proofs.Ytkmhfjnjfghnjaa
open Go.RowKit V
namespace L25
theorem chain_run {d : Dat} {L : List Sy} (hm : mayA L = true) {ks : List Nat} {nA : Nat} (hk : ∀ i (h : i < ks.length), L[1 + i]? = some ⟨21, ks[i], (nA : Int), ((2 + i : Nat) : Int)⟩)
    (hA6 : L[nA]? = some ⟨6, 2147418112, 0, 0⟩) (a : Nat) : ∀ (n i st : Nat), i + n = ks.length → 1 + ks.length < L.length →
      ∃ st', run1 d L (L.length - (1 + i)) (1 + i) a st = if (ks.drop i).contains a = true then (2147418112, st') else run1 d L (L.length - (1 + ks.length)) (1 + ks.length) a st'
  | 0, i, st, hi, hl => ⟨st, by
    have e : i = ks.length := by omega
    subst e
    rw [List.drop_length, if_neg (by simp)]⟩
  | n + 1, i, st, hi, hl => by
    have hlt : i < ks.length := by omega
    have h1 := hk i hlt
    have hin : 1 + i < L.length := by omega
    rw [List.getElem?_eq_getElem hin] at h1
    have e1 := Option.some.inj h1
    have hstep := run1_step (d := d) (a := a) (st := st) hm hin (by rw [e1]; show (21 : Nat) ≠ 6; decide)
    rw [hstep, e1]
    have hna : na d ⟨21, ks[i], (nA : Int), ((2 + i : Nat) : Int)⟩ a = a := by unfold na; rw [if_neg (by show ¬ (21 : Nat) = 32; decide), if_neg (by show ¬ (21 : Nat) = 84; decide)]
    rw [hna, List.drop_eq_getElem_cons hlt, List.contains_cons]
    have hh : hld ⟨21, ks[i], (nA : Int), ((2 + i : Nat) : Int)⟩ a = (a == ks[i]) := by unfold hld; rw [if_pos rfl]
    cases hc : a == ks[i]
    · have hnx : nx ⟨21, ks[i], (nA : Int), ((2 + i : Nat) : Int)⟩ (1 + i) a = 1 + (i + 1) := by
        unfold nx
        rw [if_neg (by simp), hh, hc, if_neg (by simp)]
        show ((2 + i : Nat) : Int).toNat = _
        omega
      rw [hnx, Bool.false_or]
      exact chain_run hm hk hA6 a n (i + 1) (st + 1) (by omega) hl
    · have hnx : nx ⟨21, ks[i], (nA : Int), ((2 + i : Nat) : Int)⟩ (1 + i) a = nA := by
        unfold nx
        rw [if_neg (by simp), hh, hc, if_pos rfl]
        show (nA : Int).toNat = _
        omega
      have hAl : nA < L.length := by
        rcases Nat.lt_or_ge nA L.length with h | h
        · exact h
        · rw [List.getElem?_eq_none h] at hA6; cases hA6
      rw [List.getElem?_eq_getElem hAl] at hA6
      have e2 := Option.some.inj hA6
      rw [hnx, run1_end hAl (by rw [e2]), e2, Bool.true_or]
      exact ⟨st + 1 + 1, by rw [if_pos rfl]⟩
end L25
end Go.Proofs.Ytkmhfjnjfghnjaa

/- Layer 25: the walk of Run. -/
namespace Go.Proofs.Ytkmhfjnjfghnjaa
open Go.RowKit V
namespace L25
def runE (l : List Sy) : Int := if mayA l = true then 0 else 250
theorem nx_lin {s : Sy} {i a : Nat} (h : s.c = 32 ∨ s.c = 84) : nx s i a = i + 1 := by unfold nx; rw [if_pos h]
theorem nx_jmp {s : Sy} {i a : Nat} (h1 : s.c ≠ 32) (h2 : s.c ≠ 84) : nx s i a = if hld s a = true then s.th.toNat else s.el.toNat := by unfold nx; rw [if_neg (by omega)]
theorem jmp_int {l : List Sy} (h : mayA l = true) {j : Nat} (hj : j < l.length) (h6 : l[j].c ≠ 6) (h1 : l[j].c ≠ 32) (h2 : l[j].c ≠ 84) (a : Nat) :
    (if hld l[j] a = true then l[j].th else l[j].el) = ((nx l[j] j a : Nat) : Int) := by
  obtain ⟨q1, q2⟩ := nx_in h hj h6 a
  rw [nx_jmp h1 h2] at q1 ⊢
  split <;> rename_i hh
  · rw [if_pos hh] at q1; omega
  · rw [if_neg hh] at q1; omega
theorem na_jmp {d : Dat} {s : Sy} {a : Nat} (h1 : s.c ≠ 32) (h2 : s.c ≠ 84) : na d s a = a := by unfold na; rw [if_neg h1, if_neg h2]
theorem and_u32 {a k : Nat} (ha : a < 4294967296) (hk : k < 4294967296) : bits .and .u32 (a : Int) (k : Int) = ((a &&& k : Nat) : Int) := by
  rw [u32_and _ _ (by omega) (by omega) (by omega) (by omega)]; simp
theorem okW_of {len i : Nat} {s : Sy} (h : may1 len i s = true) (hc : s.c = 32) : okW s.k = true := by
  unfold may1 at h; rw [if_pos hc] at h; simp only [Bool.and_eq_true] at h; exact h.2
def Cd (w : World) (B : Nat) (d : Dat) : Prop := w.cell? ⟨B, 0, none⟩ = some (.int .u32 (d.nr : Int)) ∧ w.cell? ⟨B, 1, none⟩ = some (.int .u32 (d.ar : Int)) ∧ w.cell? ⟨B, 2, none⟩ = some (.int .u64 (d.ip : Int)) ∧ w.cell? ⟨B, 3, none⟩ = some (.int .u64 (d.a0 : Int)) ∧ w.cell? ⟨B, 4, none⟩ = some (.int .u64 (d.a1 : Int)) ∧ w.cell? ⟨B, 5, none⟩ = some (.int .u64 (d.a2 : Int)) ∧ w.cell? ⟨B, 6, none⟩ = some (.int .u64 (d.a3 : Int)) ∧ w.cell? ⟨B, 7, none⟩ = some (.int .u64 (d.a4 : Int)) ∧ w.cell? ⟨B, 8, none⟩ = some (.int .u64 (d.a5 : Int))
theorem Cd.ext {a w : World} (h : Ext a w) {B : Nat} {d : Dat} (hc : Cd a B d) : Cd w B d := by
  obtain ⟨c0, c1, c2, c3, c4, c5, c6, c7, c8⟩ := hc
  exact ⟨h.cell c0, h.cell c1, h.cell c2, h.cell c3, h.cell c4, h.cell c5, h.cell c6, h.cell c7, h.cell c8⟩
set_option maxRecDepth 100000 in
set_option maxHeartbeats 4000000 in
theorem Run_calls (hOne : ∀ (s : Sy) (i len : Nat) (w : World), Calls Try.prog 61 #[.agg #[.int .u16 (s.c : Int), .int .u32 (s.k : Int), .int .i64 s.th, .int .i64 s.el], .int .i64 (i : Int), .int .i64 (len : Int)] w fun e w' => e = .returned (.bool (may1 len i s)) ∧ Ext w w')
    (v : Value) (xs : List Sy) (hok : ∀ s ∈ xs, OkY s) (d : Dat) (hd : OkD d) (hl : xs.length ≤ 1000000) (w : World) (hv : Rd w 4 encY v xs) :
    Calls Try.prog 32 #[v, datV d] w fun e w' => e = .returned (.tuple #[.int .u32 ((runA d xs).1 : Nat), .int .i64 ((runA d xs).2 : Nat), .int .i64 (runE xs)]) ∧ Ext w w' := by
  have hM := fun (W : World) (hx : Ext w W) => May_calls hOne v xs hl W (hv.ext hx)
  obtain ⟨a, c, rfl, hac, hca⟩ := rdY_cell hv
  clear hv hOne
  unfold datV
  cases hm : mayA xs
  case false =>
    rw [hm] at hM
    have hA : runA d xs = (0, 0) := by unfold runA; rw [if_neg (by rw [hm]; simp)]
    have hE : runE xs = 250 := by unfold runE; rw [if_neg (by rw [hm]; simp)]
    rw [hA, hE]
    have HhA := Lib.hid hA
    clear hA
    have HhE := Lib.hid hE
    clear hE
    have Hhm := Lib.hid hm
    clear hm
    have HhM := Lib.hid hM
    clear hM
    have Hhok := Lib.hid hok
    clear hok
    clear hca
    go_enter Try.func32, Try.ntmps32
    go_wp2_with fail
    refine (HhM.out _ ((Ext.refl _).alloc _)).mono ?_
    rintro e w1 ⟨rfl, hx1⟩
    go_wp2_with fail
    go_ret3
    exact ⟨rfl, ((Ext.refl _).alloc _).trans hx1⟩
  have hA : runA d xs = run1 d xs (xs.length - 0) 0 0 0 := by unfold runA; rw [if_pos hm]; rfl
  have hE : runE xs = 0 := by unfold runE; rw [if_pos hm]
  have hpos := mayA_pos hm
  have hlen : xs.length ≤ 131072 := by unfold mayA at hm; simp at hm; omega
  have hgt := fun j (hj : j < xs.length) h6 a => nx_in hm hj h6 a
  have hend := fun i a st (hi : i < xs.length) h6 => run1_end (d := d) (a := a) (st := st) hi h6
  have hst := fun i a st (hi : i < xs.length) h6 => run1_step (d := d) hm (a := a) (st := st) hi h6
  have hjm := fun j (hj : j < xs.length) h6 h1 h2 a => jmp_int hm hj h6 h1 h2 a
  have hge := fun j (hj : j < xs.length) => mayA_get hm hj
  have hW := fun k W => Word_calls d hd k W
  unfold datV at hW
  have hnb := fun s a (ha : a < 4294967296) => na_bd hd s ha
  rw [hm] at hM
  rw [hE]
  have HhA := Lib.hid hA
  clear hA
  have HhE := Lib.hid hE
  clear hE
  have Hhm := Lib.hid hm
  clear hm
  have HhM := Lib.hid hM
  clear hM
  have Hhok := Lib.hid hok
  clear hok
  have Hhgt := Lib.hid hgt
  clear hgt
  have Hhend := Lib.hid hend
  clear hend
  have Hhst := Lib.hid hst
  clear hst
  have Hhjm := Lib.hid hjm
  clear hjm
  have Hhge := Lib.hid hge
  clear hge
  have HhW := Lib.hid hW
  clear hW
  have Hhnb := Lib.hid hnb
  clear hnb
  have Hhca := Lib.hid hca
  clear hca
  go_enter Try.func32, Try.ntmps32
  go_wp2_with fail
  obtain ⟨W1, hW1⟩ : ∃ W1, W1 = w.alloc (.cells #[.int .u32 (d.nr : Int), .int .u32 (d.ar : Int), .int .u64 (d.ip : Int), .int .u64 (d.a0 : Int), .int .u64 (d.a1 : Int), .int .u64 (d.a2 : Int), .int .u64 (d.a3 : Int), .int .u64 (d.a4 : Int), .int .u64 (d.a5 : Int)] 40) := ⟨_, rfl⟩
  have hx1 : Ext w W1 := by rw [hW1]; exact (Ext.refl _).alloc _
  have hcd : Cd W1 w.heap.size d := by
    refine ⟨?_, ?_, ?_, ?_, ?_, ?_, ?_, ?_, ?_⟩ <;> (rw [hW1]; simp [go_sem])
  rw [← hW1]
  clear hW1
  refine (HhM.out _ hx1).mono ?_
  rintro e w2 ⟨rfl, hx2⟩
  have HCD := Lib.hid (hcd.ext hx2)
  have HX2 := Lib.hid (hx1.trans hx2)
  clear hx1 hx2 hcd
  go_wp2_with fail
  go_loopw [5, 7, 8] (fun sv av pv wr => ∃ st a i : Nat, i < xs.length ∧ st ≤ i ∧ a < 4294967296 ∧ sv = .int .i64 st ∧ av = .int .u32 a ∧ pv = .int .i64 i ∧ Ext w2 wr ∧ runA d xs = run1 d xs (xs.length - i) i a st) (fun _ _ p _ => xs.length - (intOf p).toNat)
  case atStart => exact ⟨0, 0, 0, hpos, by omega, by omega, rfl, rfl, rfl, Ext.refl _, HhA.out⟩
  case round =>
    obtain ⟨st, ac, i, hi, hsi, hac2, rfl, rfl, rfl, hx, heq⟩ := hrel
    have HX := Lib.hid hx
    obtain ⟨b, o, rfl, h1, h2, h3, h4⟩ := Hhca.out i hi
    have hz := HX2.out.trans hx
    replace h1 := hz.cell h1; replace h2 := hz.cell h2; replace h3 := hz.cell h3; replace h4 := hz.cell h4
    have hcd := HCD.out.ext hx
    have HCDr := Lib.hid hcd
    have hoy := Hhok.out (xs[i]'hi) (List.getElem_mem hi)
    have hok1 := hoy.c
    have hok2 := hoy.k
    have hend := Hhend.out i ac st hi
    have hst := Hhst.out i ac st hi
    have hgt := Hhgt.out i hi
    have hjm := Hhjm.out i hi
    have hge := Hhge.out i hi
    have hnb := Hhnb.out (xs[i]'hi) ac hac2
    have hnj := fun h1 h2 => na_jmp (d := d) (s := xs[i]'hi) (a := ac) h1 h2
    have hHo := fun W => holds_calls (xs[i]'hi) ac hac2 hok2 W
    clear hx hz hoy hcd
    generalize xs[i] = s at *
    obtain ⟨c, k, th, el⟩ := s
    dsimp only at *
    have Hhend := Lib.hid hend
    clear hend
    have Hhst := Lib.hid hst
    clear hst
    have Hhgt := Lib.hid hgt
    clear hgt
    have Hhjm := Lib.hid hjm
    clear hjm
    have Hhge := Lib.hid hge
    clear hge
    have Hhnj := Lib.hid hnj
    clear hnj
    have HhHo := Lib.hid hHo
    clear hHo
    by_cases c1 : c = 6
    · subst c1
      have hr := heq.trans (Hhend.out rfl)
      have hr1 : (runA d xs).1 = k := by rw [hr]
      have hr2 : (runA d xs).2 = st + 1 := by rw [hr]
      have Hhr := Lib.hid hr
      clear hr
      have Hhr1 := Lib.hid hr1
      clear hr1
      have Hhr2 := Lib.hid hr2
      clear hr2
      have Hheq := Lib.hid heq
      clear heq
      go_wp2_with fail
      go_ret3
      exact ⟨by rw [Hhr1.out, Hhr2.out]; rfl, HX2.out.trans (HX.out.alloc _)⟩
    have hs1 := heq.trans (Hhst.out c1)
    obtain ⟨g1, g2⟩ := Hhgt.out c1 ac
    have Hheq := Lib.hid heq
    clear heq
    have Hhs1 := Lib.hid hs1
    clear hs1
    by_cases c2 : c = 32
    · subst c2
      have hkw := okW_of Hhge.out rfl
      have hn1 : na d ⟨32, k, th, el⟩ ac = wd d k := by unfold na; rw [if_pos rfl]
      have hn2 : nx ⟨32, k, th, el⟩ i ac = i + 1 := nx_lin (.inl rfl)
      have hWk := HhW.out k
      have hwa : wordA d k = (wd d k, 0) := by unfold wordA; rw [if_pos hkw]
      rw [hwa] at hWk
      dsimp only at hWk
      rw [hn2] at g2
      rw [hn1] at hnb
      have hs2 := Hhs1.out
      rw [hn1, hn2] at hs2
      generalize wd d k = x at *
      have hcq := fun o => HCDr.out.ext ((Ext.refl wr).alloc o)
      have q0 := fun o => (hcq o).1
      have q1 := fun o => (hcq o).2.1
      have q2 := fun o => (hcq o).2.2.1
      have q3 := fun o => (hcq o).2.2.2.1
      have q4 := fun o => (hcq o).2.2.2.2.1
      have q5 := fun o => (hcq o).2.2.2.2.2.1
      have q6 := fun o => (hcq o).2.2.2.2.2.2.1
      have q7 := fun o => (hcq o).2.2.2.2.2.2.2.1
      have q8 := fun o => (hcq o).2.2.2.2.2.2.2.2
      have HCQ := Lib.hid hcq
      clear hcq
      have Hhs2 := Lib.hid hs2
      clear hs2
      have Hhn1 := Lib.hid hn1
      clear hn1
      have Hhn2 := Lib.hid hn2
      clear hn2
      have Hhwa := Lib.hid hwa
      clear hwa
      have Hhkw := Lib.hid hkw
      clear hkw
      have HhWk := Lib.hid hWk
      clear hWk
      have Hc1 := Lib.hid c1
      clear c1
      go_wp2_with fail
      refine (HhWk.out _).mono ?_
      rintro e w5 ⟨rfl, hx5⟩
      go_wp2_with fail
      first
        | (go_roundw
           case rel => exact ⟨st + 1, x, i + 1, g2, by omega, hnb, by go_num, rfl, by go_num, (HX.out.alloc _).trans hx5, Hhs2.out⟩
           case measure => simp [intOf]; omega)
        | exact ⟨⟨st + 1, x, i + 1, g2, by omega, hnb, by go_num, rfl, by go_num, (HX.out.alloc _).trans hx5, Hhs2.out⟩, by simp [intOf]; omega⟩
    by_cases c3 : c = 84
    · subst c3
      have hn1 : na d ⟨84, k, th, el⟩ ac = ac &&& k := by unfold na; rw [if_neg (by show ¬ (84 : Nat) = 32; decide), if_pos rfl]
      have hn2 : nx ⟨84, k, th, el⟩ i ac = i + 1 := nx_lin (.inr rfl)
      have hab := and_u32 hac2 hok2
      rw [hn2] at g2
      rw [hn1] at hnb
      have hs2 := Hhs1.out
      rw [hn1, hn2] at hs2
      generalize ac &&& k = x at *
      have Hhs2 := Lib.hid hs2
      clear hs2
      have Hhn1 := Lib.hid hn1
      clear hn1
      have Hhn2 := Lib.hid hn2
      clear hn2
      have Hc1 := Lib.hid c1
      clear c1
      have Hc2 := Lib.hid c2
      clear c2
      go_wp2_with fail
      first
        | (go_roundw
           case rel => exact ⟨st + 1, x, i + 1, g2, by omega, hnb, by go_num, rfl, by go_num, HX.out.alloc _, Hhs2.out⟩
           case measure => simp [intOf]; omega)
        | exact ⟨⟨st + 1, x, i + 1, g2, by omega, hnb, by go_num, rfl, by go_num, HX.out.alloc _, Hhs2.out⟩, by simp [intOf]; omega⟩
    have hj := Hhjm.out c1 c2 c3 ac
    have hn1 := Hhnj.out c2 c3
    have hs2 := Hhs1.out
    rw [hn1] at hs2
    have f1 : ((c : Int) == 32) = false := beq_eq_false_iff_ne.mpr (by omega)
    have f2 : ((c : Int) == 84) = false := beq_eq_false_iff_ne.mpr (by omega)
    have f3 : ((c : Int) == 6) = false := beq_eq_false_iff_ne.mpr (by omega)
    have hHo := HhHo.out
    generalize nx ⟨c, k, th, el⟩ i ac = gi at *
    have Hc1 := Lib.hid c1
    clear c1
    have Hc2 := Lib.hid c2
    clear c2
    have Hc3 := Lib.hid c3
    clear c3
    have Hhn1 := Lib.hid hn1
    clear hn1
    have Hhs2 := Lib.hid hs2
    clear hs2
    clear hnb
    cases hh : hld ⟨c, k, th, el⟩ ac
    all_goals
      rw [hh] at hj hHo
      simp only [if_true, if_false, Bool.false_eq_true] at hj
      subst hj
      have HhHo := Lib.hid hHo
      clear hHo
      have Hhh := Lib.hid hh
      clear hh
      go_wp2_with fail
      refine (HhHo.out _).mono ?_
      rintro e w5 ⟨rfl, hx5⟩
      have r2 := hx5.cell (p := ⟨wr.heap.size, 2, none⟩) (by simp [go_sem]; rfl)
      go_wp2_with fail
      first
        | (go_roundw
           case rel => exact ⟨st + 1, ac, gi, g2, by omega, hac2, by go_num, rfl, rfl, (HX.out.alloc _).trans hx5, Hhs2.out⟩
           case measure => simp [intOf]; omega)
        | exact ⟨⟨st + 1, ac, gi, g2, by omega, hac2, by go_num, rfl, rfl, (HX.out.alloc _).trans hx5, Hhs2.out⟩, by simp [intOf]; omega⟩
end L25
end Go.Proofs.Ytkmhfjnjfghnjaa

