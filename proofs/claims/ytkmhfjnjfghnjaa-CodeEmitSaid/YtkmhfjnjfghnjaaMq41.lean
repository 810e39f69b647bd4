import Derived.Test.YtkmhfjnjfghnjaaMq25
/- Layer 21: the walk of the reference's May. -/
namespace Go.Proofs.Ytkmhfjnjfghnjaa
open Go.RowKit V
namespace L21
theorem all_step {ts : List Test} {k : Nat} (h : k < ts.length) : (ts.drop k).all mayT = (mayT ts[k] && (ts.drop (k + 1)).all mayT) := by
  rw [List.drop_eq_getElem_cons h]; rfl
theorem all_end (ts : List Test) : (ts.drop ts.length).all mayT = true := by rw [List.drop_length]; rfl
theorem mayR_eq (r : Rule) : mayR r = (decide (r.tests.length ≤ 32) && (r.tests.all mayT && L20.kn r.action)) := by
  unfold mayR
  have e : (!r.tests.any badT) = r.tests.all mayT := by
    rw [List.all_eq_not_any_not]; rfl
  rw [e]
set_option maxRecDepth 100000 in
set_option maxHeartbeats 4000000 in
theorem refMay_calls (f : Filter) (u : Value) (hf : OkF f) (w : World) (hu : RdR w 3 (IsR w) u f.rules) :
    Calls Try.prog 20 #[.agg #[.int .i64 f.arch, u, .int .u32 (f.dflt : Int)]] w fun e w' => e = .returned (.bool (mayF f)) ∧ Ext w w' := by
  obtain ⟨ar, rs, df⟩ := f
  have hd := hf.d
  have hok := hf.r
  have hl := hf.l
  have hA : mayF ⟨ar, rs, df⟩ = (decide (0 ≤ ar) && (decide (ar < 6) && (decide (rs.length ≤ 400) && (L20.kn df && mayL none rs)))) := rfl
  dsimp only at *
  obtain ⟨a, c, rfl, hac, hca⟩ := rdR_cell hu
  clear hu hf
  rw [hA]
  have hK := fun W => L20.refKnown_calls df hd W
  have HhA := Lib.hid hA
  clear hA
  have Hhok := Lib.hid hok
  clear hok
  have Hhca := Lib.hid hca
  clear hca
  by_cases h0 : ar < 0
  · have e1 : decide (0 ≤ ar) = false := decide_eq_false (by omega)
    rw [e1, Bool.false_and]
    have He1 := Lib.hid e1
    clear e1
    clear hK
    go_enter Try.func20, Try.ntmps20
    go_wp2
    go_ret
    exact ⟨rfl, (Ext.refl _).alloc _⟩
  have e1 : decide (0 ≤ ar) = true := decide_eq_true (by omega)
  by_cases h6 : 6 ≤ ar
  · have e2 : decide (ar < 6) = false := decide_eq_false (by omega)
    have e2' : decide ((5 : Int) < ar) = true := decide_eq_true (by omega)
    rw [e1, e2, Bool.false_and, Bool.true_and]
    have He1 := Lib.hid e1
    clear e1
    have He2 := Lib.hid e2
    clear e2
    clear hK
    go_enter Try.func20, Try.ntmps20
    go_wp2
    go_ret
    exact ⟨rfl, (Ext.refl _).alloc _⟩
  have e2 : decide (ar < 6) = true := decide_eq_true (by omega)
  have e2' : decide ((5 : Int) < ar) = false := decide_eq_false (by omega)
  by_cases h4 : 400 < rs.length
  · have e3 : decide (rs.length ≤ 400) = false := decide_eq_false (by omega)
    have e4 : decide ((400 : Int) < (rs.length : Int)) = true := decide_eq_true (by omega)
    rw [e1, e2, e3, Bool.false_and, Bool.true_and, Bool.true_and]
    have He1 := Lib.hid e1
    clear e1
    have He2 := Lib.hid e2
    clear e2
    have He3 := Lib.hid e3
    clear e3
    clear hK
    go_enter Try.func20, Try.ntmps20
    go_wp2
    go_ret
    exact ⟨rfl, (Ext.refl _).alloc _⟩
  have e3 : decide (rs.length ≤ 400) = true := decide_eq_true (by omega)
  have e4 : decide ((400 : Int) < (rs.length : Int)) = false := decide_eq_false (by omega)
  rw [e1, e2, e3, Bool.true_and, Bool.true_and, Bool.true_and]
  have He1 := Lib.hid e1
  clear e1
  have He2 := Lib.hid e2
  clear e2
  have He3 := Lib.hid e3
  clear e3
  cases hk : L20.kn df
  · rw [hk] at hK
    rw [Bool.false_and]
    have HhK := Lib.hid hK
    clear hK
    have Hhk := Lib.hid hk
    clear hk
    go_enter Try.func20, Try.ntmps20
    go_wp2_with fail
    refine (HhK.out _).mono ?_
    rintro e w1 ⟨rfl, hx1⟩
    go_wp2_with fail
    go_ret
    exact ⟨rfl, ((Ext.refl _).alloc _).trans hx1⟩
  rw [hk] at hK
  rw [Bool.true_and]
  have HhK := Lib.hid hK
  clear hK
  have Hhk := Lib.hid hk
  clear hk
  go_enter Try.func20, Try.ntmps20
  go_wp2_with fail
  refine (HhK.out _).mono ?_
  rintro e w1 ⟨rfl, hx1⟩
  have c1 : w1.cell? ⟨w.heap.size, 1, none⟩ = some (.slice a rs.length c) := hx1.cell (by simp [go_sem])
  have HX1 := Lib.hid (((Ext.refl w).alloc (.cells #[.int .i64 ar, .slice a rs.length c, .int .u32 (df : Int)] 25)).trans hx1)
  clear hx1
  go_wp2_with fail
  go_loopw [3] (fun i wr => ∃ k : Nat, k ≤ rs.length ∧ i = .int .i64 k ∧ Ext w1 wr ∧ mayL none rs = mayL (prv rs k) (rs.drop k)) (fun i _ => rs.length - (intOf i).toNat)
  case atStart => exact ⟨0, by omega, rfl, Ext.refl _, rfl⟩
  case round =>
    obtain ⟨k, hk2, rfl, hx, heq⟩ := hrel
    by_cases hlt : k < rs.length
    · obtain ⟨b, o, v, rfl, g1, g2, g3, g4⟩ := Hhca.out k hlt
      replace g1 := (HX1.out.trans hx).cell g1
      replace g2 := (HX1.out.trans hx).cell g2
      replace g3 := (HX1.out.trans hx).cell g3
      replace g4 := g4.ext (HX1.out.trans hx)
      have c1r := hx.cell c1
      have HX := Lib.hid hx
      rw [mayL_step hlt] at heq
      have hokr := Hhok.out _ (List.getElem_mem hlt)
      have hcase : (decide ((0 : Int) < (k : Int)) = false ∧ decide (0 < k) = false ∧ upB (prv rs k) (rs[k]'hlt).nr = true) ∨ (∃ pn : Nat, decide ((0 : Int) < (k : Int)) = true ∧ decide (0 < k) = true ∧ 0 ≤ (k : Int) - 1 ∧ (k : Int) - 1 < (rs.length : Int) ∧
          wr.cell? ⟨b, o + (k - 1) * 3, none⟩ = some (.int .u32 (pn : Int)) ∧ decide ((rs[k]'hlt).nr ≤ pn) = (!upB (prv rs k) (rs[k]'hlt).nr) ∧ decide (((rs[k]'hlt).nr : Int) ≤ (pn : Int)) = (!upB (prv rs k) (rs[k]'hlt).nr)) := by
        rcases Nat.eq_zero_or_pos k with h0 | h0
        · refine .inl ⟨decide_eq_false (by omega), decide_eq_false (by omega), ?_⟩
          unfold prv
          rw [if_pos h0]; rfl
        · obtain ⟨b', o', v', e', p1, -, -, -⟩ := Hhca.out (k - 1) (by omega)
          obtain ⟨rfl, rfl⟩ : b = b' ∧ o = o' := by simpa using e'
          have hpv : prv rs k = some (rs[k - 1]'(by omega)).nr := by
            unfold prv
            rw [if_neg (by omega), List.getElem?_eq_getElem (by omega)]; rfl
          refine .inr ⟨_, decide_eq_true (by omega), decide_eq_true h0, by omega, by omega, (HX1.out.trans hx).cell p1, ?_, ?_⟩
          · rw [hpv]; unfold upB; rw [Bool.eq_iff_iff]; simp
          · rw [hpv]; unfold upB; rw [Bool.eq_iff_iff]; simp
      obtain ⟨au, cu, rfl, -, hte⟩ := rdT_cell g4
      have hnx := prv_succ hlt
      clear c1 g4 hx
      generalize rs[k]'hlt = r at *
      rw [mayR_eq] at heq
      obtain ⟨rn, ts, ra⟩ := r
      dsimp only at *
      have hKr := fun W => L20.refKnown_calls ra hokr.x W
      have htl := hokr.l
      have hte' := hte
      have Hhokr := Lib.hid hokr
      clear hokr
      have Hhte := Lib.hid hte
      clear hte
      clear hte'
      rw [hnx] at heq
      have Hhnx := Lib.hid hnx
      clear hnx
      have e32 : decide ((32 : Int) < (ts.length : Int)) = !decide (ts.length ≤ 32) := by rw [Bool.eq_iff_iff]; simp; omega
      cases hup : upB (prv rs k) rn
      · rw [hup] at hcase heq
        rcases hcase with ⟨-, -, h9⟩ | ⟨pn, d0, d1, b1, b2, hg, q1, q2⟩
        · cases h9
        simp only [Bool.and_false, Bool.false_and] at heq
        rw [Bool.not_false] at q1 q2
        have Hheq := Lib.hid heq
        clear heq
        have Hhup := Lib.hid hup
        clear hup
        have HhKr := Lib.hid hKr
        clear hKr
        have He32 := Lib.hid e32
        clear e32
        go_wp2_with fail
        obtain ⟨W1, hW1⟩ : ∃ W1, W1 = wr.alloc (.cells #[.int .u32 (rn : Int), .slice au ts.length cu, .int .u32 (ra : Int)] 34) := ⟨_, rfl⟩
        have hxw : Ext wr W1 := by rw [hW1]; exact (Ext.refl _).alloc _
        have k0 : ∀ x : XW W1, x.w.cell? ⟨wr.heap.size, 0, none⟩ = some (.int .u32 (rn : Int)) := fun x => x.h.cell (by rw [hW1]; simp [go_sem])
        have k3 : ∀ x : XW W1, x.w.cell? ⟨w.heap.size, 1, none⟩ = some (.slice (some ⟨b, o, none⟩) rs.length c) := fun x => (hxw.trans x.h).cell c1r
        have k4 : ∀ x : XW W1, x.w.cell? ⟨b, o + (k - 1) * 3, none⟩ = some (.int .u32 (pn : Int)) := fun x => (hxw.trans x.h).cell hg
        have HXW : Hid (∀ x : XW W1, Ext wr x.w) := Lib.hid (fun x => hxw.trans x.h)
        rw [← hW1]
        clear hW1 hxw
        refine wp_region_kept (by kernel_rfl) (by kernel_rfl) ?_
        repeat (any_goals (first | go_big_quiet_step (fail) | quiet_step (fail)))
        all_goals (refine wpQuiet_nil ?_; intro _ hw9; obtain ⟨xq, hw8⟩ := hw9; subst hw8)
        go_wp2
        go_ret
        exact ⟨by rw [Hheq.out]; rfl, (HX1.out.trans HX.out).trans (HXW.out xq)⟩
      rw [hup] at hcase heq
      rw [Bool.and_true] at heq
      have Hhup := Lib.hid hup
      clear hup
      cases h32 : decide (ts.length ≤ 32)
      · rw [h32] at heq e32
        simp only [Bool.false_and] at heq
        rw [Bool.not_false] at e32
        have Hheq := Lib.hid heq
        clear heq
        have Hh32 := Lib.hid h32
        clear h32
        have HhKr := Lib.hid hKr
        clear hKr
        rcases hcase with ⟨d0, d1, -⟩ | ⟨pn, d0, d1, b1, b2, hg, q1, q2⟩
        case' inr => rw [Bool.not_true] at q1 q2
        all_goals
          go_wp2_with fail
          obtain ⟨W1, hW1⟩ : ∃ W1, W1 = wr.alloc (.cells #[.int .u32 (rn : Int), .slice au ts.length cu, .int .u32 (ra : Int)] 34) := ⟨_, rfl⟩
          have hxw : Ext wr W1 := by rw [hW1]; exact (Ext.refl _).alloc _
          have k0 : ∀ x : XW W1, x.w.cell? ⟨wr.heap.size, 0, none⟩ = some (.int .u32 (rn : Int)) := fun x => x.h.cell (by rw [hW1]; simp [go_sem])
          have k1 : ∀ x : XW W1, x.w.cell? ⟨wr.heap.size, 1, none⟩ = some (.slice au ts.length cu) := fun x => x.h.cell (by rw [hW1]; simp [go_sem])
          have k3 : ∀ x : XW W1, x.w.cell? ⟨w.heap.size, 1, none⟩ = some (.slice (some ⟨b, o, none⟩) rs.length c) := fun x => (hxw.trans x.h).cell c1r
          try have k4 : ∀ x : XW W1, x.w.cell? ⟨b, o + (k - 1) * 3, none⟩ = some (.int .u32 (pn : Int)) := fun x => (hxw.trans x.h).cell hg
          have HXW : Hid (∀ x : XW W1, Ext wr x.w) := Lib.hid (fun x => hxw.trans x.h)
          rw [← hW1]
          clear hW1 hxw
          refine wp_region_kept (by kernel_rfl) (by kernel_rfl) ?_
          repeat (any_goals (first | go_big_quiet_step (fail) | quiet_step (fail)))
          all_goals (refine wpQuiet_nil ?_; intro _ hw9; obtain ⟨xq, hw8⟩ := hw9; subst hw8)
          go_wp2
          go_ret
          exact ⟨by rw [Hheq.out]; rfl, (HX1.out.trans HX.out).trans (HXW.out xq)⟩
      rw [h32] at heq e32
      rw [Bool.true_and] at heq
      rw [Bool.not_true] at e32
      have Hh32 := Lib.hid h32
      clear h32
      cases hkr : L20.kn ra
      · rw [hkr] at heq hKr
        simp only [Bool.and_false, Bool.false_and] at heq
        have Hheq := Lib.hid heq
        clear heq
        have Hhkr := Lib.hid hkr
        clear hkr
        have HhKr := Lib.hid hKr
        clear hKr
        rcases hcase with ⟨d0, d1, -⟩ | ⟨pn, d0, d1, b1, b2, hg, q1, q2⟩
        case' inr => rw [Bool.not_true] at q1 q2
        all_goals
          go_wp2_with fail
          obtain ⟨W1, hW1⟩ : ∃ W1, W1 = wr.alloc (.cells #[.int .u32 (rn : Int), .slice au ts.length cu, .int .u32 (ra : Int)] 34) := ⟨_, rfl⟩
          have hxw : Ext wr W1 := by rw [hW1]; exact (Ext.refl _).alloc _
          have k0 : ∀ x : XW W1, x.w.cell? ⟨wr.heap.size, 0, none⟩ = some (.int .u32 (rn : Int)) := fun x => x.h.cell (by rw [hW1]; simp [go_sem])
          have k1 : ∀ x : XW W1, x.w.cell? ⟨wr.heap.size, 1, none⟩ = some (.slice au ts.length cu) := fun x => x.h.cell (by rw [hW1]; simp [go_sem])
          have k2 : ∀ x : XW W1, x.w.cell? ⟨wr.heap.size, 2, none⟩ = some (.int .u32 (ra : Int)) := fun x => x.h.cell (by rw [hW1]; simp [go_sem])
          have k3 : ∀ x : XW W1, x.w.cell? ⟨w.heap.size, 1, none⟩ = some (.slice (some ⟨b, o, none⟩) rs.length c) := fun x => (hxw.trans x.h).cell c1r
          try have k4 : ∀ x : XW W1, x.w.cell? ⟨b, o + (k - 1) * 3, none⟩ = some (.int .u32 (pn : Int)) := fun x => (hxw.trans x.h).cell hg
          have HXW : Hid (∀ x : XW W1, Ext wr x.w) := Lib.hid (fun x => hxw.trans x.h)
          rw [← hW1]
          clear hW1 hxw
          refine wp_region_kept (by kernel_rfl) (by kernel_rfl) ?_
          repeat (any_goals (first | go_big_quiet_step ((go_at_call 45; exact calls_kept (HhKr.out _))) | quiet_step ((go_at_call 45; exact calls_kept (HhKr.out _)))))
          all_goals (refine wpQuiet_nil ?_; intro _ hw9; obtain ⟨xq, hw8⟩ := hw9; subst hw8)
          go_wp2
          go_ret
          exact ⟨by rw [Hheq.out]; rfl, (HX1.out.trans HX.out).trans (HXW.out xq)⟩
      rw [hkr] at heq hKr
      rw [Bool.and_true] at heq
      have Hheq := Lib.hid heq
      clear heq
      have Hhkr := Lib.hid hkr
      clear hkr
      have HhKr := Lib.hid hKr
      clear hKr
      rcases hcase with ⟨d0, d1, -⟩ | ⟨pn, d0, d1, b1, b2, hg, q1, q2⟩
      case' inr => rw [Bool.not_true] at q1 q2
      all_goals
        go_wp2_with fail
        obtain ⟨W1, hW1⟩ : ∃ W1, W1 = wr.alloc (.cells #[.int .u32 (rn : Int), .slice au ts.length cu, .int .u32 (ra : Int)] 34) := ⟨_, rfl⟩
        have hxw : Ext wr W1 := by rw [hW1]; exact (Ext.refl _).alloc _
        have k0 : ∀ x : XW W1, x.w.cell? ⟨wr.heap.size, 0, none⟩ = some (.int .u32 (rn : Int)) := fun x => x.h.cell (by rw [hW1]; simp [go_sem])
        have k1 : ∀ x : XW W1, x.w.cell? ⟨wr.heap.size, 1, none⟩ = some (.slice au ts.length cu) := fun x => x.h.cell (by rw [hW1]; simp [go_sem])
        have k2 : ∀ x : XW W1, x.w.cell? ⟨wr.heap.size, 2, none⟩ = some (.int .u32 (ra : Int)) := fun x => x.h.cell (by rw [hW1]; simp [go_sem])
        have k3 : ∀ x : XW W1, x.w.cell? ⟨w.heap.size, 1, none⟩ = some (.slice (some ⟨b, o, none⟩) rs.length c) := fun x => (hxw.trans x.h).cell c1r
        try have k4 : ∀ x : XW W1, x.w.cell? ⟨b, o + (k - 1) * 3, none⟩ = some (.int .u32 (pn : Int)) := fun x => (hxw.trans x.h).cell hg
        have HXW : Hid (∀ x : XW W1, Ext wr x.w) := Lib.hid (fun x => hxw.trans x.h)
        rw [← hW1]
        clear hW1 hxw
        refine wp_region_kept (by kernel_rfl) (by kernel_rfl) ?_
        repeat (any_goals (first | go_big_quiet_step ((go_at_call 45; exact calls_kept (HhKr.out _))) | quiet_step ((go_at_call 45; exact calls_kept (HhKr.out _)))))
        all_goals (refine wpQuiet_nil ?_; intro _ hw9; obtain ⟨xq, hw8⟩ := hw9; subst hw8)
        have p1 := k1 xq
        have HXq := Lib.hid (HXW.out xq)
        clear k0 k1 k2 k3 HXW
        generalize xq.w = W2 at *
        go_wp2_with fail
        go_loopw [5] (fun i wi => ∃ j : Nat, j ≤ ts.length ∧ i = .int .i64 j ∧ Ext W2 wi ∧ ts.all mayT = (ts.drop j).all mayT) (fun i _ => ts.length - (intOf i).toNat)
        case atStart => exact ⟨0, by omega, rfl, Ext.refl _, rfl⟩
        case round =>
          obtain ⟨j, hj, rfl, hy, hal⟩ := hrel
          have c5 := hy.cell p1
          have HY := Lib.hid hy
          by_cases hjl : j < ts.length
          · obtain ⟨b3, o3, rfl, t0, t1, t2, t3⟩ := Hhte.out j hjl
            have HZ := Lib.hid ((HX1.out.trans HX.out).trans (HXq.out.trans hy))
            replace t0 := (HXq.out.trans hy).cell t0
            replace t1 := (HXq.out.trans hy).cell t1
            replace t2 := (HXq.out.trans hy).cell t2
            replace t3 := (HXq.out.trans hy).cell t3
            have hot := Hhokr.out.t _ (List.getElem_mem hjl)
            rw [all_step hjl] at hal
            clear hy p1
            generalize ts[j]'hjl = t at *
            obtain ⟨ta, tm, tv, tx⟩ := t
            have hKt := fun W => L20.refKnown_calls tx hot.x W
            have hM : mayT ⟨ta, tm, tv, tx⟩ = (decide (0 ≤ ta) && (decide (ta < 6) && (((tv &&& tm) == tv) && L20.kn tx))) := rfl
            rw [hM] at hal
            have hmm := hot.m
            have hvv := hot.v
            dsimp only at *
            clear hot
            by_cases y0 : ta < 0
            · have z1 : decide (0 ≤ ta) = false := decide_eq_false (by omega)
              rw [z1] at hal
              simp only [Bool.false_and] at hal
              rw [hal, Bool.false_and] at Hheq
              have Hhal := Lib.hid hal
              clear hal
              have HhM := Lib.hid hM
              clear hM
              have Hz1 := Lib.hid z1
              clear z1
              clear hKt
              go_wp2
              go_ret
              exact ⟨by rw [Hheq.out]; rfl, HZ.out.alloc _⟩
            have z1 : decide (0 ≤ ta) = true := decide_eq_true (by omega)
            by_cases y6 : 6 ≤ ta
            · have z2 : decide (ta < 6) = false := decide_eq_false (by omega)
              have z3 : decide ((5 : Int) < ta) = true := decide_eq_true (by omega)
              rw [z1, z2] at hal
              simp only [Bool.false_and, Bool.and_false] at hal
              rw [hal, Bool.false_and] at Hheq
              have Hhal := Lib.hid hal
              clear hal
              have HhM := Lib.hid hM
              clear hM
              have Hz1 := Lib.hid z1
              clear z1
              have Hz2 := Lib.hid z2
              clear z2
              clear hKt
              go_wp2
              go_ret
              exact ⟨by rw [Hheq.out]; rfl, HZ.out.alloc _⟩
            have z2 : decide (ta < 6) = true := decide_eq_true (by omega)
            have z3 : decide ((5 : Int) < ta) = false := decide_eq_false (by omega)
            rw [z1, z2, Bool.true_and, Bool.true_and] at hal
            have hab := u64_and_nat tv tm hvv hmm
            have hq : (((tv &&& tm : Nat) : Int) != (tv : Int)) = !((tv &&& tm) == tv) := by rw [Bool.eq_iff_iff]; simp; omega
            generalize (tv &&& tm) = z at *
            have Hz1 := Lib.hid z1
            clear z1
            have Hz2 := Lib.hid z2
            clear z2
            have HhM := Lib.hid hM
            clear hM
            cases hbv : (z == tv)
            · rw [hbv] at hal hq
              simp only [Bool.false_and] at hal
              rw [hal, Bool.false_and] at Hheq
              rw [Bool.not_false] at hq
              have Hhal := Lib.hid hal
              clear hal
              have Hhbv := Lib.hid hbv
              clear hbv
              clear hKt
              go_wp2
              go_ret
              exact ⟨by rw [Hheq.out]; rfl, HZ.out.alloc _⟩
            rw [hbv, Bool.true_and] at hal
            rw [hbv, Bool.not_true] at hq
            have Hhbv := Lib.hid hbv
            clear hbv
            cases hkt : L20.kn tx
            · rw [hkt] at hal hKt
              rw [Bool.false_and] at hal
              rw [hal, Bool.false_and] at Hheq
              have Hhal := Lib.hid hal
              clear hal
              have Hhkt := Lib.hid hkt
              clear hkt
              have HhKt := Lib.hid hKt
              clear hKt
              go_wp2_with fail
              refine (HhKt.out _).mono ?_
              rintro e w3 ⟨rfl, hx3⟩
              go_wp2_with fail
              go_ret
              exact ⟨by rw [Hheq.out]; rfl, (HZ.out.alloc _).trans hx3⟩
            · rw [hkt] at hal hKt
              rw [Bool.true_and] at hal
              have Hhal := Lib.hid hal
              clear hal
              have Hhkt := Lib.hid hkt
              clear hkt
              have HhKt := Lib.hid hKt
              clear hKt
              go_wp2_with fail
              refine (HhKt.out _).mono ?_
              rintro e w3 ⟨rfl, hx3⟩
              have HX3 := Lib.hid ((HY.out.alloc _).trans hx3)
              clear hx3
              go_wp2_with fail
              go_roundw
              case rel => exact ⟨j + 1, by omega, by go_num, HX3.out, Hhal.out⟩
              case measure => simp [intOf]; omega
          · obtain rfl : j = ts.length := by omega
            rw [all_end] at hal
            rw [hal, Bool.true_and] at Hheq
            have Hhal := Lib.hid hal
            clear hal
            clear hy
            go_wp2
            go_roundw
            case rel => exact ⟨k + 1, by omega, by go_num, HX.out.trans (HXq.out.trans HY.out), by rw [Hheq.out, Hhnx.out]⟩
            case measure => simp [intOf]; omega
    · obtain rfl : k = rs.length := by omega
      rw [mayL_end] at heq
      have Hheq := Lib.hid heq
      clear heq
      have c1r := hx.cell c1
      clear c1
      go_wp2
      go_ret
      exact ⟨by rw [Hheq.out]; rfl, HX1.out.trans hx⟩
end L21
end Go.Proofs.Ytkmhfjnjfghnjaa

