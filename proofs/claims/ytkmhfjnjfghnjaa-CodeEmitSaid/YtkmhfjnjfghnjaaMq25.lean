import Derived.Test.YtkmhfjnjfghnjaaMq14
import Derived.Test.YtkmhfjnjfghnjaaMq3
import Derived.Test.YtkmhfjnjfghnjaaMq5
/- Layer 21: the walk of May. -/
namespace Go.Proofs.Ytkmhfjnjfghnjaa
open Go.RowKit V
namespace L21
/-- the number of the rule ahead of a place -/
def prv (rs : List Rule) (k : Nat) : Option Nat := if k = 0 then none else (rs[k - 1]?).map (·.nr)
theorem mayL_step {rs : List Rule} {k : Nat} (h : k < rs.length) : mayL (prv rs k) (rs.drop k) = ((mayR rs[k] && upB (prv rs k) rs[k].nr) && mayL (prv rs (k + 1)) (rs.drop (k + 1))) := by
  rw [List.drop_eq_getElem_cons h]
  have e : prv rs (k + 1) = some rs[k].nr := by unfold prv; rw [if_neg (by omega), Nat.add_sub_cancel, List.getElem?_eq_getElem h]; rfl
  rw [e]; rfl
theorem mayL_end (rs : List Rule) (p : Option Nat) : mayL p (rs.drop rs.length) = true := by rw [List.drop_length]; rfl
theorem prv_succ {rs : List Rule} {k : Nat} (h : k < rs.length) : prv rs (k + 1) = some rs[k].nr := by unfold prv; rw [if_neg (by omega), Nat.add_sub_cancel, List.getElem?_eq_getElem h]; rfl
set_option maxRecDepth 100000 in
set_option maxHeartbeats 1000000 in
theorem May_calls (f : Filter) (u : Value) (hf : OkF f) (w : World) (hu : RdR w 3 (IsR w) u f.rules) :
    Calls Try.prog 27 #[.agg #[.int .i64 f.arch, u, .int .u32 (f.dflt : Int)]] w fun e w' => e = .returned (.bool (mayF f)) ∧ Ext w w' := by
  obtain ⟨ar, rs, df⟩ := f
  have hd := hf.d
  have hok := hf.r
  have hl := hf.l
  have hA : mayF ⟨ar, rs, df⟩ = (decide (0 ≤ ar) && (decide (ar < 6) && (decide (rs.length ≤ 400) && (L20.kn df && mayL none rs)))) := rfl
  dsimp only at *
  obtain ⟨a, c, rfl, hac, hca⟩ := rdR_cell hu
  clear hu hf
  rw [hA]
  have hK := fun W => L20.Known_calls df hd W
  have HhA := Lib.hid hA
  clear hA
  have Hhok := Lib.hid hok
  clear hok
  have Hhca := Lib.hid hca
  clear hca
  by_cases h0 : ar < 0
  · have e1 : decide (0 ≤ ar) = false := decide_eq_false (by omega)
    rw [e1, Bool.false_and]
    have He1 := Lib.hid e1
    clear e1
    clear hK
    go_enter Try.func27, Try.ntmps27
    go_wp2
    go_ret
    exact ⟨rfl, (Ext.refl _).alloc _⟩
  have e1 : decide (0 ≤ ar) = true := decide_eq_true (by omega)
  by_cases h6 : 6 ≤ ar
  · have e2 : decide (ar < 6) = false := decide_eq_false (by omega)
    rw [e1, e2, Bool.false_and, Bool.true_and]
    have He1 := Lib.hid e1
    clear e1
    have He2 := Lib.hid e2
    clear e2
    clear hK
    go_enter Try.func27, Try.ntmps27
    go_wp2
    go_ret
    exact ⟨rfl, (Ext.refl _).alloc _⟩
  have e2 : decide (ar < 6) = true := decide_eq_true (by omega)
  by_cases h4 : 400 < rs.length
  · have e3 : decide (rs.length ≤ 400) = false := decide_eq_false (by omega)
    have e4 : decide ((400 : Int) < (rs.length : Int)) = true := decide_eq_true (by omega)
    rw [e1, e2, e3, Bool.false_and, Bool.true_and, Bool.true_and]
    have He1 := Lib.hid e1
    clear e1
    have He2 := Lib.hid e2
    clear e2
    have He3 := Lib.hid e3
    clear e3
    clear hK
    go_enter Try.func27, Try.ntmps27
    go_wp2
    go_ret
    exact ⟨rfl, (Ext.refl _).alloc _⟩
  have e3 : decide (rs.length ≤ 400) = true := decide_eq_true (by omega)
  have e4 : decide ((400 : Int) < (rs.length : Int)) = false := decide_eq_false (by omega)
  rw [e1, e2, e3, Bool.true_and, Bool.true_and, Bool.true_and]
  have He1 := Lib.hid e1
  clear e1
  have He2 := Lib.hid e2
  clear e2
  have He3 := Lib.hid e3
  clear e3
  cases hk : L20.kn df
  · rw [hk] at hK
    rw [Bool.false_and]
    have HhK := Lib.hid hK
    clear hK
    have Hhk := Lib.hid hk
    clear hk
    go_enter Try.func27, Try.ntmps27
    go_wp2_with fail
    refine (HhK.out _).mono ?_
    rintro e w1 ⟨rfl, hx1⟩
    go_wp2_with fail
    go_ret
    exact ⟨rfl, ((Ext.refl _).alloc _).trans hx1⟩
  rw [hk] at hK
  rw [Bool.true_and]
  have HhK := Lib.hid hK
  clear hK
  have Hhk := Lib.hid hk
  clear hk
  go_enter Try.func27, Try.ntmps27
  go_wp2_with fail
  refine (HhK.out _).mono ?_
  rintro e w1 ⟨rfl, hx1⟩
  have c1 : w1.cell? ⟨w.heap.size, 1, none⟩ = some (.slice a rs.length c) := hx1.cell (by simp [go_sem])
  have HX1 := Lib.hid (((Ext.refl w).alloc (.cells #[.int .i64 ar, .slice a rs.length c, .int .u32 (df : Int)] 25)).trans hx1)
  clear hx1
  go_wp2_with fail
  go_loopw [28] (fun i wr => ∃ k : Nat, k ≤ rs.length ∧ i = .int .i64 k ∧ Ext w1 wr ∧ mayL none rs = mayL (prv rs k) (rs.drop k)) (fun i _ => rs.length - (intOf i).toNat)
  case atStart => exact ⟨0, by omega, rfl, Ext.refl _, rfl⟩
  case round =>
    obtain ⟨k, hk2, rfl, hx, heq⟩ := hrel
    by_cases hlt : k < rs.length
    · obtain ⟨b, o, v, rfl, g1, g2, g3, g4⟩ := Hhca.out k hlt
      replace g1 := (HX1.out.trans hx).cell g1
      replace g2 := (HX1.out.trans hx).cell g2
      replace g3 := (HX1.out.trans hx).cell g3
      replace g4 := g4.ext (HX1.out.trans hx)
      have c1r := hx.cell c1
      have HX := Lib.hid hx
      rw [mayL_step hlt] at heq
      have hR := fun W (hy : Ext wr W) => mayRule_calls rs[k] v (Hhok.out _ (List.getElem_mem hlt)) W (g4.ext hy)
      have hg0 : ∀ (h0 : 0 < k), wr.cell? ⟨b, o + (k - 1) * 3, none⟩ = some (.int .u32 ((rs[k - 1]'(by omega)).nr : Int)) := by
        intro h0
        obtain ⟨b', o', v', e', p1, -, -, -⟩ := Hhca.out (k - 1) (by omega)
        obtain ⟨rfl, rfl⟩ : b = b' ∧ o = o' := by simpa using e'
        exact (HX1.out.trans hx).cell p1
      have hpv : prv rs k = if h0 : 0 < k then some (rs[k - 1]'(by omega)).nr else none := by
        by_cases h0 : 0 < k
        · rw [dif_pos h0]
          unfold prv
          rw [if_neg (by omega), List.getElem?_eq_getElem (by omega)]; rfl
        · rw [dif_neg h0]
          unfold prv
          rw [if_pos (by omega)]
      obtain ⟨au, cu, rfl, -, -⟩ := rdT_cell g4
      clear c1 g4 hx
      have hnx := prv_succ hlt
      generalize rs[k]'hlt = r at *
      obtain ⟨rn, ts, ra⟩ := r
      dsimp only at *
      rw [hnx] at heq
      have Hhnx := Lib.hid hnx
      clear hnx
      cases hm : mayR ⟨rn, ts, ra⟩
      · rw [hm] at hR heq
        simp only [Bool.false_and] at heq
        have Hhpv := Lib.hid hpv
        clear hpv
        clear hg0
        have HhR := Lib.hid hR
        clear hR
        have Hheq := Lib.hid heq
        clear heq
        have Hhm := Lib.hid hm
        clear hm
        go_wp2_with fail
        obtain ⟨W1, hW1⟩ : ∃ W1, W1 = wr.alloc (.cells #[.int .u32 (rn : Int), .slice au ts.length cu, .int .u32 (ra : Int)] 34) := ⟨_, rfl⟩
        have hxw : Ext wr W1 := by rw [hW1]; exact (Ext.refl _).alloc _
        have k0 : ∀ x : XW W1, x.w.cell? ⟨wr.heap.size, 0, none⟩ = some (.int .u32 (rn : Int)) := fun x => x.h.cell (by rw [hW1]; simp [go_sem])
        have k1 : ∀ x : XW W1, x.w.cell? ⟨wr.heap.size, 1, none⟩ = some (.slice au ts.length cu) := fun x => x.h.cell (by rw [hW1]; simp [go_sem])
        have k2 : ∀ x : XW W1, x.w.cell? ⟨wr.heap.size, 2, none⟩ = some (.int .u32 (ra : Int)) := fun x => x.h.cell (by rw [hW1]; simp [go_sem])
        have HXW : Hid (∀ x : XW W1, Ext wr x.w) := Lib.hid (fun x => hxw.trans x.h)
        rw [← hW1]
        clear hW1 hxw
        refine wp_region_kept (by kernel_rfl) (by kernel_rfl) ?_
        repeat (any_goals (first | go_big_quiet_step ((go_at_call 50; exact calls_kept (HhR.out _ (HXW.out _)))) | quiet_step ((go_at_call 50; exact calls_kept (HhR.out _ (HXW.out _))))))
        all_goals (refine wpQuiet_nil ?_; intro _ hw'; obtain ⟨xq, hw''⟩ := hw'; subst hw'')
        go_wp2
        go_ret
        exact ⟨by rw [Hheq.out]; rfl, (HX1.out.trans HX.out).trans (HXW.out xq)⟩
      rw [hm] at hR heq
      simp only [Bool.true_and] at heq
      by_cases h0 : k = 0
      · have e0 : upB (prv rs k) rn = true := by rw [h0]; rfl
        have d0 : decide ((0 : Int) < (k : Int)) = false := decide_eq_false (by omega)
        have d1 : decide (0 < k) = false := decide_eq_false (by omega)
        have Hh0 := Lib.hid h0
        clear h0
        rw [e0, Bool.true_and] at heq
        have He0 := Lib.hid e0
        clear e0
        have Hhpv := Lib.hid hpv
        clear hpv
        clear hg0
        have HhR := Lib.hid hR
        clear hR
        have Hheq := Lib.hid heq
        clear heq
        have Hhm := Lib.hid hm
        clear hm
        go_wp2_with fail
        obtain ⟨W1, hW1⟩ : ∃ W1, W1 = wr.alloc (.cells #[.int .u32 (rn : Int), .slice au ts.length cu, .int .u32 (ra : Int)] 34) := ⟨_, rfl⟩
        have hxw : Ext wr W1 := by rw [hW1]; exact (Ext.refl _).alloc _
        have k0 : ∀ x : XW W1, x.w.cell? ⟨wr.heap.size, 0, none⟩ = some (.int .u32 (rn : Int)) := fun x => x.h.cell (by rw [hW1]; simp [go_sem])
        have k1 : ∀ x : XW W1, x.w.cell? ⟨wr.heap.size, 1, none⟩ = some (.slice au ts.length cu) := fun x => x.h.cell (by rw [hW1]; simp [go_sem])
        have k2 : ∀ x : XW W1, x.w.cell? ⟨wr.heap.size, 2, none⟩ = some (.int .u32 (ra : Int)) := fun x => x.h.cell (by rw [hW1]; simp [go_sem])
        have HXW : Hid (∀ x : XW W1, Ext wr x.w) := Lib.hid (fun x => hxw.trans x.h)
        rw [← hW1]
        clear hW1 hxw
        refine wp_region_kept (by kernel_rfl) (by kernel_rfl) ?_
        repeat (any_goals (first | go_big_quiet_step ((go_at_call 50; exact calls_kept (HhR.out _ (HXW.out _)))) | quiet_step ((go_at_call 50; exact calls_kept (HhR.out _ (HXW.out _))))))
        all_goals (refine wpQuiet_nil ?_; intro _ hw'; obtain ⟨xq, hw''⟩ := hw'; subst hw'')
        go_wp2
        go_roundw
        case rel => exact ⟨k + 1, by omega, by go_num, HX.out.trans (HXW.out xq), by rw [Hheq.out, Hhnx.out]⟩
        case measure => simp [intOf]; omega
      have hkp : 0 < k := by omega
      have hg := hg0 hkp
      rw [dif_pos hkp] at hpv
      rw [hpv] at heq
      have b1 : (0 : Int) ≤ (k : Int) - 1 := by omega
      have b2 : (k : Int) - 1 < (rs.length : Int) := by omega
      have d0 : decide ((0 : Int) < (k : Int)) = true := decide_eq_true (by omega)
      have d1 : decide (0 < k) = true := decide_eq_true hkp
      generalize (rs[k - 1]'(by omega)).nr = pn at *
      have Hhpv := Lib.hid hpv
      clear hpv
      clear hg0 h0
      cases hu : upB (some pn) rn
      · rw [hu, Bool.false_and] at heq
        have q0 : ¬ pn < rn := by unfold upB at hu; simpa using hu
        have q1 : decide (rn ≤ pn) = true := decide_eq_true (by omega)
        have q2 : decide ((rn : Int) ≤ (pn : Int)) = true := decide_eq_true (by omega)
        have Hhu := Lib.hid hu
        clear hu
        have HhR := Lib.hid hR
        clear hR
        have Hheq := Lib.hid heq
        clear heq
        have Hhm := Lib.hid hm
        clear hm
        go_wp2_with fail
        obtain ⟨W1, hW1⟩ : ∃ W1, W1 = wr.alloc (.cells #[.int .u32 (rn : Int), .slice au ts.length cu, .int .u32 (ra : Int)] 34) := ⟨_, rfl⟩
        have hxw : Ext wr W1 := by rw [hW1]; exact (Ext.refl _).alloc _
        have k0 : ∀ x : XW W1, x.w.cell? ⟨wr.heap.size, 0, none⟩ = some (.int .u32 (rn : Int)) := fun x => x.h.cell (by rw [hW1]; simp [go_sem])
        have k1 : ∀ x : XW W1, x.w.cell? ⟨wr.heap.size, 1, none⟩ = some (.slice au ts.length cu) := fun x => x.h.cell (by rw [hW1]; simp [go_sem])
        have k2 : ∀ x : XW W1, x.w.cell? ⟨wr.heap.size, 2, none⟩ = some (.int .u32 (ra : Int)) := fun x => x.h.cell (by rw [hW1]; simp [go_sem])
        have HXW : Hid (∀ x : XW W1, Ext wr x.w) := Lib.hid (fun x => hxw.trans x.h)
        have k3 : ∀ x : XW W1, x.w.cell? ⟨w.heap.size, 1, none⟩ = some (.slice (some ⟨b, o, none⟩) rs.length c) := fun x => (hxw.trans x.h).cell c1r
        have k4 : ∀ x : XW W1, x.w.cell? ⟨b, o + (k - 1) * 3, none⟩ = some (.int .u32 (pn : Int)) := fun x => (hxw.trans x.h).cell hg
        rw [← hW1]
        clear hW1 hxw
        refine wp_region_kept (by kernel_rfl) (by kernel_rfl) ?_
        repeat (any_goals (first | go_big_quiet_step ((go_at_call 50; exact calls_kept (HhR.out _ (HXW.out _)))) | quiet_step ((go_at_call 50; exact calls_kept (HhR.out _ (HXW.out _))))))
        all_goals (refine wpQuiet_nil ?_; intro _ hw'; obtain ⟨xq, hw''⟩ := hw'; subst hw'')
        go_wp2
        go_ret
        exact ⟨by rw [Hheq.out]; rfl, (HX1.out.trans HX.out).trans (HXW.out xq)⟩
      · rw [hu, Bool.true_and] at heq
        have q0 : pn < rn := by unfold upB at hu; simpa using hu
        have q1 : decide (rn ≤ pn) = false := decide_eq_false (by omega)
        have q2 : decide ((rn : Int) ≤ (pn : Int)) = false := decide_eq_false (by omega)
        have Hhu := Lib.hid hu
        clear hu
        have HhR := Lib.hid hR
        clear hR
        have Hheq := Lib.hid heq
        clear heq
        have Hhm := Lib.hid hm
        clear hm
        go_wp2_with fail
        obtain ⟨W1, hW1⟩ : ∃ W1, W1 = wr.alloc (.cells #[.int .u32 (rn : Int), .slice au ts.length cu, .int .u32 (ra : Int)] 34) := ⟨_, rfl⟩
        have hxw : Ext wr W1 := by rw [hW1]; exact (Ext.refl _).alloc _
        have k0 : ∀ x : XW W1, x.w.cell? ⟨wr.heap.size, 0, none⟩ = some (.int .u32 (rn : Int)) := fun x => x.h.cell (by rw [hW1]; simp [go_sem])
        have k1 : ∀ x : XW W1, x.w.cell? ⟨wr.heap.size, 1, none⟩ = some (.slice au ts.length cu) := fun x => x.h.cell (by rw [hW1]; simp [go_sem])
        have k2 : ∀ x : XW W1, x.w.cell? ⟨wr.heap.size, 2, none⟩ = some (.int .u32 (ra : Int)) := fun x => x.h.cell (by rw [hW1]; simp [go_sem])
        have HXW : Hid (∀ x : XW W1, Ext wr x.w) := Lib.hid (fun x => hxw.trans x.h)
        have k3 : ∀ x : XW W1, x.w.cell? ⟨w.heap.size, 1, none⟩ = some (.slice (some ⟨b, o, none⟩) rs.length c) := fun x => (hxw.trans x.h).cell c1r
        have k4 : ∀ x : XW W1, x.w.cell? ⟨b, o + (k - 1) * 3, none⟩ = some (.int .u32 (pn : Int)) := fun x => (hxw.trans x.h).cell hg
        rw [← hW1]
        clear hW1 hxw
        refine wp_region_kept (by kernel_rfl) (by kernel_rfl) ?_
        repeat (any_goals (first | go_big_quiet_step ((go_at_call 50; exact calls_kept (HhR.out _ (HXW.out _)))) | quiet_step ((go_at_call 50; exact calls_kept (HhR.out _ (HXW.out _))))))
        all_goals (refine wpQuiet_nil ?_; intro _ hw'; obtain ⟨xq, hw''⟩ := hw'; subst hw'')
        go_wp2
        go_roundw
        case rel => exact ⟨k + 1, by omega, by go_num, HX.out.trans (HXW.out xq), by rw [Hheq.out, Hhnx.out]⟩
        case measure => simp [intOf]; omega
    · obtain rfl : k = rs.length := by omega
      rw [mayL_end] at heq
      have Hheq := Lib.hid heq
      clear heq
      have c1r := hx.cell c1
      clear c1
      go_wp2
      go_ret
      exact ⟨by rw [Hheq.out]; rfl, HX1.out.trans hx⟩
end L21
end Go.Proofs.Ytkmhfjnjfghnjaa

/- Layer 25: the walks of Guard's closure, of ContainsFunc by it, of Guard and Emit where they tell no row. -/
namespace Go.Proofs.Ytkmhfjnjfghnjaa
open Go.RowKit V
namespace L25
def encI (a : Int) : List Value := [.int .i64 a]
theorem encI_len (a : Int) : (encI a).length = 1 := rfl
theorem encI_one (s : Int) : ∀ u ∈ encI s, u.oneCell' = true := by intro u hu; simp [encI] at hu; subst hu; rfl
theorem rdI_cell {w : World} {v : Value} {xs : List Int} (h : Rd w 1 encI v xs) : ∃ a c, v = .slice a xs.length c ∧ xs.length ≤ c ∧ ∀ i, (hi : i < xs.length) → ∃ b o, a = some ⟨b, o, none⟩ ∧ w.cell? ⟨b, o + i, none⟩ = some (.int .i64 xs[i]) := by
  obtain ⟨a, c, h1, h2, h3, h4⟩ := h
  refine ⟨a, c, h1, h2, fun i hi => ?_⟩
  obtain ⟨b, o, e, k⟩ := h4 i hi
  have := k 0 (by simp [encI])
  rw [Nat.mul_one, Nat.add_zero] at this
  exact ⟨b, o, e, this⟩
def badI (a : Int) : Bool := decide (a < 0) || decide (6 ≤ a)
def idxI (p : Int → Bool) : List Int → Nat → Int
  | [], _ => -1
  | t :: r, k => if p t = true then (k : Int) else idxI p r (k + 1)
theorem idxI_step {p : Int → Bool} {ts : List Int} {k : Nat} (h : k < ts.length) : idxI p (ts.drop k) k = if p ts[k] = true then (k : Int) else idxI p (ts.drop (k + 1)) (k + 1) := by
  rw [List.drop_eq_getElem_cons h]; rfl
theorem idxI_end (p : Int → Bool) (ts : List Int) (k : Nat) : idxI p (ts.drop ts.length) k = -1 := by rw [List.drop_length]; rfl
theorem idxI_any (p : Int → Bool) : ∀ (ts : List Int) (k : Nat), decide (0 ≤ idxI p ts k) = ts.any p
  | [], k => rfl
  | t :: r, k => by
    rw [List.any_cons]
    unfold idxI
    cases hp : p t
    · rw [if_neg (by simp), Bool.false_or]; exact idxI_any p r (k + 1)
    · rw [if_pos rfl, Bool.true_or]; exact decide_eq_true (by omega)
set_option maxHeartbeats 400000 in
theorem badI_calls (a : Int) (w : World) : Calls Try.prog 63 #[.int .i64 a] w fun e w' => e = .returned (.bool (badI a)) ∧ Ext w w' := by
  unfold badI
  cases h1 : decide (a < 0)
  · cases h2 : decide (6 ≤ a)
    all_goals
      go_enter Try.func63, Try.ntmps63
      go_wp2
      go_ret
      exact ⟨rfl, Ext.refl _⟩
  · go_enter Try.func63, Try.ntmps63
    go_wp2
    go_ret
    exact ⟨by simp, Ext.refl _⟩
set_option maxRecDepth 100000 in
set_option maxHeartbeats 400000 in
theorem idxBadI_calls (v : Value) (ts : List Int) (hl : ts.length ≤ 140737488351232) (w : World) (hv : Rd w 1 encI v ts) :
    Calls Try.prog 94 #[v, .func (.func 63) #[] #[]] w fun e w' => e = .returned (.int .i64 (idxI badI ts 0)) ∧ Ext w w' := by
  obtain ⟨a, c, rfl, hac, hca⟩ := rdI_cell hv
  clear hv
  have Hhca := Lib.hid hca
  clear hca
  go_enter Try.func94, Try.ntmps94
  go_wp2
  go_loopw [8] (fun i wr => ∃ k : Nat, k ≤ ts.length ∧ i = .int .i64 k ∧ Ext w wr ∧ idxI badI ts 0 = idxI badI (ts.drop k) k) (fun i _ => ts.length - (intOf i).toNat)
  case atStart => exact ⟨0, by omega, rfl, Ext.refl _, rfl⟩
  case round =>
    obtain ⟨k, hk, rfl, hx, heq⟩ := hrel
    have HX := Lib.hid hx
    by_cases hlt : k < ts.length
    · obtain ⟨b, o, rfl, h1⟩ := Hhca.out k hlt
      replace h1 := hx.cell h1
      rw [idxI_step hlt] at heq
      have hC := fun W => badI_calls (ts[k]'hlt) W
      clear hx
      generalize ts[k]'hlt = t at *
      cases hp : badI t
      all_goals
        rw [hp] at hC heq
        simp only [if_true, if_false, Bool.false_eq_true] at heq
        have HhC := Lib.hid hC
        clear hC
        have Hheq := Lib.hid heq
        clear heq
        have Hhp := Lib.hid hp
        clear hp
        go_wp2_with fail
        refine (HhC.out _).mono ?_
        rintro e w2 ⟨rfl, hx2⟩
        go_wp2_with fail
      · first
          | (go_roundw
             case rel => exact ⟨k + 1, by omega, by go_num, HX.out.trans hx2, Hheq.out⟩
             case measure => simp [intOf]; omega)
          | exact ⟨⟨k + 1, by omega, by go_num, HX.out.trans hx2, Hheq.out⟩, by simp [intOf]; omega⟩
      · go_ret
        exact ⟨by rw [Hheq.out]; rfl, HX.out.trans hx2⟩
    · obtain rfl : k = ts.length := by omega
      rw [idxI_end] at heq
      have Hheq := Lib.hid heq
      clear heq
      clear hx
      go_wp2
      go_ret
      exact ⟨by rw [Hheq.out]; rfl, HX.out⟩
set_option maxHeartbeats 400000 in
theorem anyBadI_calls (v : Value) (ts : List Int) (hl : ts.length ≤ 140737488351232) (w : World) (hv : Rd w 1 encI v ts) :
    Calls Try.prog 62 #[v, .func (.func 63) #[] #[]] w fun e w' => e = .returned (.bool (ts.any badI)) ∧ Ext w w' := by
  have hI := idxBadI_calls v ts hl w hv
  have hA := idxI_any badI ts 0
  obtain ⟨a, c, rfl, hac, hca⟩ := rdI_cell hv
  clear hv hca
  generalize idxI badI ts 0 = ix at *
  have HhI := Lib.hid hI
  clear hI
  have HhA := Lib.hid hA
  clear hA
  go_enter Try.func62, Try.ntmps62
  go_wp2_with fail
  refine HhI.out.mono ?_
  rintro e w1 ⟨rfl, hx1⟩
  go_wp2_with fail
  go_ret
  exact ⟨by rw [← HhA.out]; rfl, hx1⟩
set_option maxRecDepth 100000 in
set_option maxHeartbeats 400000 in
theorem Guard_nil (w : World) : Calls Try.prog 37 #[.slice none 0 0] w fun e w' => e = .returned (.tuple #[.slice none 0 0, .int .i64 2]) ∧ Ext w w' := by
  go_enter Try.func37, Try.ntmps37
  go_wp2
  go_ret2
  exact ⟨rfl, Ext.refl _⟩
set_option maxRecDepth 100000 in
set_option maxHeartbeats 400000 in
theorem Guard_bad (v : Value) (ts : List Int) (hl : ts.length ≤ 140737488351232) (hb : ts.any badI = true) (w : World) (hv : Rd w 1 encI v ts) : Calls Try.prog 37 #[v] w fun e w' => e = .returned (.tuple #[.slice none 0 0, .int .i64 2]) ∧ Ext w w' := by
  have hA := anyBadI_calls v ts hl w hv
  rw [hb] at hA
  obtain ⟨a, c, rfl, hac, -⟩ := rdI_cell hv
  have hp : ((ts.length : Int) == 0) = false := by
    cases ts with
    | nil => cases hb
    | cons t r => simp; omega
  clear hv
  have HhA := Lib.hid hA
  clear hA
  have Hhb := Lib.hid hb
  clear hb
  go_enter Try.func37, Try.ntmps37
  go_wp2_with fail
  refine HhA.out.mono ?_
  rintro e w1 ⟨rfl, hx1⟩
  go_wp2_with fail
  go_ret2
  exact ⟨rfl, hx1⟩
open L21 in
set_option maxRecDepth 100000 in
set_option maxHeartbeats 400000 in
theorem Emit_no (f : Filter) (u : Value) (hf : OkF f) (hm : mayF f = false) (w : World) (hu : RdR w 3 (IsR w) u f.rules) :
    Calls Try.prog 40 #[.agg #[.int .i64 f.arch, u, .int .u32 (f.dflt : Int)]] w fun e w' => e = .returned (.tuple #[.slice none 0 0, .int .i64 210]) ∧ Ext w w' := by
  have hM := fun W (hx : Ext w W) => May_calls f u hf W (rdRR_ext hx hu)
  rw [hm] at hM
  obtain ⟨av, cv, rfl, -, -⟩ := rdR_cell hu
  have HhM := Lib.hid hM
  clear hM
  have Hhm := Lib.hid hm
  clear hm
  clear hu
  go_enter Try.func40, Try.ntmps40
  go_wp2_with fail
  refine (HhM.out _ ((Ext.refl _).alloc _)).mono ?_
  rintro e w1 ⟨rfl, hx1⟩
  go_wp2_with fail
  go_ret2
  exact ⟨rfl, ((Ext.refl _).alloc _).trans hx1⟩
end L25
end Go.Proofs.Ytkmhfjnjfghnjaa

