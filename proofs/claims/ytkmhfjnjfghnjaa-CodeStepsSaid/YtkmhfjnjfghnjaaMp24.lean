import Derived.Test.YtkmhfjnjfghnjaaMp3
import Derived.Test.YtkmhfjnjfghnjaaMp9
import Derived.Laws.IdiomArrays
import Derived.Test.YtkmhfjnjfghnjaaMp21
import Derived.Test.YtkmhfjnjfghnjaaMp19
/- Layer 25: how a row and data of the given input read; what the seat's program has laid out. -/
namespace Go.Proofs.Ytkmhfjnjfghnjaa
open Go.RowKit Go.ChangeShapes Go.WideShapes Go.ChangeAt V
theorem Try.own : ownKnob Try.prog.godebug = none := by kernel_rfl
theorem Try.laidOut : laidOutB Try.prog = true := by kernel_rfl
namespace L25
section
variable {H : Type} {enc : TypeId × Value → H} {W : World}
theorem trod_array6 {P : Program} {base : Nat} {spare : Nat → Bool} {held : Bool} {t e : TypeId} {fuel : Nat} {c0 c1 c2 c3 c4 c5 : Value} {x : DataW H × List MemPlace} (ht : P.underlying t = some (.array 6 e)) (hce : P.cellsOf e = 1)
    (h : DataW.trod enc P W base spare held fuel t [c0, c1, c2, c3, c4, c5] = some x) :
    ∃ y0 y1 y2 y3 y4 y5 n, DataW.trod enc P W base spare held n e [c0] = some y0 ∧ DataW.trod enc P W base spare held n e [c1] = some y1 ∧ DataW.trod enc P W base spare held n e [c2] = some y2 ∧ DataW.trod enc P W base spare held n e [c3] = some y3 ∧ DataW.trod enc P W base spare held n e [c4] = some y4 ∧ DataW.trod enc P W base spare held n e [c5] = some y5 := by
  cases fuel with
  | zero => simp [DataW.trod] at h
  | succ n =>
    unfold DataW.trod at h
    rw [ht] at h
    have r6 : List.range 6 = [0, 1, 2, 3, 4, 5] := rfl
    simp [r6, hce] at h
    obtain ⟨_, h⟩ := h
    cases h0 : DataW.trod enc P W base spare held n e [c0] with
    | none => simp [h0] at h
    | some y0 =>
      cases h1 : DataW.trod enc P W base spare held n e [c1] with
      | none => simp [h0, h1] at h
      | some y1 =>
        cases h2 : DataW.trod enc P W base spare held n e [c2] with
        | none => simp [h0, h1, h2] at h
        | some y2 =>
          cases h3 : DataW.trod enc P W base spare held n e [c3] with
          | none => simp [h0, h1, h2, h3] at h
          | some y3 =>
            cases h4 : DataW.trod enc P W base spare held n e [c4] with
            | none => simp [h0, h1, h2, h3, h4] at h
            | some y4 =>
              cases h5 : DataW.trod enc P W base spare held n e [c5] with
              | none => simp [h0, h1, h2, h3, h4, h5] at h
              | some y5 => exact ⟨y0, y1, y2, y3, y4, y5, n, h0, h1, h2, h3, h4, h5⟩
theorem trod_part {P : Program} {t : TypeId} {fs : Array Field} {fuel i : Nat} {f : Field} {cs cs' : List Value} {x : DataW H × List MemPlace}
    (ht : P.underlying t = some (.struct fs)) (hf : fs[i]? = some f) (hc : (cs.drop f.offset).take (P.cellsOf f.type) = cs') (h : DataW.trod enc P W 0 (fun _ => true) true fuel t cs = some x) :
    ∃ n y, DataW.trod enc P W 0 (fun _ => true) true n f.type cs' = some y := by
  obtain ⟨xs, n, -, hx, -, hlen, hall⟩ := DataW.trod_struct ht h
  have h1 := hall i f hf
  rw [hc] at h1
  have hi2 : i < xs.length := by rw [hlen]; exact (Array.getElem?_eq_some_iff.1 hf).1
  rw [List.getElem?_eq_getElem hi2] at h1
  exact ⟨n, _, h1⟩
theorem dec_Y (fuel : Nat) (cs : List Value) (y : DataW H × List MemPlace) (h : DataW.trod enc Try.prog W 0 (fun _ => true) true fuel 70 cs = some y) (hl : Light Try.prog 70 y.1) (hn : cs.length = 4) :
    ∃ s : Sy, cs = encY s ∧ OkY s := by
  match cs, hn with
  | [c0, c1, c2, c3], _ =>
  obtain ⟨n0, y0, h0, -⟩ := trod_field (i := 0) Try.underlying70 rfl rfl (by kernel_rfl) h rfl hl
  obtain ⟨n1, y1, h1, -⟩ := trod_field (i := 1) Try.underlying70 rfl rfl (by kernel_rfl) h rfl hl
  obtain ⟨n2, y2, h2, -⟩ := trod_field (i := 2) Try.underlying70 rfl rfl (by kernel_rfl) h rfl hl
  obtain ⟨n3, y3, h3, -⟩ := trod_field (i := 3) Try.underlying70 rfl rfl (by kernel_rfl) h rfl hl
  obtain ⟨a0, e0, -, w0⟩ := DataW.trod_int Try.underlying68 h0
  obtain ⟨a1, e1, -, w1⟩ := DataW.trod_int Try.underlying23 h1
  obtain ⟨a2, e2, -, w2⟩ := DataW.trod_int Try.underlying3 h2
  obtain ⟨a3, e3, -, w3⟩ := DataW.trod_int Try.underlying3 h3
  simp only [List.cons.injEq, and_true] at e0 e1 e2 e3
  subst e0 e1 e2 e3
  obtain ⟨a0, rfl, b0⟩ : ∃ n : Nat, a0 = (n : Int) ∧ n < 65536 := by
    simp [Lit.wf, IntKind.min, IntKind.max, IntKind.signed, IntKind.bits] at w0
    exact ⟨a0.toNat, by omega, by omega⟩
  obtain ⟨a1, rfl, b1⟩ := wf_u32 w1
  exact ⟨⟨a0, a1, a2, a3⟩, rfl, ⟨b0, b1, (wf_i64 w2).1, (wf_i64 w2).2, (wf_i64 w3).1, (wf_i64 w3).2⟩⟩
set_option maxRecDepth 100000 in
theorem dec_D {base : Nat} {v : Value} {d : DataW H} {p : List MemPlace} (hv : Value.okWide Try.prog W .any base 40 v) (h : DataW.Trod enc Try.prog W 0 (fun _ => true) true 40 v d p) (hl : Light Try.prog 40 d) :
    ∃ x : Dat, v = datV x ∧ OkD x := by
  obtain ⟨cs, rfl, hsz⟩ := okWide_struct Try.underlying40 hv
  rw [show Try.prog.cellsOf 40 = 9 by kernel_rfl] at hsz
  obtain ⟨fuel, h⟩ := h
  simp only [Value.cells] at h
  obtain ⟨l⟩ := cs
  simp only [List.size_toArray] at hsz h
  match l, hsz with
  | [c0, c1, c2, c3, c4, c5, c6, c7, c8], _ =>
  obtain ⟨n0, y0, h0, -⟩ := trod_field (i := 0) Try.underlying40 rfl rfl (by kernel_rfl) h rfl hl
  obtain ⟨n1, y1, h1, -⟩ := trod_field (i := 1) Try.underlying40 rfl rfl (by kernel_rfl) h rfl hl
  obtain ⟨n2, y2, h2, -⟩ := trod_field (i := 2) Try.underlying40 rfl rfl (by kernel_rfl) h rfl hl
  obtain ⟨n3, y3, h3⟩ := trod_part (i := 3) (cs' := [c3, c4, c5, c6, c7, c8]) Try.underlying40 rfl (by show (List.drop 3 _).take (Try.prog.cellsOf 38) = _; rw [show Try.prog.cellsOf 38 = 6 by kernel_rfl]; rfl) h
  have h3b : DataW.trod enc Try.prog W 0 (fun _ => true) true n3 38 [c3, c4, c5, c6, c7, c8] = some y3 := h3
  obtain ⟨z0, z1, z2, z3, z4, z5, n, k0, k1, k2, k3, k4, k5⟩ := trod_array6 (c0 := c3) (c1 := c4) (c2 := c5) (c3 := c6) (c4 := c7) (c5 := c8) Try.underlying38 (by kernel_rfl) h3b
  obtain ⟨a0, e0, -, w0⟩ := DataW.trod_int Try.underlying23 h0
  obtain ⟨a1, e1, -, w1⟩ := DataW.trod_int Try.underlying23 h1
  obtain ⟨a2, e2, -, w2⟩ := DataW.trod_int Try.underlying35 h2
  obtain ⟨a3, e3, -, w3⟩ := DataW.trod_int Try.underlying35 k0
  obtain ⟨a4, e4, -, w4⟩ := DataW.trod_int Try.underlying35 k1
  obtain ⟨a5, e5, -, w5⟩ := DataW.trod_int Try.underlying35 k2
  obtain ⟨a6, e6, -, w6⟩ := DataW.trod_int Try.underlying35 k3
  obtain ⟨a7, e7, -, w7⟩ := DataW.trod_int Try.underlying35 k4
  obtain ⟨a8, e8, -, w8⟩ := DataW.trod_int Try.underlying35 k5
  simp only [List.cons.injEq, and_true] at e0 e1 e2 e3 e4 e5 e6 e7 e8
  subst e0 e1 e2 e3 e4 e5 e6 e7 e8
  obtain ⟨a0, rfl, b0⟩ := wf_u32 w0
  obtain ⟨a1, rfl, b1⟩ := wf_u32 w1
  obtain ⟨a2, rfl, b2⟩ := wf_u64 w2
  obtain ⟨a3, rfl, b3⟩ := wf_u64 w3
  obtain ⟨a4, rfl, b4⟩ := wf_u64 w4
  obtain ⟨a5, rfl, b5⟩ := wf_u64 w5
  obtain ⟨a6, rfl, b6⟩ := wf_u64 w6
  obtain ⟨a7, rfl, b7⟩ := wf_u64 w7
  obtain ⟨a8, rfl, b8⟩ := wf_u64 w8
  exact ⟨⟨a0, a1, a2, a3, a4, a5, a6, a7, a8⟩, rfl, ⟨b0, b1, b2, b3, b4, b5, b6, b7, b8⟩⟩
end
end L25
end Go.Proofs.Ytkmhfjnjfghnjaa

/- Layer 21: the walk of May. -/
namespace Go.Proofs.Ytkmhfjnjfghnjaa
open Go.RowKit V
namespace L21
/-- the number of the rule ahead of a place -/
def prv (rs : List Rule) (k : Nat) : Option Nat := if k = 0 then none else (rs[k - 1]?).map (·.nr)
theorem mayL_step {rs : List Rule} {k : Nat} (h : k < rs.length) : mayL (prv rs k) (rs.drop k) = ((mayR rs[k] && upB (prv rs k) rs[k].nr) && mayL (prv rs (k + 1)) (rs.drop (k + 1))) := by
  rw [List.drop_eq_getElem_cons h]
  have e : prv rs (k + 1) = some rs[k].nr := by unfold prv; rw [if_neg (by omega), Nat.add_sub_cancel, List.getElem?_eq_getElem h]; rfl
  rw [e]; rfl
theorem mayL_end (rs : List Rule) (p : Option Nat) : mayL p (rs.drop rs.length) = true := by rw [List.drop_length]; rfl
theorem prv_succ {rs : List Rule} {k : Nat} (h : k < rs.length) : prv rs (k + 1) = some rs[k].nr := by unfold prv; rw [if_neg (by omega), Nat.add_sub_cancel, List.getElem?_eq_getElem h]; rfl
set_option maxRecDepth 100000 in
set_option maxHeartbeats 1000000 in
theorem May_calls (f : Filter) (u : Value) (hf : OkF f) (w : World) (hu : RdR w 3 (IsR w) u f.rules) :
    Calls Try.prog 27 #[.agg #[.int .i64 f.arch, u, .int .u32 (f.dflt : Int)]] w fun e w' => e = .returned (.bool (mayF f)) ∧ Ext w w' := by
  obtain ⟨ar, rs, df⟩ := f
  have hd := hf.d
  have hok := hf.r
  have hl := hf.l
  have hA : mayF ⟨ar, rs, df⟩ = (decide (0 ≤ ar) && (decide (ar < 6) && (decide (rs.length ≤ 400) && (L20.kn df && mayL none rs)))) := rfl
  dsimp only at *
  obtain ⟨a, c, rfl, hac, hca⟩ := rdR_cell hu
  clear hu hf
  rw [hA]
  have hK := fun W => L20.Known_calls df hd W
  have HhA := Lib.hid hA
  clear hA
  have Hhok := Lib.hid hok
  clear hok
  have Hhca := Lib.hid hca
  clear hca
  by_cases h0 : ar < 0
  · have e1 : decide (0 ≤ ar) = false := decide_eq_false (by omega)
    rw [e1, Bool.false_and]
    have He1 := Lib.hid e1
    clear e1
    clear hK
    go_enter Try.func27, Try.ntmps27
    go_wp2
    go_ret
    exact ⟨rfl, (Ext.refl _).alloc _⟩
  have e1 : decide (0 ≤ ar) = true := decide_eq_true (by omega)
  by_cases h6 : 6 ≤ ar
  · have e2 : decide (ar < 6) = false := decide_eq_false (by omega)
    rw [e1, e2, Bool.false_and, Bool.true_and]
    have He1 := Lib.hid e1
    clear e1
    have He2 := Lib.hid e2
    clear e2
    clear hK
    go_enter Try.func27, Try.ntmps27
    go_wp2
    go_ret
    exact ⟨rfl, (Ext.refl _).alloc _⟩
  have e2 : decide (ar < 6) = true := decide_eq_true (by omega)
  by_cases h4 : 400 < rs.length
  · have e3 : decide (rs.length ≤ 400) = false := decide_eq_false (by omega)
    have e4 : decide ((400 : Int) < (rs.length : Int)) = true := decide_eq_true (by omega)
    rw [e1, e2, e3, Bool.false_and, Bool.true_and, Bool.true_and]
    have He1 := Lib.hid e1
    clear e1
    have He2 := Lib.hid e2
    clear e2
    have He3 := Lib.hid e3
    clear e3
    clear hK
    go_enter Try.func27, Try.ntmps27
    go_wp2
    go_ret
    exact ⟨rfl, (Ext.refl _).alloc _⟩
  have e3 : decide (rs.length ≤ 400) = true := decide_eq_true (by omega)
  have e4 : decide ((400 : Int) < (rs.length : Int)) = false := decide_eq_false (by omega)
  rw [e1, e2, e3, Bool.true_and, Bool.true_and, Bool.true_and]
  have He1 := Lib.hid e1
  clear e1
  have He2 := Lib.hid e2
  clear e2
  have He3 := Lib.hid e3
  clear e3
  cases hk : L20.kn df
  · rw [hk] at hK
    rw [Bool.false_and]
    have HhK := Lib.hid hK
    clear hK
    have Hhk := Lib.hid hk
    clear hk
    go_enter Try.func27, Try.ntmps27
    go_wp2_with fail
    refine (HhK.out _).mono ?_
    rintro e w1 ⟨rfl, hx1⟩
    go_wp2_with fail
    go_ret
    exact ⟨rfl, ((Ext.refl _).alloc _).trans hx1⟩
  rw [hk] at hK
  rw [Bool.true_and]
  have HhK := Lib.hid hK
  clear hK
  have Hhk := Lib.hid hk
  clear hk
  go_enter Try.func27, Try.ntmps27
  go_wp2_with fail
  refine (HhK.out _).mono ?_
  rintro e w1 ⟨rfl, hx1⟩
  have c1 : w1.cell? ⟨w.heap.size, 1, none⟩ = some (.slice a rs.length c) := hx1.cell (by simp [go_sem])
  have HX1 := Lib.hid (((Ext.refl w).alloc (.cells #[.int .i64 ar, .slice a rs.length c, .int .u32 (df : Int)] 25)).trans hx1)
  clear hx1
  go_wp2_with fail
  go_loopw [28] (fun i wr => ∃ k : Nat, k ≤ rs.length ∧ i = .int .i64 k ∧ Ext w1 wr ∧ mayL none rs = mayL (prv rs k) (rs.drop k)) (fun i _ => rs.length - (intOf i).toNat)
  case atStart => exact ⟨0, by omega, rfl, Ext.refl _, rfl⟩
  case round =>
    obtain ⟨k, hk2, rfl, hx, heq⟩ := hrel
    by_cases hlt : k < rs.length
    · obtain ⟨b, o, v, rfl, g1, g2, g3, g4⟩ := Hhca.out k hlt
      replace g1 := (HX1.out.trans hx).cell g1
      replace g2 := (HX1.out.trans hx).cell g2
      replace g3 := (HX1.out.trans hx).cell g3
      replace g4 := g4.ext (HX1.out.trans hx)
      have c1r := hx.cell c1
      have HX := Lib.hid hx
      rw [mayL_step hlt] at heq
      have hR := fun W (hy : Ext wr W) => mayRule_calls rs[k] v (Hhok.out _ (List.getElem_mem hlt)) W (g4.ext hy)
      have hg0 : ∀ (h0 : 0 < k), wr.cell? ⟨b, o + (k - 1) * 3, none⟩ = some (.int .u32 ((rs[k - 1]'(by omega)).nr : Int)) := by
        intro h0
        obtain ⟨b', o', v', e', p1, -, -, -⟩ := Hhca.out (k - 1) (by omega)
        obtain ⟨rfl, rfl⟩ : b = b' ∧ o = o' := by simpa using e'
        exact (HX1.out.trans hx).cell p1
      have hpv : prv rs k = if h0 : 0 < k then some (rs[k - 1]'(by omega)).nr else none := by
        by_cases h0 : 0 < k
        · rw [dif_pos h0]
          unfold prv
          rw [if_neg (by omega), List.getElem?_eq_getElem (by omega)]; rfl
        · rw [dif_neg h0]
          unfold prv
          rw [if_pos (by omega)]
      obtain ⟨au, cu, rfl, -, -⟩ := rdT_cell g4
      clear c1 g4 hx
      have hnx := prv_succ hlt
      generalize rs[k]'hlt = r at *
      obtain ⟨rn, ts, ra⟩ := r
      dsimp only at *
      rw [hnx] at heq
      have Hhnx := Lib.hid hnx
      clear hnx
      cases hm : mayR ⟨rn, ts, ra⟩
      · rw [hm] at hR heq
        simp only [Bool.false_and] at heq
        have Hhpv := Lib.hid hpv
        clear hpv
        clear hg0
        have HhR := Lib.hid hR
        clear hR
        have Hheq := Lib.hid heq
        clear heq
        have Hhm := Lib.hid hm
        clear hm
        go_wp2_with fail
        obtain ⟨W1, hW1⟩ : ∃ W1, W1 = wr.alloc (.cells #[.int .u32 (rn : Int), .slice au ts.length cu, .int .u32 (ra : Int)] 34) := ⟨_, rfl⟩
        have hxw : Ext wr W1 := by rw [hW1]; exact (Ext.refl _).alloc _
        have k0 : ∀ x : XW W1, x.w.cell? ⟨wr.heap.size, 0, none⟩ = some (.int .u32 (rn : Int)) := fun x => x.h.cell (by rw [hW1]; simp [go_sem])
        have k1 : ∀ x : XW W1, x.w.cell? ⟨wr.heap.size, 1, none⟩ = some (.slice au ts.length cu) := fun x => x.h.cell (by rw [hW1]; simp [go_sem])
        have k2 : ∀ x : XW W1, x.w.cell? ⟨wr.heap.size, 2, none⟩ = some (.int .u32 (ra : Int)) := fun x => x.h.cell (by rw [hW1]; simp [go_sem])
        have HXW : Hid (∀ x : XW W1, Ext wr x.w) := Lib.hid (fun x => hxw.trans x.h)
        rw [← hW1]
        clear hW1 hxw
        refine wp_region_kept (by kernel_rfl) (by kernel_rfl) ?_
        repeat (any_goals (first | go_big_quiet_step ((go_at_call 50; exact calls_kept (HhR.out _ (HXW.out _)))) | quiet_step ((go_at_call 50; exact calls_kept (HhR.out _ (HXW.out _))))))
        all_goals (refine wpQuiet_nil ?_; intro _ hw'; obtain ⟨xq, hw''⟩ := hw'; subst hw'')
        go_wp2
        go_ret
        exact ⟨by rw [Hheq.out]; rfl, (HX1.out.trans HX.out).trans (HXW.out xq)⟩
      rw [hm] at hR heq
      simp only [Bool.true_and] at heq
      by_cases h0 : k = 0
      · have e0 : upB (prv rs k) rn = true := by rw [h0]; rfl
        have d0 : decide ((0 : Int) < (k : Int)) = false := decide_eq_false (by omega)
        have d1 : decide (0 < k) = false := decide_eq_false (by omega)
        have Hh0 := Lib.hid h0
        clear h0
        rw [e0, Bool.true_and] at heq
        have He0 := Lib.hid e0
        clear e0
        have Hhpv := Lib.hid hpv
        clear hpv
        clear hg0
        have HhR := Lib.hid hR
        clear hR
        have Hheq := Lib.hid heq
        clear heq
        have Hhm := Lib.hid hm
        clear hm
        go_wp2_with fail
        obtain ⟨W1, hW1⟩ : ∃ W1, W1 = wr.alloc (.cells #[.int .u32 (rn : Int), .slice au ts.length cu, .int .u32 (ra : Int)] 34) := ⟨_, rfl⟩
        have hxw : Ext wr W1 := by rw [hW1]; exact (Ext.refl _).alloc _
        have k0 : ∀ x : XW W1, x.w.cell? ⟨wr.heap.size, 0, none⟩ = some (.int .u32 (rn : Int)) := fun x => x.h.cell (by rw [hW1]; simp [go_sem])
        have k1 : ∀ x : XW W1, x.w.cell? ⟨wr.heap.size, 1, none⟩ = some (.slice au ts.length cu) := fun x => x.h.cell (by rw [hW1]; simp [go_sem])
        have k2 : ∀ x : XW W1, x.w.cell? ⟨wr.heap.size, 2, none⟩ = some (.int .u32 (ra : Int)) := fun x => x.h.cell (by rw [hW1]; simp [go_sem])
        have HXW : Hid (∀ x : XW W1, Ext wr x.w) := Lib.hid (fun x => hxw.trans x.h)
        rw [← hW1]
        clear hW1 hxw
        refine wp_region_kept (by kernel_rfl) (by kernel_rfl) ?_
        repeat (any_goals (first | go_big_quiet_step ((go_at_call 50; exact calls_kept (HhR.out _ (HXW.out _)))) | quiet_step ((go_at_call 50; exact calls_kept (HhR.out _ (HXW.out _))))))
        all_goals (refine wpQuiet_nil ?_; intro _ hw'; obtain ⟨xq, hw''⟩ := hw'; subst hw'')
        go_wp2
        go_roundw
        case rel => exact ⟨k + 1, by omega, by go_num, HX.out.trans (HXW.out xq), by rw [Hheq.out, Hhnx.out]⟩
        case measure => simp [intOf]; omega
      have hkp : 0 < k := by omega
      have hg := hg0 hkp
      rw [dif_pos hkp] at hpv
      rw [hpv] at heq
      have b1 : (0 : Int) ≤ (k : Int) - 1 := by omega
      have b2 : (k : Int) - 1 < (rs.length : Int) := by omega
      have d0 : decide ((0 : Int) < (k : Int)) = true := decide_eq_true (by omega)
      have d1 : decide (0 < k) = true := decide_eq_true hkp
      generalize (rs[k - 1]'(by omega)).nr = pn at *
      have Hhpv := Lib.hid hpv
      clear hpv
      clear hg0 h0
      cases hu : upB (some pn) rn
      · rw [hu, Bool.false_and] at heq
        have q0 : ¬ pn < rn := by unfold upB at hu; simpa using hu
        have q1 : decide (rn ≤ pn) = true := decide_eq_true (by omega)
        have q2 : decide ((rn : Int) ≤ (pn : Int)) = true := decide_eq_true (by omega)
        have Hhu := Lib.hid hu
        clear hu
        have HhR := Lib.hid hR
        clear hR
        have Hheq := Lib.hid heq
        clear heq
        have Hhm := Lib.hid hm
        clear hm
        go_wp2_with fail
        obtain ⟨W1, hW1⟩ : ∃ W1, W1 = wr.alloc (.cells #[.int .u32 (rn : Int), .slice au ts.length cu, .int .u32 (ra : Int)] 34) := ⟨_, rfl⟩
        have hxw : Ext wr W1 := by rw [hW1]; exact (Ext.refl _).alloc _
        have k0 : ∀ x : XW W1, x.w.cell? ⟨wr.heap.size, 0, none⟩ = some (.int .u32 (rn : Int)) := fun x => x.h.cell (by rw [hW1]; simp [go_sem])
        have k1 : ∀ x : XW W1, x.w.cell? ⟨wr.heap.size, 1, none⟩ = some (.slice au ts.length cu) := fun x => x.h.cell (by rw [hW1]; simp [go_sem])
        have k2 : ∀ x : XW W1, x.w.cell? ⟨wr.heap.size, 2, none⟩ = some (.int .u32 (ra : Int)) := fun x => x.h.cell (by rw [hW1]; simp [go_sem])
        have HXW : Hid (∀ x : XW W1, Ext wr x.w) := Lib.hid (fun x => hxw.trans x.h)
        have k3 : ∀ x : XW W1, x.w.cell? ⟨w.heap.size, 1, none⟩ = some (.slice (some ⟨b, o, none⟩) rs.length c) := fun x => (hxw.trans x.h).cell c1r
        have k4 : ∀ x : XW W1, x.w.cell? ⟨b, o + (k - 1) * 3, none⟩ = some (.int .u32 (pn : Int)) := fun x => (hxw.trans x.h).cell hg
        rw [← hW1]
        clear hW1 hxw
        refine wp_region_kept (by kernel_rfl) (by kernel_rfl) ?_
        repeat (any_goals (first | go_big_quiet_step ((go_at_call 50; exact calls_kept (HhR.out _ (HXW.out _)))) | quiet_step ((go_at_call 50; exact calls_kept (HhR.out _ (HXW.out _))))))
        all_goals (refine wpQuiet_nil ?_; intro _ hw'; obtain ⟨xq, hw''⟩ := hw'; subst hw'')
        go_wp2
        go_ret
        exact ⟨by rw [Hheq.out]; rfl, (HX1.out.trans HX.out).trans (HXW.out xq)⟩
      · rw [hu, Bool.true_and] at heq
        have q0 : pn < rn := by unfold upB at hu; simpa using hu
        have q1 : decide (rn ≤ pn) = false := decide_eq_false (by omega)
        have q2 : decide ((rn : Int) ≤ (pn : Int)) = false := decide_eq_false (by omega)
        have Hhu := Lib.hid hu
        clear hu
        have HhR := Lib.hid hR
        clear hR
        have Hheq := Lib.hid heq
        clear heq
        have Hhm := Lib.hid hm
        clear hm
        go_wp2_with fail
        obtain ⟨W1, hW1⟩ : ∃ W1, W1 = wr.alloc (.cells #[.int .u32 (rn : Int), .slice au ts.length cu, .int .u32 (ra : Int)] 34) := ⟨_, rfl⟩
        have hxw : Ext wr W1 := by rw [hW1]; exact (Ext.refl _).alloc _
        have k0 : ∀ x : XW W1, x.w.cell? ⟨wr.heap.size, 0, none⟩ = some (.int .u32 (rn : Int)) := fun x => x.h.cell (by rw [hW1]; simp [go_sem])
        have k1 : ∀ x : XW W1, x.w.cell? ⟨wr.heap.size, 1, none⟩ = some (.slice au ts.length cu) := fun x => x.h.cell (by rw [hW1]; simp [go_sem])
        have k2 : ∀ x : XW W1, x.w.cell? ⟨wr.heap.size, 2, none⟩ = some (.int .u32 (ra : Int)) := fun x => x.h.cell (by rw [hW1]; simp [go_sem])
        have HXW : Hid (∀ x : XW W1, Ext wr x.w) := Lib.hid (fun x => hxw.trans x.h)
        have k3 : ∀ x : XW W1, x.w.cell? ⟨w.heap.size, 1, none⟩ = some (.slice (some ⟨b, o, none⟩) rs.length c) := fun x => (hxw.trans x.h).cell c1r
        have k4 : ∀ x : XW W1, x.w.cell? ⟨b, o + (k - 1) * 3, none⟩ = some (.int .u32 (pn : Int)) := fun x => (hxw.trans x.h).cell hg
        rw [← hW1]
        clear hW1 hxw
        refine wp_region_kept (by kernel_rfl) (by kernel_rfl) ?_
        repeat (any_goals (first | go_big_quiet_step ((go_at_call 50; exact calls_kept (HhR.out _ (HXW.out _)))) | quiet_step ((go_at_call 50; exact calls_kept (HhR.out _ (HXW.out _))))))
        all_goals (refine wpQuiet_nil ?_; intro _ hw'; obtain ⟨xq, hw''⟩ := hw'; subst hw'')
        go_wp2
        go_roundw
        case rel => exact ⟨k + 1, by omega, by go_num, HX.out.trans (HXW.out xq), by rw [Hheq.out, Hhnx.out]⟩
        case measure => simp [intOf]; omega
    · obtain rfl : k = rs.length := by omega
      rw [mayL_end] at heq
      have Hheq := Lib.hid heq
      clear heq
      have c1r := hx.cell c1
      clear c1
      go_wp2
      go_ret
      exact ⟨by rw [Hheq.out]; rfl, HX1.out.trans hx⟩
end L21
end Go.Proofs.Ytkmhfjnjfghnjaa

