/- Layer 21: IrSame meets its given row: of every two filters it returns true, and nothing that lay in memory turns. No condition. -/
import Derived.Test.YtkmhfjnjfghnjaaIrE
namespace Go.Proofs.Ytkmhfjnjfghnjaa
open Go.RowKit Go.ChangeShapes Go.WideShapes Go.ChangeAt V
theorem Try.own : ownKnob Try.prog.godebug = none := by kernel_rfl
theorem Try.laidOut : laidOutB Try.prog = true := by kernel_rfl
namespace L21
set_option maxRecDepth 100000 in
theorem IrSame_calls (f g : Filter) (u v : Value) (hf : OkF f) (hg : OkF g) (w : World) (hu : RdR w 3 (IsR w) u f.rules) (hv : RdR w 3 (IsR w) v g.rules) :
    Calls Try.prog 3 #[.agg #[.int .i64 f.arch, u, .int .u32 (f.dflt : Int)], .agg #[.int .i64 g.arch, v, .int .u32 (g.dflt : Int)]] w fun e w' => e = .returned (.bool true) ∧ Ext w w' := by
  obtain ⟨a, c, rfl, -⟩ := id hu
  obtain ⟨b, d, rfl, -⟩ := id hv
  have hE0 : Ext w ((w.alloc (.cells #[.int .i64 f.arch, .slice a f.rules.length c, .int .u32 (f.dflt : Int)] 25)).alloc (.cells #[.int .i64 g.arch, .slice b g.rules.length d, .int .u32 (g.dflt : Int)] 25)) := ((Ext.refl _).alloc _).alloc _
  cases hgf : great 0 f.rules
  case true =>
    have HGF := Lib.hid hgf
    clear hgf
    go_enter Try.func3, Try.ntmps3
    go_wp2_with (go_at_call 15; refine (Great_calls f _ hf _ (rdRR_ext hE0 hu)).mono ?_; rw [HGF.out]; rintro e w1 ⟨rfl, hx1⟩)
    go_ret
    exact ⟨rfl, hE0.trans hx1⟩
  case false =>
    have HGF := Lib.hid hgf
    clear hgf
    cases hgg : great 0 g.rules
    case true =>
      have HGG := Lib.hid hgg
      clear hgg
      go_enter Try.func3, Try.ntmps3
      go_wp2_with fail
      refine (Great_calls f _ hf _ (rdRR_ext hE0 hu)).mono ?_
      rw [HGF.out]
      rintro e w1 ⟨rfl, hx1⟩
      have d0 : w1.cell? ⟨w.heap.size + 1, 0, none⟩ = some (.int .i64 g.arch) := hx1.cell (by simp [go_sem])
      have d1 : w1.cell? ⟨w.heap.size + 1, 1, none⟩ = some (.slice b g.rules.length d) := hx1.cell (by simp [go_sem])
      have d2 : w1.cell? ⟨w.heap.size + 1, 2, none⟩ = some (.int .u32 (g.dflt : Int)) := hx1.cell (by simp [go_sem])
      go_wp2_with fail
      refine (Great_calls g _ hg _ (rdRR_ext (hE0.trans hx1) hv)).mono ?_
      rw [HGG.out]
      rintro e w2 ⟨rfl, hx2⟩
      go_wp2_with fail
      go_ret
      exact ⟨rfl, (hE0.trans hx1).trans hx2⟩
    case false =>
      have HGG := Lib.hid hgg
      clear hgg
      go_enter Try.func3, Try.ntmps3
      go_wp2_with fail
      refine (Great_calls f _ hf _ (rdRR_ext hE0 hu)).mono ?_
      rw [HGF.out]
      rintro e w1 ⟨rfl, hx1⟩
      have c0 : w1.cell? ⟨w.heap.size, 0, none⟩ = some (.int .i64 f.arch) := hx1.cell (by simp [go_sem])
      have c1 : w1.cell? ⟨w.heap.size, 1, none⟩ = some (.slice a f.rules.length c) := hx1.cell (by simp [go_sem])
      have c2 : w1.cell? ⟨w.heap.size, 2, none⟩ = some (.int .u32 (f.dflt : Int)) := hx1.cell (by simp [go_sem])
      have d0 : w1.cell? ⟨w.heap.size + 1, 0, none⟩ = some (.int .i64 g.arch) := hx1.cell (by simp [go_sem])
      have d1 : w1.cell? ⟨w.heap.size + 1, 1, none⟩ = some (.slice b g.rules.length d) := hx1.cell (by simp [go_sem])
      have d2 : w1.cell? ⟨w.heap.size + 1, 2, none⟩ = some (.int .u32 (g.dflt : Int)) := hx1.cell (by simp [go_sem])
      go_wp2_with fail
      refine (Great_calls g _ hg _ (rdRR_ext (hE0.trans hx1) hv)).mono ?_
      rw [HGG.out]
      rintro e w2 ⟨rfl, hx2⟩
      replace c0 := hx2.cell c0; replace c1 := hx2.cell c1; replace c2 := hx2.cell c2; replace d0 := hx2.cell d0; replace d1 := hx2.cell d1; replace d2 := hx2.cell d2
      have hE2 := (hE0.trans hx1).trans hx2
      have hu2 := rdRR_ext hE2 hu
      have hv2 := rdRR_ext hE2 hv
      have hrf := sameF_refl f
      have HRF := Lib.hid hrf
      have hz0 : Ext w2 w2.drew := (Ext.refl _).drew
      have hz00 : Ext w2 w2 := Ext.refl _
      clear hE0 hx1 hx2 hu hv hrf
      go_wp2_with fail
      (go_region_held3 (fun w' => w'.cell? ⟨w.heap.size, 0, none⟩ = some (.int .i64 f.arch) ∧ w'.cell? ⟨w.heap.size, 1, none⟩ = some (.slice a f.rules.length c) ∧ w'.cell? ⟨w.heap.size, 2, none⟩ = some (.int .u32 (f.dflt : Int)) ∧
          w'.cell? ⟨w.heap.size + 1, 0, none⟩ = some (.int .i64 g.arch) ∧ w'.cell? ⟨w.heap.size + 1, 1, none⟩ = some (.slice b g.rules.length d) ∧ w'.cell? ⟨w.heap.size + 1, 2, none⟩ = some (.int .u32 (g.dflt : Int)))
        (exact ⟨Ext.cell (by assumption) c0, Ext.cell (by assumption) c1, Ext.cell (by assumption) c2, Ext.cell (by assumption) d0, Ext.cell (by assumption) d1, Ext.cell (by assumption) d2⟩)
        (first
          | (go_at_call 17; (with_reducible refine (refSame_calls f g _ _ hf _ (rdRR_ext (by assumption) hu2) (rdRR_ext (by assumption) hv2)).mono ?_); rintro e w3 ⟨rfl, hx3⟩; have hz3 : Ext w2 w3 := Ext.trans (by assumption) hx3)
          | (go_at_call 16; (with_reducible refine (Same_calls f g _ _ hf _ (rdRR_ext (by assumption) hu2) (rdRR_ext (by assumption) hv2)).mono ?_); rintro e w4 ⟨rfl, hx4⟩; have hz4 : Ext w2 w4 := Ext.trans (by assumption) hx4)
          | (go_at_call 16; (with_reducible refine (Same_calls f f _ _ hf _ (rdRR_ext (by assumption) hu2) (rdRR_ext (by assumption) hu2)).mono ?_); rw [HRF.out]; rintro e w5 ⟨rfl, hx5⟩; have hz5 : Ext w2 w5 := Ext.trans (by assumption) hx5)))
      go_wp2
      go_ret
      exact ⟨rfl, hE2.trans (by assumption)⟩
section
variable {H : Type} {enc : TypeId × Value → H} {W : World}
theorem dec_T (fuel : Nat) (cs : List Value) (y : DataW H × List MemPlace) (h : DataW.trod enc Try.prog W 0 (fun _ => true) true fuel 37 cs = some y) (hl : Light Try.prog 37 y.1) (hn : cs.length = 4) :
    ∃ t : Test, cs = encT t ∧ OkT t := by
  match cs, hn with
  | [c0, c1, c2, c3], _ =>
  obtain ⟨n0, y0, h0, -⟩ := trod_field (i := 0) Try.underlying37 rfl rfl (by kernel_rfl) h rfl hl
  obtain ⟨n1, y1, h1, -⟩ := trod_field (i := 1) Try.underlying37 rfl rfl (by kernel_rfl) h rfl hl
  obtain ⟨n2, y2, h2, -⟩ := trod_field (i := 2) Try.underlying37 rfl rfl (by kernel_rfl) h rfl hl
  obtain ⟨n3, y3, h3, -⟩ := trod_field (i := 3) Try.underlying37 rfl rfl (by kernel_rfl) h rfl hl
  obtain ⟨a0, e0, -, w0⟩ := DataW.trod_int Try.underlying3 h0
  obtain ⟨a1, e1, -, w1⟩ := DataW.trod_int Try.underlying35 h1
  obtain ⟨a2, e2, -, w2⟩ := DataW.trod_int Try.underlying35 h2
  obtain ⟨a3, e3, -, w3⟩ := DataW.trod_int Try.underlying23 h3
  simp only [List.cons.injEq, and_true] at e0 e1 e2 e3
  subst e0 e1 e2 e3
  obtain ⟨a1, rfl, b1⟩ := wf_u64 w1
  obtain ⟨a2, rfl, b2⟩ := wf_u64 w2
  obtain ⟨a3, rfl, b3⟩ := wf_u32 w3
  exact ⟨⟨a0, a1, a2, a3⟩, rfl, ⟨(wf_i64 w0).1, (wf_i64 w0).2, b1, b2, b3⟩⟩
theorem dec_R (fuel : Nat) (cs : List Value) (y : DataW H × List MemPlace) (h : DataW.trod enc Try.prog W 0 (fun _ => true) true fuel 34 cs = some y) (hl : Light Try.prog 34 y.1) (hn : cs.length = 3) :
    ∃ r : Rule, IsR W cs r ∧ OkR r := by
  match cs, hn with
  | [c0, c1, c2], _ =>
  obtain ⟨n0, y0, h0, -⟩ := trod_field (i := 0) Try.underlying34 rfl rfl (by kernel_rfl) h rfl hl
  obtain ⟨n1, y1, h1, l1⟩ := trod_field (i := 1) Try.underlying34 rfl rfl (by kernel_rfl) h rfl hl
  obtain ⟨n2, y2, h2, -⟩ := trod_field (i := 2) Try.underlying34 rfl rfl (by kernel_rfl) h rfl hl
  obtain ⟨a0, e0, -, w0⟩ := DataW.trod_int Try.underlying23 h0
  obtain ⟨a2, e2, -, w2⟩ := DataW.trod_int Try.underlying23 h2
  simp only [List.cons.injEq, and_true] at e0 e2
  subst e0 e2
  obtain ⟨a0, rfl, b0⟩ := wf_u32 w0
  obtain ⟨a2, rfl, b2⟩ := wf_u32 w2
  obtain ⟨ts, hR, -, hb, -⟩ := open_rd (n := 4) (fun cs x => cs = encT x ∧ OkT x) ⟨0, 0, 0, 0⟩ Try.underlying32 (by kernel_rfl) (by decide) dec_T h1 l1
  obtain ⟨hrd, hok⟩ := hR.rd
  rw [show Try.prog.bytesOf 37 = 32 by kernel_rfl] at hb
  exact ⟨⟨a0, ts, a2⟩, ⟨_, rfl, hrd⟩, ⟨b0, b2, by unfold reachBytes at hb; show ts.length ≤ _; omega, hok⟩⟩
theorem rdR_split {ok : Rule → Prop} {v : Value} {xs : List Rule} (h : RdR W 3 (fun cs x => IsR W cs x ∧ ok x) v xs) : RdR W 3 (IsR W) v xs ∧ ∀ x ∈ xs, ok x := by
  obtain ⟨a, c, h1, h2, h3, h4⟩ := h
  refine ⟨⟨a, c, h1, h2, h3, fun i hi => ?_⟩, fun x hx => ?_⟩
  · obtain ⟨b, o, cs, e, hl, hat, hx, _⟩ := h4 i hi
    exact ⟨b, o, cs, e, hl, hat, hx⟩
  · obtain ⟨i, hi, rfl⟩ := List.getElem_of_mem hx
    obtain ⟨b, o, cs, e, _, hat, _, hok⟩ := h4 i hi
    exact hok
set_option maxRecDepth 100000 in
theorem dec_F {base : Nat} {v : Value} {d : DataW H} {p : List MemPlace} (hv : Value.okWide Try.prog W .any base 25 v) (h : DataW.Trod enc Try.prog W 0 (fun _ => true) true 25 v d p) (hl : Light Try.prog 25 d) :
    ∃ (f : Filter) (u : Value), v = .agg #[.int .i64 f.arch, u, .int .u32 (f.dflt : Int)] ∧ RdR W 3 (IsR W) u f.rules ∧ OkF f := by
  obtain ⟨cs, rfl, hsz⟩ := okWide_struct Try.underlying25 hv
  rw [show Try.prog.cellsOf 25 = 3 by kernel_rfl] at hsz
  obtain ⟨fuel, h⟩ := h
  simp only [Value.cells] at h
  obtain ⟨l⟩ := cs
  simp only [List.size_toArray] at hsz h
  match l, hsz with
  | [c0, c1, c2], _ =>
  obtain ⟨n0, y0, h0, -⟩ := trod_field (i := 0) Try.underlying25 rfl rfl (by kernel_rfl) h rfl hl
  obtain ⟨n1, y1, h1, l1⟩ := trod_field (i := 1) Try.underlying25 rfl rfl (by kernel_rfl) h rfl hl
  obtain ⟨n2, y2, h2, -⟩ := trod_field (i := 2) Try.underlying25 rfl rfl (by kernel_rfl) h rfl hl
  obtain ⟨a0, e0, -, w0⟩ := DataW.trod_int Try.underlying3 h0
  obtain ⟨a2, e2, -, w2⟩ := DataW.trod_int Try.underlying23 h2
  simp only [List.cons.injEq, and_true] at e0 e2
  subst e0 e2
  obtain ⟨a2, rfl, b2⟩ := wf_u32 w2
  obtain ⟨rs, hR, -, hb, -⟩ := open_rd (n := 3) (fun cs x => IsR W cs x ∧ OkR x) ⟨0, [], 0⟩ Try.underlying22 (by kernel_rfl) (by decide) dec_R h1 l1
  obtain ⟨hrd, hok⟩ := rdR_split hR
  rw [show Try.prog.bytesOf 34 = 40 by kernel_rfl] at hb
  exact ⟨⟨a0, rs, a2⟩, c1, rfl, hrd, ⟨(wf_i64 w0).1, (wf_i64 w0).2, b2, by unfold reachBytes at hb; show rs.length ≤ _; omega, hok⟩⟩
end
set_option maxRecDepth 100000 in
theorem IrSame_lifted (os : Os) (started : os.Started) (H : Type) (enc : TypeId × Value → H) :
    ReturnsInHanded {} Try.checked os 3 .any (Rows.irSameSpec.pre6 enc Try.prog Try.f3 Rows.irSameRow.domain false) (Rows.irSameSpec.post enc Try.prog Try.f3 false true false false) := by
  refine law_lifted (C := Try.checked) (T := 4) Try.own started (by kernel_rfl) Try.func3 Try.laidOut (by kernel_rfl) rfl rfl Try.underlying4 ?_
    (ChangeSpec.witness6 (enc := enc) (C := Try.checked) false ⟨#[], #[.agg #[.int .i64 0, .slice none 0 0, .int .u32 0], .agg #[.int .i64 0, .slice none 0 0, .int .u32 0]], []⟩ 8 (by kernel_rfl) (by kernel_rfl) (by kernel_rfl) (by kernel_rfl)) ?_
  · intro ds hd
    match ds, hd with
    | [_, _], _ => rfl
  intro W base args ds before hval0 hA0 hlt hsz0
  have hval : ∀ (j : Nat) t v, Try.f3.params[j]? = some t → args[j]? = some v → Value.okWide Try.prog W .any base t v := hval0
  have hA : DataW.TrodAll enc Try.prog W 0 (fun _ => true) true Try.f3.params.toList args.toList ds before := hA0
  have hsz : (DataW.weightsEach Try.prog Try.f3.params.toList ds).all (· ≤ reachBytes) = true := hsz0
  rw [Try.params3] at hA hval hsz
  obtain ⟨v0, v1, d0, d1, p0, p1, rfl, rfl, rfl, h0, h1⟩ := trodAll_two hA
  obtain ⟨f, u, rfl, hu, hf⟩ := dec_F (hval 0 25 v0 rfl rfl) h0 (light_of hsz (i := 0) rfl rfl)
  obtain ⟨g, v, rfl, hv, hg⟩ := dec_F (hval 1 25 v1 rfl rfl) h1 (light_of hsz (i := 1) rfl rfl)
  exact IrSame_calls f g u v hf hg W hu hv
end L21
end Go.Proofs.Ytkmhfjnjfghnjaa
