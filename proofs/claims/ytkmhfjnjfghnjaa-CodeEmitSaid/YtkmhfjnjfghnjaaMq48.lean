import Derived.Test.YtkmhfjnjfghnjaaMq6
/- Layer 21: how filters, rules and tests of the given input read. -/
namespace Go.Proofs.Ytkmhfjnjfghnjaa
open Go.RowKit Go.ChangeShapes Go.WideShapes Go.ChangeAt V
namespace L21
section
variable {H : Type} {enc : TypeId × Value → H} {W : World}
theorem dec_T (fuel : Nat) (cs : List Value) (y : DataW H × List MemPlace) (h : DataW.trod enc Try.prog W 0 (fun _ => true) true fuel 37 cs = some y) (hl : Light Try.prog 37 y.1) (hn : cs.length = 4) :
    ∃ t : Test, cs = encT t ∧ OkT t := by
  match cs, hn with
  | [c0, c1, c2, c3], _ =>
  obtain ⟨n0, y0, h0, -⟩ := trod_field (i := 0) Try.underlying37 rfl rfl (by kernel_rfl) h rfl hl
  obtain ⟨n1, y1, h1, -⟩ := trod_field (i := 1) Try.underlying37 rfl rfl (by kernel_rfl) h rfl hl
  obtain ⟨n2, y2, h2, -⟩ := trod_field (i := 2) Try.underlying37 rfl rfl (by kernel_rfl) h rfl hl
  obtain ⟨n3, y3, h3, -⟩ := trod_field (i := 3) Try.underlying37 rfl rfl (by kernel_rfl) h rfl hl
  obtain ⟨a0, e0, -, w0⟩ := DataW.trod_int Try.underlying3 h0
  obtain ⟨a1, e1, -, w1⟩ := DataW.trod_int Try.underlying35 h1
  obtain ⟨a2, e2, -, w2⟩ := DataW.trod_int Try.underlying35 h2
  obtain ⟨a3, e3, -, w3⟩ := DataW.trod_int Try.underlying23 h3
  simp only [List.cons.injEq, and_true] at e0 e1 e2 e3
  subst e0 e1 e2 e3
  obtain ⟨a1, rfl, b1⟩ := wf_u64 w1
  obtain ⟨a2, rfl, b2⟩ := wf_u64 w2
  obtain ⟨a3, rfl, b3⟩ := wf_u32 w3
  exact ⟨⟨a0, a1, a2, a3⟩, rfl, ⟨(wf_i64 w0).1, (wf_i64 w0).2, b1, b2, b3⟩⟩
theorem dec_R (fuel : Nat) (cs : List Value) (y : DataW H × List MemPlace) (h : DataW.trod enc Try.prog W 0 (fun _ => true) true fuel 34 cs = some y) (hl : Light Try.prog 34 y.1) (hn : cs.length = 3) :
    ∃ r : Rule, IsR W cs r ∧ OkR r := by
  match cs, hn with
  | [c0, c1, c2], _ =>
  obtain ⟨n0, y0, h0, -⟩ := trod_field (i := 0) Try.underlying34 rfl rfl (by kernel_rfl) h rfl hl
  obtain ⟨n1, y1, h1, l1⟩ := trod_field (i := 1) Try.underlying34 rfl rfl (by kernel_rfl) h rfl hl
  obtain ⟨n2, y2, h2, -⟩ := trod_field (i := 2) Try.underlying34 rfl rfl (by kernel_rfl) h rfl hl
  obtain ⟨a0, e0, -, w0⟩ := DataW.trod_int Try.underlying23 h0
  obtain ⟨a2, e2, -, w2⟩ := DataW.trod_int Try.underlying23 h2
  simp only [List.cons.injEq, and_true] at e0 e2
  subst e0 e2
  obtain ⟨a0, rfl, b0⟩ := wf_u32 w0
  obtain ⟨a2, rfl, b2⟩ := wf_u32 w2
  obtain ⟨ts, hR, -, hb, -⟩ := open_rd (n := 4) (fun cs x => cs = encT x ∧ OkT x) ⟨0, 0, 0, 0⟩ Try.underlying32 (by kernel_rfl) (by decide) dec_T h1 l1
  obtain ⟨hrd, hok⟩ := hR.rd
  rw [show Try.prog.bytesOf 37 = 32 by kernel_rfl] at hb
  exact ⟨⟨a0, ts, a2⟩, ⟨_, rfl, hrd⟩, ⟨b0, b2, by unfold reachBytes at hb; show ts.length ≤ _; omega, hok⟩⟩
theorem rdR_split {ok : Rule → Prop} {v : Value} {xs : List Rule} (h : RdR W 3 (fun cs x => IsR W cs x ∧ ok x) v xs) : RdR W 3 (IsR W) v xs ∧ ∀ x ∈ xs, ok x := by
  obtain ⟨a, c, h1, h2, h3, h4⟩ := h
  refine ⟨⟨a, c, h1, h2, h3, fun i hi => ?_⟩, fun x hx => ?_⟩
  · obtain ⟨b, o, cs, e, hl, hat, hx, _⟩ := h4 i hi
    exact ⟨b, o, cs, e, hl, hat, hx⟩
  · obtain ⟨i, hi, rfl⟩ := List.getElem_of_mem hx
    obtain ⟨b, o, cs, e, _, hat, _, hok⟩ := h4 i hi
    exact hok
set_option maxRecDepth 100000 in
theorem dec_F {base : Nat} {v : Value} {d : DataW H} {p : List MemPlace} (hv : Value.okWide Try.prog W .any base 25 v) (h : DataW.Trod enc Try.prog W 0 (fun _ => true) true 25 v d p) (hl : Light Try.prog 25 d) :
    ∃ (f : Filter) (u : Value), v = .agg #[.int .i64 f.arch, u, .int .u32 (f.dflt : Int)] ∧ RdR W 3 (IsR W) u f.rules ∧ OkF f := by
  obtain ⟨cs, rfl, hsz⟩ := okWide_struct Try.underlying25 hv
  rw [show Try.prog.cellsOf 25 = 3 by kernel_rfl] at hsz
  obtain ⟨fuel, h⟩ := h
  simp only [Value.cells] at h
  obtain ⟨l⟩ := cs
  simp only [List.size_toArray] at hsz h
  match l, hsz with
  | [c0, c1, c2], _ =>
  obtain ⟨n0, y0, h0, -⟩ := trod_field (i := 0) Try.underlying25 rfl rfl (by kernel_rfl) h rfl hl
  obtain ⟨n1, y1, h1, l1⟩ := trod_field (i := 1) Try.underlying25 rfl rfl (by kernel_rfl) h rfl hl
  obtain ⟨n2, y2, h2, -⟩ := trod_field (i := 2) Try.underlying25 rfl rfl (by kernel_rfl) h rfl hl
  obtain ⟨a0, e0, -, w0⟩ := DataW.trod_int Try.underlying3 h0
  obtain ⟨a2, e2, -, w2⟩ := DataW.trod_int Try.underlying23 h2
  simp only [List.cons.injEq, and_true] at e0 e2
  subst e0 e2
  obtain ⟨a2, rfl, b2⟩ := wf_u32 w2
  obtain ⟨rs, hR, -, hb, -⟩ := open_rd (n := 3) (fun cs x => IsR W cs x ∧ OkR x) ⟨0, [], 0⟩ Try.underlying22 (by kernel_rfl) (by decide) dec_R h1 l1
  obtain ⟨hrd, hok⟩ := rdR_split hR
  rw [show Try.prog.bytesOf 34 = 40 by kernel_rfl] at hb
  exact ⟨⟨a0, rs, a2⟩, c1, rfl, hrd, ⟨(wf_i64 w0).1, (wf_i64 w0).2, b2, by unfold reachBytes at hb; show rs.length ≤ _; omega, hok⟩⟩
set_option maxRecDepth 100000 in
theorem dec_Rv {base : Nat} {v : Value} {d : DataW H} {p : List MemPlace} (hv : Value.okWide Try.prog W .any base 34 v) (h : DataW.Trod enc Try.prog W 0 (fun _ => true) true 34 v d p) (hl : Light Try.prog 34 d) :
    ∃ (r : Rule) (u : Value), v = .agg #[.int .u32 (r.nr : Int), u, .int .u32 (r.action : Int)] ∧ Rd W 4 encT u r.tests ∧ OkR r := by
  obtain ⟨cs, rfl, hsz⟩ := okWide_struct Try.underlying34 hv
  rw [show Try.prog.cellsOf 34 = 3 by kernel_rfl] at hsz
  obtain ⟨fuel, h⟩ := h
  simp only [Value.cells] at h
  obtain ⟨l⟩ := cs
  simp only [List.size_toArray] at hsz h
  obtain ⟨r, ⟨u, rfl, hu⟩, hr⟩ := dec_R fuel l (d, p) h hl hsz
  exact ⟨r, u, rfl, hu, hr⟩
set_option maxRecDepth 100000 in
theorem dec_Tv {base : Nat} {v : Value} {d : DataW H} {p : List MemPlace} (hv : Value.okWide Try.prog W .any base 37 v) (h : DataW.Trod enc Try.prog W 0 (fun _ => true) true 37 v d p) (hl : Light Try.prog 37 d) :
    ∃ t : Test, v = .agg #[.int .i64 t.arg, .int .u64 (t.mask : Int), .int .u64 (t.value : Int), .int .u32 (t.action : Int)] ∧ OkT t := by
  obtain ⟨cs, rfl, hsz⟩ := okWide_struct Try.underlying37 hv
  rw [show Try.prog.cellsOf 37 = 4 by kernel_rfl] at hsz
  obtain ⟨fuel, h⟩ := h
  simp only [Value.cells] at h
  obtain ⟨l⟩ := cs
  simp only [List.size_toArray] at hsz h
  obtain ⟨t, rfl, ht⟩ := dec_T fuel l (d, p) h hl hsz
  exact ⟨t, rfl, ht⟩
end
end L21
end Go.Proofs.Ytkmhfjnjfghnjaa

