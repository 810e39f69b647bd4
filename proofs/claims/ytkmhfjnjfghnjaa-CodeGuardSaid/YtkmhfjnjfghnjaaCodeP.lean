/- Layer 25: how a row and data of the given input read; what the seat's program has laid out. -/
import Derived.Test.YtkmhfjnjfghnjaaCodeC
import Derived.Test.YtkmhfjnjfghnjaaLift
import Derived.Laws.IdiomArrays
namespace Go.Proofs.Ytkmhfjnjfghnjaa
open Go.RowKit Go.ChangeShapes Go.WideShapes Go.ChangeAt V
theorem Try.own : ownKnob Try.prog.godebug = none := by kernel_rfl
theorem Try.laidOut : laidOutB Try.prog = true := by kernel_rfl
namespace L25
section
variable {H : Type} {enc : TypeId × Value → H} {W : World}
theorem trod_array6 {P : Program} {base : Nat} {spare : Nat → Bool} {held : Bool} {t e : TypeId} {fuel : Nat} {c0 c1 c2 c3 c4 c5 : Value} {x : DataW H × List MemPlace} (ht : P.underlying t = some (.array 6 e)) (hce : P.cellsOf e = 1)
    (h : DataW.trod enc P W base spare held fuel t [c0, c1, c2, c3, c4, c5] = some x) :
    ∃ y0 y1 y2 y3 y4 y5 n, DataW.trod enc P W base spare held n e [c0] = some y0 ∧ DataW.trod enc P W base spare held n e [c1] = some y1 ∧ DataW.trod enc P W base spare held n e [c2] = some y2 ∧ DataW.trod enc P W base spare held n e [c3] = some y3 ∧ DataW.trod enc P W base spare held n e [c4] = some y4 ∧ DataW.trod enc P W base spare held n e [c5] = some y5 := by
  cases fuel with
  | zero => simp [DataW.trod] at h
  | succ n =>
    unfold DataW.trod at h
    rw [ht] at h
    have r6 : List.range 6 = [0, 1, 2, 3, 4, 5] := rfl
    simp [r6, hce] at h
    obtain ⟨_, h⟩ := h
    cases h0 : DataW.trod enc P W base spare held n e [c0] with
    | none => simp [h0] at h
    | some y0 =>
      cases h1 : DataW.trod enc P W base spare held n e [c1] with
      | none => simp [h0, h1] at h
      | some y1 =>
        cases h2 : DataW.trod enc P W base spare held n e [c2] with
        | none => simp [h0, h1, h2] at h
        | some y2 =>
          cases h3 : DataW.trod enc P W base spare held n e [c3] with
          | none => simp [h0, h1, h2, h3] at h
          | some y3 =>
            cases h4 : DataW.trod enc P W base spare held n e [c4] with
            | none => simp [h0, h1, h2, h3, h4] at h
            | some y4 =>
              cases h5 : DataW.trod enc P W base spare held n e [c5] with
              | none => simp [h0, h1, h2, h3, h4, h5] at h
              | some y5 => exact ⟨y0, y1, y2, y3, y4, y5, n, h0, h1, h2, h3, h4, h5⟩
theorem trod_part {P : Program} {t : TypeId} {fs : Array Field} {fuel i : Nat} {f : Field} {cs cs' : List Value} {x : DataW H × List MemPlace}
    (ht : P.underlying t = some (.struct fs)) (hf : fs[i]? = some f) (hc : (cs.drop f.offset).take (P.cellsOf f.type) = cs') (h : DataW.trod enc P W 0 (fun _ => true) true fuel t cs = some x) :
    ∃ n y, DataW.trod enc P W 0 (fun _ => true) true n f.type cs' = some y := by
  obtain ⟨xs, n, -, hx, -, hlen, hall⟩ := DataW.trod_struct ht h
  have h1 := hall i f hf
  rw [hc] at h1
  have hi2 : i < xs.length := by rw [hlen]; exact (Array.getElem?_eq_some_iff.1 hf).1
  rw [List.getElem?_eq_getElem hi2] at h1
  exact ⟨n, _, h1⟩
theorem dec_Y (fuel : Nat) (cs : List Value) (y : DataW H × List MemPlace) (h : DataW.trod enc Try.prog W 0 (fun _ => true) true fuel 70 cs = some y) (hl : Light Try.prog 70 y.1) (hn : cs.length = 4) :
    ∃ s : Sy, cs = encY s ∧ OkY s := by
  match cs, hn with
  | [c0, c1, c2, c3], _ =>
  obtain ⟨n0, y0, h0, -⟩ := trod_field (i := 0) Try.underlying70 rfl rfl (by kernel_rfl) h rfl hl
  obtain ⟨n1, y1, h1, -⟩ := trod_field (i := 1) Try.underlying70 rfl rfl (by kernel_rfl) h rfl hl
  obtain ⟨n2, y2, h2, -⟩ := trod_field (i := 2) Try.underlying70 rfl rfl (by kernel_rfl) h rfl hl
  obtain ⟨n3, y3, h3, -⟩ := trod_field (i := 3) Try.underlying70 rfl rfl (by kernel_rfl) h rfl hl
  obtain ⟨a0, e0, -, w0⟩ := DataW.trod_int Try.underlying68 h0
  obtain ⟨a1, e1, -, w1⟩ := DataW.trod_int Try.underlying23 h1
  obtain ⟨a2, e2, -, w2⟩ := DataW.trod_int Try.underlying3 h2
  obtain ⟨a3, e3, -, w3⟩ := DataW.trod_int Try.underlying3 h3
  simp only [List.cons.injEq, and_true] at e0 e1 e2 e3
  subst e0 e1 e2 e3
  obtain ⟨a0, rfl, b0⟩ : ∃ n : Nat, a0 = (n : Int) ∧ n < 65536 := by
    simp [Lit.wf, IntKind.min, IntKind.max, IntKind.signed, IntKind.bits] at w0
    exact ⟨a0.toNat, by omega, by omega⟩
  obtain ⟨a1, rfl, b1⟩ := wf_u32 w1
  exact ⟨⟨a0, a1, a2, a3⟩, rfl, ⟨b0, b1, (wf_i64 w2).1, (wf_i64 w2).2, (wf_i64 w3).1, (wf_i64 w3).2⟩⟩
set_option maxRecDepth 100000 in
theorem dec_D {base : Nat} {v : Value} {d : DataW H} {p : List MemPlace} (hv : Value.okWide Try.prog W .any base 40 v) (h : DataW.Trod enc Try.prog W 0 (fun _ => true) true 40 v d p) (hl : Light Try.prog 40 d) :
    ∃ x : Dat, v = datV x ∧ OkD x := by
  obtain ⟨cs, rfl, hsz⟩ := okWide_struct Try.underlying40 hv
  rw [show Try.prog.cellsOf 40 = 9 by kernel_rfl] at hsz
  obtain ⟨fuel, h⟩ := h
  simp only [Value.cells] at h
  obtain ⟨l⟩ := cs
  simp only [List.size_toArray] at hsz h
  match l, hsz with
  | [c0, c1, c2, c3, c4, c5, c6, c7, c8], _ =>
  obtain ⟨n0, y0, h0, -⟩ := trod_field (i := 0) Try.underlying40 rfl rfl (by kernel_rfl) h rfl hl
  obtain ⟨n1, y1, h1, -⟩ := trod_field (i := 1) Try.underlying40 rfl rfl (by kernel_rfl) h rfl hl
  obtain ⟨n2, y2, h2, -⟩ := trod_field (i := 2) Try.underlying40 rfl rfl (by kernel_rfl) h rfl hl
  obtain ⟨n3, y3, h3⟩ := trod_part (i := 3) (cs' := [c3, c4, c5, c6, c7, c8]) Try.underlying40 rfl (by show (List.drop 3 _).take (Try.prog.cellsOf 38) = _; rw [show Try.prog.cellsOf 38 = 6 by kernel_rfl]; rfl) h
  have h3b : DataW.trod enc Try.prog W 0 (fun _ => true) true n3 38 [c3, c4, c5, c6, c7, c8] = some y3 := h3
  obtain ⟨z0, z1, z2, z3, z4, z5, n, k0, k1, k2, k3, k4, k5⟩ := trod_array6 (c0 := c3) (c1 := c4) (c2 := c5) (c3 := c6) (c4 := c7) (c5 := c8) Try.underlying38 (by kernel_rfl) h3b
  obtain ⟨a0, e0, -, w0⟩ := DataW.trod_int Try.underlying23 h0
  obtain ⟨a1, e1, -, w1⟩ := DataW.trod_int Try.underlying23 h1
  obtain ⟨a2, e2, -, w2⟩ := DataW.trod_int Try.underlying35 h2
  obtain ⟨a3, e3, -, w3⟩ := DataW.trod_int Try.underlying35 k0
  obtain ⟨a4, e4, -, w4⟩ := DataW.trod_int Try.underlying35 k1
  obtain ⟨a5, e5, -, w5⟩ := DataW.trod_int Try.underlying35 k2
  obtain ⟨a6, e6, -, w6⟩ := DataW.trod_int Try.underlying35 k3
  obtain ⟨a7, e7, -, w7⟩ := DataW.trod_int Try.underlying35 k4
  obtain ⟨a8, e8, -, w8⟩ := DataW.trod_int Try.underlying35 k5
  simp only [List.cons.injEq, and_true] at e0 e1 e2 e3 e4 e5 e6 e7 e8
  subst e0 e1 e2 e3 e4 e5 e6 e7 e8
  obtain ⟨a0, rfl, b0⟩ := wf_u32 w0
  obtain ⟨a1, rfl, b1⟩ := wf_u32 w1
  obtain ⟨a2, rfl, b2⟩ := wf_u64 w2
  obtain ⟨a3, rfl, b3⟩ := wf_u64 w3
  obtain ⟨a4, rfl, b4⟩ := wf_u64 w4
  obtain ⟨a5, rfl, b5⟩ := wf_u64 w5
  obtain ⟨a6, rfl, b6⟩ := wf_u64 w6
  obtain ⟨a7, rfl, b7⟩ := wf_u64 w7
  obtain ⟨a8, rfl, b8⟩ := wf_u64 w8
  exact ⟨⟨a0, a1, a2, a3, a4, a5, a6, a7, a8⟩, rfl, ⟨b0, b1, b2, b3, b4, b5, b6, b7, b8⟩⟩
end
end L25
end Go.Proofs.Ytkmhfjnjfghnjaa
