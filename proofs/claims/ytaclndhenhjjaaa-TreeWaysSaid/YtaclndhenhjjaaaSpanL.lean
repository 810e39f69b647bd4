/- Layer 23: how a span of the given input reads; what the seat's program has laid out. -/
import Derived.Test.YtaclndhenhjjaaaSpanA
namespace Go.Proofs.Ytaclndhenhjjaaa
open Go.RowKit Go.ChangeShapes Go.WideShapes Go.ChangeAt V
theorem Try.own : ownKnob Try.prog.godebug = none := by kernel_rfl
theorem Try.laidOut : laidOutB Try.prog = true := by kernel_rfl
namespace L23
theorem dec_S {H : Type} {enc : TypeId × Value → H} {W : World} (fuel : Nat) (cs : List Value) (y : DataW H × List MemPlace) (h : DataW.trod enc Try.prog W 0 (fun _ => true) true fuel 33 cs = some y) (hl : Light Try.prog 33 y.1) (hn : cs.length = 3) :
    ∃ s : Span, cs = encS s ∧ OkS s := by
  match cs, hn with
  | [c0, c1, c2], _ =>
  obtain ⟨n0, y0, h0, -⟩ := trod_field (i := 0) Try.underlying33 rfl rfl (by kernel_rfl) h rfl hl
  obtain ⟨n1, y1, h1, -⟩ := trod_field (i := 1) Try.underlying33 rfl rfl (by kernel_rfl) h rfl hl
  obtain ⟨n2, y2, h2, -⟩ := trod_field (i := 2) Try.underlying33 rfl rfl (by kernel_rfl) h rfl hl
  obtain ⟨a0, e0, -, w0⟩ := DataW.trod_int Try.underlying31 h0
  obtain ⟨a1, e1, -, w1⟩ := DataW.trod_int Try.underlying31 h1
  obtain ⟨a2, e2, -, w2⟩ := DataW.trod_int Try.underlying3 h2
  simp only [List.cons.injEq, and_true] at e0 e1 e2
  subst e0 e1 e2
  obtain ⟨a0, rfl, b0⟩ := wf_u32 w0
  obtain ⟨a1, rfl, b1⟩ := wf_u32 w1
  exact ⟨⟨a0, a1, a2⟩, rfl, ⟨b0, b1, (wf_i64 w2).1, (wf_i64 w2).2⟩⟩
end L23
end Go.Proofs.Ytaclndhenhjjaaa
