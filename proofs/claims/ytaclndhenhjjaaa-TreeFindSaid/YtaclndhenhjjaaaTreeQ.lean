/- Layer 24: how a node of the given input reads. -/
import Derived.Test.YtaclndhenhjjaaaTreeA
import Derived.Test.YtaclndhenhjjaaaSpanL
namespace Go.Proofs.Ytaclndhenhjjaaa
open Go.RowKit Go.ChangeShapes Go.WideShapes Go.ChangeAt V
namespace L24
open L23
theorem dec_N {H : Type} {enc : TypeId × Value → H} {W : World} (fuel : Nat) (cs : List Value) (y : DataW H × List MemPlace) (h : DataW.trod enc Try.prog W 0 (fun _ => true) true fuel 51 cs = some y) (hl : Light Try.prog 51 y.1) (hn : cs.length = 5) :
    ∃ s : Node, cs = encN s ∧ OkN s := by
  match cs, hn with
  | [c0, c1, c2, c3, c4], _ =>
  obtain ⟨n0, y0, h0, -⟩ := trod_field (i := 0) Try.underlying51 rfl rfl (by kernel_rfl) h rfl hl
  obtain ⟨n1, y1, h1, -⟩ := trod_field (i := 1) Try.underlying51 rfl rfl (by kernel_rfl) h rfl hl
  obtain ⟨n2, y2, h2, -⟩ := trod_field (i := 2) Try.underlying51 rfl rfl (by kernel_rfl) h rfl hl
  obtain ⟨n3, y3, h3, -⟩ := trod_field (i := 3) Try.underlying51 rfl rfl (by kernel_rfl) h rfl hl
  obtain ⟨n4, y4, h4, -⟩ := trod_field (i := 4) Try.underlying51 rfl rfl (by kernel_rfl) h rfl hl
  obtain ⟨a0, e0, -⟩ := DataW.trod_bool Try.underlying4 h0
  obtain ⟨a1, e1, -, w1⟩ := DataW.trod_int Try.underlying3 h1
  obtain ⟨a2, e2, -, w2⟩ := DataW.trod_int Try.underlying31 h2
  obtain ⟨a3, e3, -, w3⟩ := DataW.trod_int Try.underlying3 h3
  obtain ⟨a4, e4, -, w4⟩ := DataW.trod_int Try.underlying3 h4
  simp only [List.cons.injEq, and_true] at e0 e1 e2 e3 e4
  subst e0 e1 e2 e3 e4
  obtain ⟨a2, rfl, b2⟩ := wf_u32 w2
  exact ⟨⟨a0, a1, a2, a3, a4⟩, rfl, ⟨(wf_i64 w1).1, (wf_i64 w1).2, b2, (wf_i64 w3).1, (wf_i64 w3).2, (wf_i64 w4).1, (wf_i64 w4).2⟩⟩
end L24
end Go.Proofs.Ytaclndhenhjjaaa
