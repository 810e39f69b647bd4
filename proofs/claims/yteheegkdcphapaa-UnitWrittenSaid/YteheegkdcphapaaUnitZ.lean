/- Layer 13: how assignments of the given input read. -/
import Derived.Test.YteheegkdcphapaaUnitY
namespace Go.Proofs.Yteheegkdcphapaa
open Go.RowKit Go.ChangeShapes Go.WideShapes Go.ChangeAt V
namespace L12
section
variable {H : Type} {enc : TypeId × Value → H} {W : World}
theorem dec_AI (fuel : Nat) (cs : List Value) (y : DataW H × List MemPlace) (h : DataW.trod enc Try.prog W 0 (fun _ => true) true fuel 61 cs = some y) (hl : Light Try.prog 61 y.1) (hn : cs.length = 5) :
    ∃ x : AsI, cs = encAI x ∧ OkAI x := by
  match cs, hn with
  | [c0, c1, c2, c3, c4], _ =>
  obtain ⟨n0, y0, h0, -⟩ := trod_field (i := 0) Try.underlying61 rfl rfl (by kernel_rfl) h rfl hl
  obtain ⟨n1, y1, h1, -⟩ := trod_field (i := 1) Try.underlying61 rfl rfl (by kernel_rfl) h rfl hl
  obtain ⟨n2, y2, h2, -⟩ := trod_field (i := 2) Try.underlying61 rfl rfl (by kernel_rfl) h rfl hl
  obtain ⟨n3, y3, h3, -⟩ := trod_field (i := 3) Try.underlying61 rfl rfl (by kernel_rfl) h rfl hl
  obtain ⟨n4, y4, h4, -⟩ := trod_field (i := 4) Try.underlying61 rfl rfl (by kernel_rfl) h rfl hl
  obtain ⟨a0, e0, -, w0⟩ := DataW.trod_string Try.underlying9 h0
  obtain ⟨a1, e1, -, w1⟩ := DataW.trod_int Try.underlying3 h1
  obtain ⟨a2, e2, -, w2⟩ := DataW.trod_string Try.underlying9 h2
  obtain ⟨a3, e3, -, w3⟩ := DataW.trod_string Try.underlying9 h3
  obtain ⟨a4, e4, -, w4⟩ := DataW.trod_string Try.underlying9 h4
  simp only [List.cons.injEq, and_true] at e0 e1 e2 e3 e4
  subst e0 e1 e2 e3 e4
  exact ⟨⟨a0, a1, bytes a2, bytes a3, bytes a4⟩, by unfold encAI; rw [str_bytes, str_bytes, str_bytes], ⟨by show (bytes a2).length ≤ _; rw [bytes_len]; exact w2, by show (bytes a3).length ≤ _; rw [bytes_len]; exact w3, by show (bytes a4).length ≤ _; rw [bytes_len]; exact w4⟩⟩
end
end L12
end Go.Proofs.Yteheegkdcphapaa
