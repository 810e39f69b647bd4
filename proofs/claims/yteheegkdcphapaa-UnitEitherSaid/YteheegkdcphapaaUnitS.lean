/- Layer 13: how a file of the given input reads. -/
import Derived.Test.YteheegkdcphapaaLineK
import Derived.Test.YteheegkdcphapaaUnitH
namespace Go.Proofs.Yteheegkdcphapaa
open Go.RowKit Go.ChangeShapes Go.WideShapes Go.ChangeAt V
namespace L12
section
variable {H : Type} {enc : TypeId × Value → H} {W : World}
set_option maxRecDepth 100000 in
theorem dec_File {base : Nat} {v : Value} {d : DataW H} {p : List MemPlace} (hv : Value.okWide Try.prog W .any base 48 v) (h : DataW.Trod enc Try.prog W 0 (fun _ => true) true 48 v d p) (hl : Light Try.prog 48 d) :
    ∃ (fn : ByteArray) (k : Int) (u : Value) (bs : List UInt8), v = fileV fn k u ∧ Rd W 1 encB u bs ∧ fn.size ≤ maxLen ∧ bs.length ≤ maxLen := by
  obtain ⟨cs, rfl, hsz⟩ := okWide_struct Try.underlying48 hv
  rw [show Try.prog.cellsOf 48 = 3 by kernel_rfl] at hsz
  obtain ⟨fuel, h⟩ := h
  simp only [Value.cells] at h
  obtain ⟨l⟩ := cs
  simp only [List.size_toArray] at hsz h
  match l, hsz with
  | [c0, c1, c2], _ =>
  obtain ⟨n0, y0, h0, -⟩ := trod_field (i := 0) Try.underlying48 rfl rfl (by kernel_rfl) h rfl hl
  obtain ⟨n1, y1, h1, -⟩ := trod_field (i := 1) Try.underlying48 rfl rfl (by kernel_rfl) h rfl hl
  obtain ⟨n2, y2, h2, l2⟩ := trod_field (i := 2) Try.underlying48 rfl rfl (by kernel_rfl) h rfl hl
  obtain ⟨fn, e0, -, w0⟩ := DataW.trod_string Try.underlying9 h0
  obtain ⟨a1, e1, -, w1⟩ := DataW.trod_int Try.underlying3 h1
  simp only [List.cons.injEq, and_true] at e0 e1
  subst e0 e1
  obtain ⟨bs, hR, hbl, -⟩ := open_rd (n := 1) (fun cs x => cs = encB x ∧ True) 0 Try.underlying22 (by kernel_rfl) (by decide) (fun fuel cs y hy hyl hyn => dec_B fuel cs y hy) h2 l2
  obtain ⟨hrd, -⟩ := hR.rd
  exact ⟨fn, a1, c2, bs, rfl, hrd, w0, hbl⟩
end
end L12
end Go.Proofs.Yteheegkdcphapaa
