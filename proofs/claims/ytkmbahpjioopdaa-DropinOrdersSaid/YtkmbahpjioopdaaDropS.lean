/- Layer 14: how the given files read. -/
import Derived.Test.YtkmbahpjioopdaaSeat
import Derived.Test.YtkmbahpjioopdaaDropB
namespace Go.Proofs.Ytkmbahpjioopdaa
open Go.RowKit Go.ChangeShapes Go.WideShapes Go.ChangeAt V
namespace L12
/-- a file of the given input -/
def GoodP (w : World) (p : PF) : Prop := Good w p ∧ p.nm.length ≤ maxLen ∧ p.bs.length ≤ maxLen
theorem wf_u8 {x : Int} (h : (Lit.int .u8 x).wf = true) : ∃ c : UInt8, x = (c.toNat : Int) := by
  simp [Lit.wf, IntKind.min, IntKind.max, IntKind.signed, IntKind.bits] at h
  refine ⟨UInt8.ofNat x.toNat, ?_⟩
  rw [UInt8.toNat_ofNat']
  omega
section
variable {H : Type} {enc : TypeId × Value → H} {W : World}
theorem dec_B (fuel : Nat) (cs : List Value) (y : DataW H × List MemPlace) (h : DataW.trod enc Try.prog W 0 (fun _ => true) true fuel 5 cs = some y) : ∃ n : UInt8, cs = encB n ∧ True := by
  obtain ⟨a, e0, _, wa⟩ := DataW.trod_int Try.underlying5 h
  obtain ⟨c, rfl⟩ := wf_u8 wa
  exact ⟨c, e0, trivial⟩
set_option maxRecDepth 100000 in
theorem dec_Fi (fuel : Nat) (cs : List Value) (y : DataW H × List MemPlace) (h : DataW.trod enc Try.prog W 0 (fun _ => true) true fuel 24 cs = some y) (hl : Light Try.prog 24 y.1) (hn : cs.length = 3) :
    ∃ p : PF, cs = encF p ∧ GoodP W p := by
  match cs, hn with
  | [c0, c1, c2], _ =>
  obtain ⟨n0, y0, h0, -⟩ := trod_field (i := 0) Try.underlying24 rfl rfl (by kernel_rfl) h rfl hl
  obtain ⟨n1, y1, h1, -⟩ := trod_field (i := 1) Try.underlying24 rfl rfl (by kernel_rfl) h rfl hl
  obtain ⟨n2, y2, h2, l2⟩ := trod_field (i := 2) Try.underlying24 rfl rfl (by kernel_rfl) h rfl hl
  obtain ⟨fn, e0, -, w0⟩ := DataW.trod_string Try.underlying9 h0
  obtain ⟨a1, e1, -, w1⟩ := DataW.trod_int Try.underlying3 h1
  simp only [List.cons.injEq, and_true] at e0 e1
  subst e0 e1
  obtain ⟨bs, hR, hbl, -⟩ := open_rd (n := 1) (fun cs x => cs = encB x ∧ True) 0 Try.underlying22 (by kernel_rfl) (by decide) (fun fuel cs y hy hyl hyn => dec_B fuel cs y hy) h2 l2
  obtain ⟨hrd, -⟩ := hR.rd
  obtain ⟨a, c, rfl, h3, h4⟩ := hrd
  refine ⟨⟨bytes fn, a1, bs, a, c⟩, ?_, ⟨a, c, rfl, h3, h4⟩, ?_, hbl⟩
  · unfold encF PF.v
    rw [str_bytes]
  · show (bytes fn).length ≤ maxLen
    rw [bytes_len]
    exact w0
set_option maxRecDepth 100000 in
theorem dec_Main {base : Nat} {v : Value} {d : DataW H} {p : List MemPlace} (hv : Value.okWide Try.prog W .any base 24 v) (h : DataW.Trod enc Try.prog W 0 (fun _ => true) true 24 v d p) (hl : Light Try.prog 24 d) :
    ∃ q : PF, v = fV q ∧ GoodP W q := by
  obtain ⟨cs, rfl, hsz⟩ := okWide_struct Try.underlying24 hv
  rw [show Try.prog.cellsOf 24 = 3 by kernel_rfl] at hsz
  obtain ⟨fuel, h⟩ := h
  simp only [Value.cells] at h
  obtain ⟨l⟩ := cs
  simp only [List.size_toArray] at hsz h
  obtain ⟨q, rfl, hq⟩ := dec_Fi fuel l (d, p) h hl hsz
  exact ⟨q, rfl, hq⟩
end
end L12
end Go.Proofs.Ytkmbahpjioopdaa
