/- Layer 7: what the seat's program has laid out; how an instruction of the input reads. -/
import Derived.LaidLaws
import Derived.Test.YtbpmokffhmiacaaGreatDoorLaid
import Derived.Test.YtbpmokffhmiacaaGreatDoorAsmQ
namespace Go.Proofs.YtbpmokffhmiacaaGreatDoor
open Go.RowKit Go.Shelf Go.Sort Go.ChangeShapes Go.WideShapes Go.ChangeAt V
attribute [local go_sem] Oper.semAt_some
theorem Tryz.own : ownKnob Tryz.prog.godebug = none := by kernel_rfl
theorem Tryz.laidOut : laidOutB Tryz.prog = true := by kernel_rfl
namespace L07
theorem gPow : Tryz.prog.globalNamed "internal/strconv.uint64pow10" = some 3 := by kernel_rfl
theorem tPow : (Tryz.prog.globals[3]?).map (·.type) = some 129 := by kernel_rfl
theorem pow_eq : (Rows.laid_internal_strconv_uint64pow10 : DataW Unit) = Lib.tabData .u64 Lib.pow10Tab := by kernel_rfl
theorem wf_u8 {x : Int} (h : (Lit.int .u8 x).wf = true) : ∃ n : Nat, x = (n : Int) ∧ n < 256 := by
  simp [Lit.wf, IntKind.min, IntKind.max, IntKind.signed, IntKind.bits] at h
  exact ⟨x.toNat, by omega, by omega⟩
theorem wf_u16 {x : Int} (h : (Lit.int .u16 x).wf = true) : ∃ n : Nat, x = (n : Int) ∧ n < 65536 := by
  simp [Lit.wf, IntKind.min, IntKind.max, IntKind.signed, IntKind.bits] at h
  exact ⟨x.toNat, by omega, by omega⟩
section
variable {H : Type} {enc : TypeId × Value → H} {W : World}
theorem dec_N (fuel : Nat) (cs : List Value) (y : DataW H × List MemPlace) (h : DataW.trod enc Tryz.prog W 0 (fun _ => true) true fuel 34 cs = some y) (hl : Light Tryz.prog 34 y.1) (hn : cs.length = 4) :
    ∃ x : In, cs = encN x ∧ OkN x := by
  match cs, hn with
  | [c0, c1, c2, c3], _ =>
  obtain ⟨n0, y0, h0, -⟩ := trod_field (i := 0) Tryz.underlying34 rfl rfl (by kernel_rfl) h rfl hl
  obtain ⟨n1, y1, h1, -⟩ := trod_field (i := 1) Tryz.underlying34 rfl rfl (by kernel_rfl) h rfl hl
  obtain ⟨n2, y2, h2, -⟩ := trod_field (i := 2) Tryz.underlying34 rfl rfl (by kernel_rfl) h rfl hl
  obtain ⟨n3, y3, h3, -⟩ := trod_field (i := 3) Tryz.underlying34 rfl rfl (by kernel_rfl) h rfl hl
  obtain ⟨a0, e0, -, w0⟩ := DataW.trod_int Tryz.underlying31 h0
  obtain ⟨a1, e1, -, w1⟩ := DataW.trod_int Tryz.underlying5 h1
  obtain ⟨a2, e2, -, w2⟩ := DataW.trod_int Tryz.underlying5 h2
  obtain ⟨a3, e3, -, w3⟩ := DataW.trod_int Tryz.underlying32 h3
  simp only [List.cons.injEq, and_true] at e0 e1 e2 e3
  subst e0 e1 e2 e3
  obtain ⟨a0, rfl, b0⟩ := wf_u16 w0
  obtain ⟨a1, rfl, b1⟩ := wf_u8 w1
  obtain ⟨a2, rfl, b2⟩ := wf_u8 w2
  obtain ⟨a3, rfl, b3⟩ := wf_u32 w3
  exact ⟨⟨a0, a1, a2, a3⟩, rfl, ⟨b0, b1, b2, b3⟩⟩
set_option maxRecDepth 100000 in
theorem dec_In {base : Nat} {v : Value} {d : DataW H} {p : List MemPlace} (hv : Value.okWide Tryz.prog W .any base 34 v) (h : DataW.Trod enc Tryz.prog W 0 (fun _ => true) true 34 v d p) (hl : Light Tryz.prog 34 d) :
    ∃ x : In, v = inV x ∧ OkN x := by
  obtain ⟨cs, rfl, hsz⟩ := okWide_struct Tryz.underlying34 hv
  rw [show Tryz.prog.cellsOf 34 = 4 by kernel_rfl] at hsz
  obtain ⟨fuel, h⟩ := h
  simp only [Value.cells] at h
  obtain ⟨l⟩ := cs
  simp only [List.size_toArray] at hsz h
  obtain ⟨x, hx, hN⟩ := dec_N fuel l _ h hl hsz
  exact ⟨x, by rw [hx]; rfl, hN⟩
end
end L07
end Go.Proofs.YtbpmokffhmiacaaGreatDoor
