/- What the seat's program has laid out; the tables and errors that its cards list; how a number of the input reads. -/
import Derived.LaidLaws
import Derived.Test.YtjgglocabjpmeaaDoorActU
import Derived.Test.YtjgglocabjpmeaaDoorLaid
namespace Go.Proofs.YtjgglocabjpmeaaDoor
open Go.RowKit Go.ChangeShapes Go.WideShapes Go.ChangeAt V
theorem Tryd.own : ownKnob Tryd.prog.godebug = none := by kernel_rfl
theorem Tryd.laidOut : laidOutB Tryd.prog = true := by kernel_rfl
namespace L20
def laidL : List (String × DataW Unit) := [("math/bits.deBruijn32tab", Rows.laid_math_bits_deBruijn32tab), ("math/bits.deBruijn64tab", Rows.laid_math_bits_deBruijn64tab), ("internal/strconv.uint64pow10", Rows.laid_internal_strconv_uint64pow10), ("strconv.ErrRange", Rows.laid_strconv_ErrRange), ("strconv.ErrSyntax", Rows.laid_strconv_ErrSyntax)]
theorem door_met (os : Os) (args : Array Value) : laidMetH Tryd.prog laidL ((World.doorLaid Tryd.prog 62 os).forCall (fun _ _ => 0) ⟨#[], args, []⟩).memory :=
  laidMetH_of_parts3 (fuel := 8) (laidMet_of_run' 8 (by kernel_rfl) (by kernel_rfl)) (by kernel_rfl) (by kernel_rfl)
theorem gPow : Tryd.prog.globalNamed "internal/strconv.uint64pow10" = some 3 := by kernel_rfl
theorem tPow : (Tryd.prog.globals[3]?).map (·.type) = some 80 := by kernel_rfl
theorem pow_eq : (Rows.laid_internal_strconv_uint64pow10 : DataW Unit) = Lib.tabData .u64 Lib.pow10Tab := by kernel_rfl
theorem gES : Tryd.prog.globalNamed "strconv.ErrSyntax" = some 1 := by kernel_rfl
theorem tES : (Tryd.prog.globals[1]?).map (·.type) = some 49 := by kernel_rfl
theorem gER : Tryd.prog.globalNamed "strconv.ErrRange" = some 2 := by kernel_rfl
theorem tER : (Tryd.prog.globals[2]?).map (·.type) = some 49 := by kernel_rfl
theorem star : "*" ++ "errors.errorString" = "*errors.errorString" := by decide
theorem rowE (u : TypeId) (h : Tryd.prog.typeName? 3 u = some "*errors.errorString") : u = 87 :=
  typeName_ptr_named (nm := "errors.errorString") (by rw [star]; kernel_rfl) (by kernel_rfl) (by decide) u (by rw [star]; exact h)
theorem cellsE : Tryd.prog.cellsOf 89 = 1 := by kernel_rfl
theorem cellsS : Tryd.prog.cellsOf 9 = 1 := by kernel_rfl
theorem tab_of {W : World} (h : laidMetH Tryd.prog laidL W) : Tab W := by
  rw [MakeChecks.laidMetH_plain _ _ _ (by kernel_rfl)] at h
  unfold laidL at h
  have h2 := h.tail.tail
  have h3 := h2.tail
  have h4 := h3.tail
  rw [pow_eq] at h2
  refine ⟨Lib.tabIs_of_head gPow tPow Tryd.underlying80 Tryd.underlying47 (by kernel_rfl) (by kernel_rfl) h2, ?_, ?_⟩
  · obtain ⟨a0, s0, hv0, -, -, -⟩ := laid_sentinel h4 gES tES Tryd.underlying49 rowE Tryd.underlying87 Tryd.underlying89 rfl rfl Tryd.underlying9 cellsE cellsS
    exact ⟨_, _, hv0⟩
  · obtain ⟨a0, s0, hv0, -, -, -⟩ := laid_sentinel h3 gER tER Tryd.underlying49 rowE Tryd.underlying87 Tryd.underlying89 rfl rfl Tryd.underlying9 cellsE cellsS
    exact ⟨_, _, hv0⟩
def okU (x : Nat) : Prop := x < 4294967296
theorem dec_U {H : Type} {enc : TypeId × Value → H} {W : World} (fuel : Nat) (cs : List Value) (y : DataW H × List MemPlace) (h : DataW.trod enc Tryd.prog W 0 (fun _ => true) true fuel 22 cs = some y) :
    ∃ n : Nat, cs = encU n ∧ okU n := by
  obtain ⟨a, e0, _, wa⟩ := DataW.trod_int Tryd.underlying22 h
  obtain ⟨n, rfl, hn⟩ := wf_u32 wa
  exact ⟨n, e0, hn⟩
end L20
end Go.Proofs.YtjgglocabjpmeaaDoor
