/- What the seat's program has laid out; the tables that its cards list. -/
import Derived.Test.YtojlpocpcakcbaaDoorNameF
import Derived.Test.YtojlpocpcakcbaaDoorLaid
namespace Go.Proofs.YtojlpocpcakcbaaDoor
open Go.RowKit Go.ChangeShapes Go.WideShapes Go.ChangeAt V
theorem Tryd.own : ownKnob Tryd.prog.godebug = none := by kernel_rfl
theorem Tryd.laidOut : laidOutB Tryd.prog = true := by kernel_rfl
namespace L10
def laidL : List (String × DataW Unit) := [("math/bits.deBruijn32tab", Rows.laid_math_bits_deBruijn32tab), ("math/bits.deBruijn64tab", Rows.laid_math_bits_deBruijn64tab), ("internal/strconv.uint64pow10", Rows.laid_internal_strconv_uint64pow10)]
theorem door_met (os : Os) (args : Array Value) : laidMetH Tryd.prog laidL ((World.doorLaid Tryd.prog 24 os).forCall (fun _ _ => 0) ⟨#[], args, []⟩).memory :=
  laidMetH_of_parts3 (fuel := 8) (laidMet_of_run' 8 (by kernel_rfl) (by kernel_rfl)) (by kernel_rfl) (by kernel_rfl)
theorem gPow : Tryd.prog.globalNamed "internal/strconv.uint64pow10" = some 1 := by kernel_rfl
theorem tPow : (Tryd.prog.globals[1]?).map (·.type) = some 109 := by kernel_rfl
theorem pow_eq : (Rows.laid_internal_strconv_uint64pow10 : DataW Unit) = Lib.tabData .u64 Lib.pow10Tab := by kernel_rfl
theorem tab_of {W : World} (h : laidMetH Tryd.prog laidL W) : Tab W := by
  rw [MakeChecks.laidMetH_plain _ _ _ (by kernel_rfl)] at h
  unfold laidL at h
  have h2 := h.tail.tail
  rw [pow_eq] at h2
  exact Lib.tabIs_of_head gPow tPow Tryd.underlying109 Tryd.underlying26 (by kernel_rfl) (by kernel_rfl) h2
end L10
end Go.Proofs.YtojlpocpcakcbaaDoor
