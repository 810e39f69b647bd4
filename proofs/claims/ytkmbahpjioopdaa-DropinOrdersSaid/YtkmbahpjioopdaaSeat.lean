/- What the seat's program has laid out. -/
import Derived.Test.YtkmbahpjioopdaaLift
namespace Go.Proofs.Ytkmbahpjioopdaa
open Go.RowKit Go.ChangeShapes Go.WideShapes Go.ChangeAt V
theorem Try.own : ownKnob Try.prog.godebug = none := by kernel_rfl
theorem Try.laidOut : laidOutB Try.prog = true := by kernel_rfl
end Go.Proofs.Ytkmbahpjioopdaa
