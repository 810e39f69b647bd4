/- Layer 8: what the seat's program has laid out; how a number of the given input reads. -/
import Derived.Test.YtimpokibippenaaArchD
import Derived.Test.YtimpokibippenaaLift
namespace Go.Proofs.Ytimpokibippenaa
open Go.RowKit Go.ChangeShapes Go.WideShapes Go.ChangeAt V
theorem Try.own : ownKnob Try.prog.godebug = none := by kernel_rfl
theorem Try.laidOut : laidOutB Try.prog = true := by kernel_rfl
namespace L08
def OkI (i : Int) : Prop := -9223372036854775808 ≤ i ∧ i ≤ 9223372036854775807
theorem dec_I {H : Type} {enc : TypeId × Value → H} {W : World} (fuel : Nat) (cs : List Value) (y : DataW H × List MemPlace) (h : DataW.trod enc Try.prog W 0 (fun _ => true) true fuel 3 cs = some y) :
    ∃ n : Int, cs = encI n ∧ OkI n := by
  obtain ⟨a, e0, _, wa⟩ := DataW.trod_int Try.underlying3 h
  exact ⟨a, e0, wf_i64 wa⟩
end L08
end Go.Proofs.Ytimpokibippenaa
