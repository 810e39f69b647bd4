import Derived.ProofKit
import Derived.Test.YtopfefhenfineaaGreatRows
set_option linter.all false
set_option maxRecDepth 100000
set_option maxHeartbeats 16000000
namespace Go.Proofs.YtopfefhenfineaaGreat
open Go.Proofs.Tryz Go.ChangeShapes Go.WideShapes Go.ChangeAt Go.RowKit
theorem Tryz.own:ownKnob Tryz.prog.godebug=none:=by kernel_rfl
theorem Tryz.laidOut:laidOutB prog=true:=by kernel_rfl
namespace LT
theorem NH:joinedFacts Tryz.pinned.checked.prog 3 Tryz.f3 Rows.topClosedSpec Rows.topClosedRow=true:=by
 unfold joinedFacts;simp only[Bool.and_eq_true,and_assoc];refine⟨?_,?_,?_,?_,?_,?_,?_,?_,?_,?_,?_,?_,?_,?_,?_,?_,?_,?_,?_,?_,?_,?_,?_,?_,?_,?_,?_,?_,?_,?_,?_,?_⟩
 all_goals as_aux_lemma=>kernel_rfl
end LT
end Go.Proofs.YtopfefhenfineaaGreat
