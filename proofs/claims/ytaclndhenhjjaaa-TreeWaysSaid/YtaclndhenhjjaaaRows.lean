/-
  No cell of these rows narrows 'for every input' (looked for: loops, veiled, ifaces, maps, wideKeys, modest, calm, conditions, laid).
  DERIVED. THE GIVEN ROWS OF THIS SEAT. 10 by the template 'for every input the law returns true; each argument reads behind the call as it read before'; 0 by the template 'total and deterministic' (their statements: YtaclndhenhjjaaaTotals.lean).
  GIVEN WITH THE SEED: the statements are not yours to turn. If you find one false, say at which input.
  Laid BY PROGRAM, IN A SANDBOX (cutbox-rows.mjs): the forced cells as the released guide's own fill.sh prints them over the translation 5e229d265dd08caa… (all of the seat's roots in one cut). By AI agents, Wed Nov 11 2026. No macro, syntax, notation, axiom, sorry.
-/
import Derived.Test.YtaclndhenhjjaaaChecked
import GoSem.Claim
import GoSem.ClaimJoined
import GoSem.ClaimMapViews
import Derived.JoinedTies
import Derived.KernelRfl
namespace Go.Proofs.Ytaclndhenhjjaaa
/- THE CELL 'sum', in the pinned program and in every row, IS THE sha256 OF THE DUMP (.gsa) THAT YtaclndhenhjjaaaProg.lean LOADS. Nothing in Lean hashes anything: it is a label: what it is worth is what the hold of that sum in a sandbox is worth. -/
noncomputable def Try.pinned : Pinned := { name := "ytaclndhenhjjaaa", sum := "5e229d265dd08caa456c0430b6981e01c7c41713313d56f00bf09fcec24a0af9", checked := Try.checked }
namespace Rows
def none {H : Type} : Left H := { results := [], args := [] }

/-- 'vestibulelaw23.SpanOf': WHATEVER THE INPUT: true; the input reads as it did. -/
def spanOfSpec : ChangeSpec := { name := "spanOf", fn := fun _ => fun
  | [d1, d2, d3] => { results := [.lit (.bool true)], args := [d1, d2, d3] }
  | _ => none }
def spanOfRow : OpenClaim := { program := "ytaclndhenhjjaaa", sum := "5e229d265dd08caa456c0430b6981e01c7c41713313d56f00bf09fcec24a0af9", func := "vestibule/vestibulelaw23.SpanOf", spec := "spanOf", unfollowed := true, recurses := true, apart := false }
def SpanOfSaid : Prop := spanOfRow.holds Try.pinned (OpenSpec.ofChange spanOfSpec)

/-- ITS FALSE NEIGHBOUR: 'it returns false'. Refute it at one input. -/
def spanOfWrong : ChangeSpec := { name := "spanOf", fn := fun _ => fun
  | [d1, d2, d3] => { results := [.lit (.bool false)], args := [d1, d2, d3] }
  | _ => none }
def SpanOfWrongFalsely : Prop := spanOfRow.holds Try.pinned (OpenSpec.ofChange spanOfWrong)

/-- 'vestibulelaw23.SpanAsks': WHATEVER THE INPUT: true; the input reads as it did. -/
def spanAsksSpec : ChangeSpec := { name := "spanAsks", fn := fun _ => fun
  | [d1, d2] => { results := [.lit (.bool true)], args := [d1, d2] }
  | _ => none }
def spanAsksRow : OpenClaim := { program := "ytaclndhenhjjaaa", sum := "5e229d265dd08caa456c0430b6981e01c7c41713313d56f00bf09fcec24a0af9", func := "vestibule/vestibulelaw23.SpanAsks", spec := "spanAsks", unfollowed := true, recurses := true, apart := false }
def SpanAsksSaid : Prop := spanAsksRow.holds Try.pinned (OpenSpec.ofChange spanAsksSpec)

/-- ITS FALSE NEIGHBOUR: 'it returns false'. Refute it at one input. -/
def spanAsksWrong : ChangeSpec := { name := "spanAsks", fn := fun _ => fun
  | [d1, d2] => { results := [.lit (.bool false)], args := [d1, d2] }
  | _ => none }
def SpanAsksWrongFalsely : Prop := spanAsksRow.holds Try.pinned (OpenSpec.ofChange spanAsksWrong)

/-- 'vestibulelaw23.SpanWays': WHATEVER THE INPUT: true; the input reads as it did. -/
def spanWaysSpec : ChangeSpec := { name := "spanWays", fn := fun _ => fun
  | [d1, d2, d3, d4] => { results := [.lit (.bool true)], args := [d1, d2, d3, d4] }
  | _ => none }
def spanWaysRow : OpenClaim := { program := "ytaclndhenhjjaaa", sum := "5e229d265dd08caa456c0430b6981e01c7c41713313d56f00bf09fcec24a0af9", func := "vestibule/vestibulelaw23.SpanWays", spec := "spanWays", unfollowed := true, recurses := true, apart := false }
def SpanWaysSaid : Prop := spanWaysRow.holds Try.pinned (OpenSpec.ofChange spanWaysSpec)

/-- ITS FALSE NEIGHBOUR: 'it returns false'. Refute it at one input. -/
def spanWaysWrong : ChangeSpec := { name := "spanWays", fn := fun _ => fun
  | [d1, d2, d3, d4] => { results := [.lit (.bool false)], args := [d1, d2, d3, d4] }
  | _ => none }
def SpanWaysWrongFalsely : Prop := spanWaysRow.holds Try.pinned (OpenSpec.ofChange spanWaysWrong)

/-- 'vestibulelaw23.SpanOnce': WHATEVER THE INPUT: true; the input reads as it did. -/
def spanOnceSpec : ChangeSpec := { name := "spanOnce", fn := fun _ => fun
  | [d1, d2, d3] => { results := [.lit (.bool true)], args := [d1, d2, d3] }
  | _ => none }
def spanOnceRow : OpenClaim := { program := "ytaclndhenhjjaaa", sum := "5e229d265dd08caa456c0430b6981e01c7c41713313d56f00bf09fcec24a0af9", func := "vestibule/vestibulelaw23.SpanOnce", spec := "spanOnce", unfollowed := true, recurses := true, apart := false }
def SpanOnceSaid : Prop := spanOnceRow.holds Try.pinned (OpenSpec.ofChange spanOnceSpec)

/-- ITS FALSE NEIGHBOUR: 'it returns false'. Refute it at one input. -/
def spanOnceWrong : ChangeSpec := { name := "spanOnce", fn := fun _ => fun
  | [d1, d2, d3] => { results := [.lit (.bool false)], args := [d1, d2, d3] }
  | _ => none }
def SpanOnceWrongFalsely : Prop := spanOnceRow.holds Try.pinned (OpenSpec.ofChange spanOnceWrong)

/-- 'vestibulelaw23.SpanMerges': WHATEVER THE INPUT: true; the input reads as it did. -/
def spanMergesSpec : ChangeSpec := { name := "spanMerges", fn := fun _ => fun
  | [d1, d2] => { results := [.lit (.bool true)], args := [d1, d2] }
  | _ => none }
def spanMergesRow : OpenClaim := { program := "ytaclndhenhjjaaa", sum := "5e229d265dd08caa456c0430b6981e01c7c41713313d56f00bf09fcec24a0af9", func := "vestibule/vestibulelaw23.SpanMerges", spec := "spanMerges", unfollowed := true, recurses := true, apart := false }
def SpanMergesSaid : Prop := spanMergesRow.holds Try.pinned (OpenSpec.ofChange spanMergesSpec)

/-- ITS FALSE NEIGHBOUR: 'it returns false'. Refute it at one input. -/
def spanMergesWrong : ChangeSpec := { name := "spanMerges", fn := fun _ => fun
  | [d1, d2] => { results := [.lit (.bool false)], args := [d1, d2] }
  | _ => none }
def SpanMergesWrongFalsely : Prop := spanMergesRow.holds Try.pinned (OpenSpec.ofChange spanMergesWrong)

/-- 'vestibulelaw24.TreeBuild': WHATEVER THE INPUT: true; the input reads as it did. -/
def treeBuildSpec : ChangeSpec := { name := "treeBuild", fn := fun _ => fun
  | [d] => { results := [.lit (.bool true)], args := [d] }
  | _ => none }
def treeBuildRow : OpenClaim := { program := "ytaclndhenhjjaaa", sum := "5e229d265dd08caa456c0430b6981e01c7c41713313d56f00bf09fcec24a0af9", func := "vestibule/vestibulelaw24.TreeBuild", spec := "treeBuild", unfollowed := true, recurses := true, apart := false }
def TreeBuildSaid : Prop := treeBuildRow.holds Try.pinned (OpenSpec.ofChange treeBuildSpec)

/-- ITS FALSE NEIGHBOUR: 'it returns false'. Refute it at one input. -/
def treeBuildWrong : ChangeSpec := { name := "treeBuild", fn := fun _ => fun
  | [d] => { results := [.lit (.bool false)], args := [d] }
  | _ => none }
def TreeBuildWrongFalsely : Prop := treeBuildRow.holds Try.pinned (OpenSpec.ofChange treeBuildWrong)

/-- 'vestibulelaw24.TreeFind': WHATEVER THE INPUT: true; the input reads as it did. -/
def treeFindSpec : ChangeSpec := { name := "treeFind", fn := fun _ => fun
  | [d1, d2] => { results := [.lit (.bool true)], args := [d1, d2] }
  | _ => none }
def treeFindRow : OpenClaim := { program := "ytaclndhenhjjaaa", sum := "5e229d265dd08caa456c0430b6981e01c7c41713313d56f00bf09fcec24a0af9", func := "vestibule/vestibulelaw24.TreeFind", spec := "treeFind", apart := false }
def TreeFindSaid : Prop := treeFindRow.holds Try.pinned (OpenSpec.ofChange treeFindSpec)

/-- ITS FALSE NEIGHBOUR: 'it returns false'. Refute it at one input. -/
def treeFindWrong : ChangeSpec := { name := "treeFind", fn := fun _ => fun
  | [d1, d2] => { results := [.lit (.bool false)], args := [d1, d2] }
  | _ => none }
def TreeFindWrongFalsely : Prop := treeFindRow.holds Try.pinned (OpenSpec.ofChange treeFindWrong)

/-- 'vestibulelaw24.TreeLeaves': WHATEVER THE INPUT: true; the input reads as it did. -/
def treeLeavesSpec : ChangeSpec := { name := "treeLeaves", fn := fun _ => fun
  | [d] => { results := [.lit (.bool true)], args := [d] }
  | _ => none }
def treeLeavesRow : OpenClaim := { program := "ytaclndhenhjjaaa", sum := "5e229d265dd08caa456c0430b6981e01c7c41713313d56f00bf09fcec24a0af9", func := "vestibule/vestibulelaw24.TreeLeaves", spec := "treeLeaves", unfollowed := true, recurses := true, apart := false }
def TreeLeavesSaid : Prop := treeLeavesRow.holds Try.pinned (OpenSpec.ofChange treeLeavesSpec)

/-- ITS FALSE NEIGHBOUR: 'it returns false'. Refute it at one input. -/
def treeLeavesWrong : ChangeSpec := { name := "treeLeaves", fn := fun _ => fun
  | [d] => { results := [.lit (.bool false)], args := [d] }
  | _ => none }
def TreeLeavesWrongFalsely : Prop := treeLeavesRow.holds Try.pinned (OpenSpec.ofChange treeLeavesWrong)

/-- 'vestibulelaw24.TreeEdges': WHATEVER THE INPUT: true; the input reads as it did. -/
def treeEdgesSpec : ChangeSpec := { name := "treeEdges", fn := fun _ => fun
  | [d1, d2] => { results := [.lit (.bool true)], args := [d1, d2] }
  | _ => none }
def treeEdgesRow : OpenClaim := { program := "ytaclndhenhjjaaa", sum := "5e229d265dd08caa456c0430b6981e01c7c41713313d56f00bf09fcec24a0af9", func := "vestibule/vestibulelaw24.TreeEdges", spec := "treeEdges", unfollowed := true, recurses := true, apart := false }
def TreeEdgesSaid : Prop := treeEdgesRow.holds Try.pinned (OpenSpec.ofChange treeEdgesSpec)

/-- ITS FALSE NEIGHBOUR: 'it returns false'. Refute it at one input. -/
def treeEdgesWrong : ChangeSpec := { name := "treeEdges", fn := fun _ => fun
  | [d1, d2] => { results := [.lit (.bool false)], args := [d1, d2] }
  | _ => none }
def TreeEdgesWrongFalsely : Prop := treeEdgesRow.holds Try.pinned (OpenSpec.ofChange treeEdgesWrong)

/-- 'vestibulelaw24.TreeWays': WHATEVER THE INPUT: true; the input reads as it did. -/
def treeWaysSpec : ChangeSpec := { name := "treeWays", fn := fun _ => fun
  | [d1, d2] => { results := [.lit (.bool true)], args := [d1, d2] }
  | _ => none }
def treeWaysRow : OpenClaim := { program := "ytaclndhenhjjaaa", sum := "5e229d265dd08caa456c0430b6981e01c7c41713313d56f00bf09fcec24a0af9", func := "vestibule/vestibulelaw24.TreeWays", spec := "treeWays", unfollowed := true, recurses := true, apart := false }
def TreeWaysSaid : Prop := treeWaysRow.holds Try.pinned (OpenSpec.ofChange treeWaysSpec)

/-- ITS FALSE NEIGHBOUR: 'it returns false'. Refute it at one input. -/
def treeWaysWrong : ChangeSpec := { name := "treeWays", fn := fun _ => fun
  | [d1, d2] => { results := [.lit (.bool false)], args := [d1, d2] }
  | _ => none }
def TreeWaysWrongFalsely : Prop := treeWaysRow.holds Try.pinned (OpenSpec.ofChange treeWaysWrong)

/- THE SECOND FORM. 'bulk': how many values and letters a reading holds, each counted each time it is reached (what is shared counts as often as it is met; a slice's spare places count too). A statement '..UptoSaid' is the law's where the arguments, and the package variables that the reading takes, are together of bulk at most 1048576: NARROWER than '..Said'. Prove '..Said' where nothing that the law and all that it calls make is longer than what came in: it says more and counts as full. Else prove '..UptoSaid'. A law counts once. -/
mutual
def uptoBulk {H : Type} : DataW H → Nat
  | .lit (.string bytes) => bytes.length + 1
  | .lit _ => 1
  | .nil => 1
  | .ptr d => uptoBulk d + 1
  | .slice elems spare => uptoBulkAll elems + uptoBulkAll spare + 1
  | .agg parts => uptoBulkAll parts + 1
  | .iface _ d => uptoBulk d + 1
  | .map entries => uptoBulkEntries entries + 1
  | .held _ => 1
def uptoBulkAll {H : Type} : List (DataW H) → Nat
  | [] => 0
  | d :: r => uptoBulk d + uptoBulkAll r
def uptoBulkEntries {H : Type} : List (Lit × DataW H) → Nat
  | [] => 0
  | x :: r => uptoBulkEntry x + uptoBulkEntries r
def uptoBulkEntry {H : Type} : Lit × DataW H → Nat
  | (.string bytes, d) => bytes.length + uptoBulk d + 1
  | (_, d) => uptoBulk d + 1
 end
def uptoSmall : (H : Type) → List (DataW H) → Bool := fun _ ds => decide (uptoBulkAll ds ≤ 1048576)
def OpenSpec.upto (s : _root_.Go.ChangeSpec) : _root_.Go.OpenSpec := { _root_.Go.OpenSpec.ofChange s with cond := some uptoSmall }

/-- 'vestibulelaw23.SpanOf', WHERE WHAT IT READS IS OF BULK AT MOST 1048576: true; the input reads as it did. -/
def spanOfUptoRow : OpenClaim := { program := "ytaclndhenhjjaaa", sum := "5e229d265dd08caa456c0430b6981e01c7c41713313d56f00bf09fcec24a0af9", func := "vestibule/vestibulelaw23.SpanOf", spec := "spanOf", unfollowed := true, recurses := true, apart := false, narrowed := true }
def SpanOfUptoSaid : Prop := spanOfUptoRow.holds Try.pinned (OpenSpec.upto spanOfSpec)

/-- 'vestibulelaw23.SpanAsks', WHERE WHAT IT READS IS OF BULK AT MOST 1048576: true; the input reads as it did. -/
def spanAsksUptoRow : OpenClaim := { program := "ytaclndhenhjjaaa", sum := "5e229d265dd08caa456c0430b6981e01c7c41713313d56f00bf09fcec24a0af9", func := "vestibule/vestibulelaw23.SpanAsks", spec := "spanAsks", unfollowed := true, recurses := true, apart := false, narrowed := true }
def SpanAsksUptoSaid : Prop := spanAsksUptoRow.holds Try.pinned (OpenSpec.upto spanAsksSpec)

/-- 'vestibulelaw23.SpanWays', WHERE WHAT IT READS IS OF BULK AT MOST 1048576: true; the input reads as it did. -/
def spanWaysUptoRow : OpenClaim := { program := "ytaclndhenhjjaaa", sum := "5e229d265dd08caa456c0430b6981e01c7c41713313d56f00bf09fcec24a0af9", func := "vestibule/vestibulelaw23.SpanWays", spec := "spanWays", unfollowed := true, recurses := true, apart := false, narrowed := true }
def SpanWaysUptoSaid : Prop := spanWaysUptoRow.holds Try.pinned (OpenSpec.upto spanWaysSpec)

/-- 'vestibulelaw23.SpanOnce', WHERE WHAT IT READS IS OF BULK AT MOST 1048576: true; the input reads as it did. -/
def spanOnceUptoRow : OpenClaim := { program := "ytaclndhenhjjaaa", sum := "5e229d265dd08caa456c0430b6981e01c7c41713313d56f00bf09fcec24a0af9", func := "vestibule/vestibulelaw23.SpanOnce", spec := "spanOnce", unfollowed := true, recurses := true, apart := false, narrowed := true }
def SpanOnceUptoSaid : Prop := spanOnceUptoRow.holds Try.pinned (OpenSpec.upto spanOnceSpec)

/-- 'vestibulelaw23.SpanMerges', WHERE WHAT IT READS IS OF BULK AT MOST 1048576: true; the input reads as it did. -/
def spanMergesUptoRow : OpenClaim := { program := "ytaclndhenhjjaaa", sum := "5e229d265dd08caa456c0430b6981e01c7c41713313d56f00bf09fcec24a0af9", func := "vestibule/vestibulelaw23.SpanMerges", spec := "spanMerges", unfollowed := true, recurses := true, apart := false, narrowed := true }
def SpanMergesUptoSaid : Prop := spanMergesUptoRow.holds Try.pinned (OpenSpec.upto spanMergesSpec)

/-- 'vestibulelaw24.TreeBuild', WHERE WHAT IT READS IS OF BULK AT MOST 1048576: true; the input reads as it did. -/
def treeBuildUptoRow : OpenClaim := { program := "ytaclndhenhjjaaa", sum := "5e229d265dd08caa456c0430b6981e01c7c41713313d56f00bf09fcec24a0af9", func := "vestibule/vestibulelaw24.TreeBuild", spec := "treeBuild", unfollowed := true, recurses := true, apart := false, narrowed := true }
def TreeBuildUptoSaid : Prop := treeBuildUptoRow.holds Try.pinned (OpenSpec.upto treeBuildSpec)

/-- 'vestibulelaw24.TreeFind', WHERE WHAT IT READS IS OF BULK AT MOST 1048576: true; the input reads as it did. -/
def treeFindUptoRow : OpenClaim := { program := "ytaclndhenhjjaaa", sum := "5e229d265dd08caa456c0430b6981e01c7c41713313d56f00bf09fcec24a0af9", func := "vestibule/vestibulelaw24.TreeFind", spec := "treeFind", apart := false, narrowed := true }
def TreeFindUptoSaid : Prop := treeFindUptoRow.holds Try.pinned (OpenSpec.upto treeFindSpec)

/-- 'vestibulelaw24.TreeLeaves', WHERE WHAT IT READS IS OF BULK AT MOST 1048576: true; the input reads as it did. -/
def treeLeavesUptoRow : OpenClaim := { program := "ytaclndhenhjjaaa", sum := "5e229d265dd08caa456c0430b6981e01c7c41713313d56f00bf09fcec24a0af9", func := "vestibule/vestibulelaw24.TreeLeaves", spec := "treeLeaves", unfollowed := true, recurses := true, apart := false, narrowed := true }
def TreeLeavesUptoSaid : Prop := treeLeavesUptoRow.holds Try.pinned (OpenSpec.upto treeLeavesSpec)

/-- 'vestibulelaw24.TreeEdges', WHERE WHAT IT READS IS OF BULK AT MOST 1048576: true; the input reads as it did. -/
def treeEdgesUptoRow : OpenClaim := { program := "ytaclndhenhjjaaa", sum := "5e229d265dd08caa456c0430b6981e01c7c41713313d56f00bf09fcec24a0af9", func := "vestibule/vestibulelaw24.TreeEdges", spec := "treeEdges", unfollowed := true, recurses := true, apart := false, narrowed := true }
def TreeEdgesUptoSaid : Prop := treeEdgesUptoRow.holds Try.pinned (OpenSpec.upto treeEdgesSpec)

/-- 'vestibulelaw24.TreeWays', WHERE WHAT IT READS IS OF BULK AT MOST 1048576: true; the input reads as it did. -/
def treeWaysUptoRow : OpenClaim := { program := "ytaclndhenhjjaaa", sum := "5e229d265dd08caa456c0430b6981e01c7c41713313d56f00bf09fcec24a0af9", func := "vestibule/vestibulelaw24.TreeWays", spec := "treeWays", unfollowed := true, recurses := true, apart := false, narrowed := true }
def TreeWaysUptoSaid : Prop := treeWaysUptoRow.holds Try.pinned (OpenSpec.upto treeWaysSpec)

end Rows
end Go.Proofs.Ytaclndhenhjjaaa
