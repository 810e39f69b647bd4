/-
  No cell of these rows narrows 'for every input' (looked for: loops, veiled, ifaces, maps, wideKeys, modest, calm, conditions, laid).
  DERIVED. THE GIVEN ROWS OF THIS SEAT. 12 by the template 'for every input the law returns true; each argument reads behind the call as it read before'; 0 by the template 'total and deterministic' (their statements: YtkmhfjnjfghnjaaTotals.lean).
  GIVEN WITH THE SEED: the statements are not yours to turn. If you find one false, say at which input.
  Laid BY PROGRAM, IN A SANDBOX (cutbox-rows.mjs): the forced cells as the released guide's own fill.sh prints them over the translation aa0d97d04981c793… (all of the seat's roots in one cut). By AI agents, Wed Nov 11 2026. No macro, syntax, notation, axiom, sorry.
-/
import Derived.Test.YtkmhfjnjfghnjaaChecked
import GoSem.Claim
import GoSem.ClaimJoined
import GoSem.ClaimMapViews
import Derived.JoinedTies
import Derived.KernelRfl
namespace Go.Proofs.Ytkmhfjnjfghnjaa
/- THE CELL 'sum', in the pinned program and in every row, IS THE sha256 OF THE DUMP (.gsa) THAT YtkmhfjnjfghnjaaProg.lean LOADS. Nothing in Lean hashes anything: it is a label: what it is worth is what the hold of that sum in a sandbox is worth. -/
noncomputable def Try.pinned : Pinned := { name := "ytkmhfjnjfghnjaa", sum := "aa0d97d04981c793798978491376e39f0f0b9e7590109f065288b21d7196dfc0", checked := Try.checked }
namespace Rows
def none {H : Type} : Left H := { results := [], args := [] }

/-- 'vestibulelaw21.IrSame': WHATEVER THE INPUT: true; the input reads as it did. -/
def irSameSpec : ChangeSpec := { name := "irSame", fn := fun _ => fun
  | [d1, d2] => { results := [.lit (.bool true)], args := [d1, d2] }
  | _ => none }
def irSameRow : OpenClaim := { program := "ytkmhfjnjfghnjaa", sum := "aa0d97d04981c793798978491376e39f0f0b9e7590109f065288b21d7196dfc0", func := "vestibule/vestibulelaw21.IrSame", spec := "irSame", unfollowed := true, recurses := true, apart := false }
def IrSameSaid : Prop := irSameRow.holds Try.pinned (OpenSpec.ofChange irSameSpec)

/-- ITS FALSE NEIGHBOUR: 'it returns false'. Refute it at one input. -/
def irSameWrong : ChangeSpec := { name := "irSame", fn := fun _ => fun
  | [d1, d2] => { results := [.lit (.bool false)], args := [d1, d2] }
  | _ => none }
def IrSameWrongFalsely : Prop := irSameRow.holds Try.pinned (OpenSpec.ofChange irSameWrong)

/-- 'vestibulelaw21.IrNormal': WHATEVER THE INPUT: true; the input reads as it did. -/
def irNormalSpec : ChangeSpec := { name := "irNormal", fn := fun _ => fun
  | [d] => { results := [.lit (.bool true)], args := [d] }
  | _ => none }
def irNormalRow : OpenClaim := { program := "ytkmhfjnjfghnjaa", sum := "aa0d97d04981c793798978491376e39f0f0b9e7590109f065288b21d7196dfc0", func := "vestibule/vestibulelaw21.IrNormal", spec := "irNormal", unfollowed := true, recurses := true, apart := false }
def IrNormalSaid : Prop := irNormalRow.holds Try.pinned (OpenSpec.ofChange irNormalSpec)

/-- ITS FALSE NEIGHBOUR: 'it returns false'. Refute it at one input. -/
def irNormalWrong : ChangeSpec := { name := "irNormal", fn := fun _ => fun
  | [d] => { results := [.lit (.bool false)], args := [d] }
  | _ => none }
def IrNormalWrongFalsely : Prop := irNormalRow.holds Try.pinned (OpenSpec.ofChange irNormalWrong)

/-- 'vestibulelaw21.IrDenotes': WHATEVER THE INPUT: true; the input reads as it did. -/
def irDenotesSpec : ChangeSpec := { name := "irDenotes", fn := fun _ => fun
  | [d1, d2, d3] => { results := [.lit (.bool true)], args := [d1, d2, d3] }
  | _ => none }
def irDenotesRow : OpenClaim := { program := "ytkmhfjnjfghnjaa", sum := "aa0d97d04981c793798978491376e39f0f0b9e7590109f065288b21d7196dfc0", func := "vestibule/vestibulelaw21.IrDenotes", spec := "irDenotes", unfollowed := true, recurses := true, apart := false }
def IrDenotesSaid : Prop := irDenotesRow.holds Try.pinned (OpenSpec.ofChange irDenotesSpec)

/-- ITS FALSE NEIGHBOUR: 'it returns false'. Refute it at one input. -/
def irDenotesWrong : ChangeSpec := { name := "irDenotes", fn := fun _ => fun
  | [d1, d2, d3] => { results := [.lit (.bool false)], args := [d1, d2, d3] }
  | _ => none }
def IrDenotesWrongFalsely : Prop := irDenotesRow.holds Try.pinned (OpenSpec.ofChange irDenotesWrong)

/-- 'vestibulelaw21.IrNormalSame': WHATEVER THE INPUT: true; the input reads as it did. -/
def irNormalSameSpec : ChangeSpec := { name := "irNormalSame", fn := fun _ => fun
  | [d1, d2, d3] => { results := [.lit (.bool true)], args := [d1, d2, d3] }
  | _ => none }
def irNormalSameRow : OpenClaim := { program := "ytkmhfjnjfghnjaa", sum := "aa0d97d04981c793798978491376e39f0f0b9e7590109f065288b21d7196dfc0", func := "vestibule/vestibulelaw21.IrNormalSame", spec := "irNormalSame", unfollowed := true, recurses := true, apart := false }
def IrNormalSameSaid : Prop := irNormalSameRow.holds Try.pinned (OpenSpec.ofChange irNormalSameSpec)

/-- ITS FALSE NEIGHBOUR: 'it returns false'. Refute it at one input. -/
def irNormalSameWrong : ChangeSpec := { name := "irNormalSame", fn := fun _ => fun
  | [d1, d2, d3] => { results := [.lit (.bool false)], args := [d1, d2, d3] }
  | _ => none }
def IrNormalSameWrongFalsely : Prop := irNormalSameRow.holds Try.pinned (OpenSpec.ofChange irNormalSameWrong)

/-- 'vestibulelaw21.IrOwn': WHATEVER THE INPUT: true; the input reads as it did. -/
def irOwnSpec : ChangeSpec := { name := "irOwn", fn := fun _ => fun
  | [d1, d2, d3, d4] => { results := [.lit (.bool true)], args := [d1, d2, d3, d4] }
  | _ => none }
def irOwnRow : OpenClaim := { program := "ytkmhfjnjfghnjaa", sum := "aa0d97d04981c793798978491376e39f0f0b9e7590109f065288b21d7196dfc0", func := "vestibule/vestibulelaw21.IrOwn", spec := "irOwn", unfollowed := true, recurses := true, apart := false }
def IrOwnSaid : Prop := irOwnRow.holds Try.pinned (OpenSpec.ofChange irOwnSpec)

/-- ITS FALSE NEIGHBOUR: 'it returns false'. Refute it at one input. -/
def irOwnWrong : ChangeSpec := { name := "irOwn", fn := fun _ => fun
  | [d1, d2, d3, d4] => { results := [.lit (.bool false)], args := [d1, d2, d3, d4] }
  | _ => none }
def IrOwnWrongFalsely : Prop := irOwnRow.holds Try.pinned (OpenSpec.ofChange irOwnWrong)

/-- 'vestibulelaw21.IrFirst': WHATEVER THE INPUT: true; the input reads as it did. -/
def irFirstSpec : ChangeSpec := { name := "irFirst", fn := fun _ => fun
  | [d1, d2, d3, d4] => { results := [.lit (.bool true)], args := [d1, d2, d3, d4] }
  | _ => none }
def irFirstRow : OpenClaim := { program := "ytkmhfjnjfghnjaa", sum := "aa0d97d04981c793798978491376e39f0f0b9e7590109f065288b21d7196dfc0", func := "vestibule/vestibulelaw21.IrFirst", spec := "irFirst", unfollowed := true, recurses := true, apart := false }
def IrFirstSaid : Prop := irFirstRow.holds Try.pinned (OpenSpec.ofChange irFirstSpec)

/-- ITS FALSE NEIGHBOUR: 'it returns false'. Refute it at one input. -/
def irFirstWrong : ChangeSpec := { name := "irFirst", fn := fun _ => fun
  | [d1, d2, d3, d4] => { results := [.lit (.bool false)], args := [d1, d2, d3, d4] }
  | _ => none }
def IrFirstWrongFalsely : Prop := irFirstRow.holds Try.pinned (OpenSpec.ofChange irFirstWrong)

/-- 'vestibulelaw25.CodeRuns': WHATEVER THE INPUT: true; the input reads as it did. -/
def codeRunsSpec : ChangeSpec := { name := "codeRuns", fn := fun _ => fun
  | [d1, d2] => { results := [.lit (.bool true)], args := [d1, d2] }
  | _ => none }
def codeRunsRow : OpenClaim := { program := "ytkmhfjnjfghnjaa", sum := "aa0d97d04981c793798978491376e39f0f0b9e7590109f065288b21d7196dfc0", func := "vestibule/vestibulelaw25.CodeRuns", spec := "codeRuns", unfollowed := true, recurses := true, apart := false }
def CodeRunsSaid : Prop := codeRunsRow.holds Try.pinned (OpenSpec.ofChange codeRunsSpec)

/-- ITS FALSE NEIGHBOUR: 'it returns false'. Refute it at one input. -/
def codeRunsWrong : ChangeSpec := { name := "codeRuns", fn := fun _ => fun
  | [d1, d2] => { results := [.lit (.bool false)], args := [d1, d2] }
  | _ => none }
def CodeRunsWrongFalsely : Prop := codeRunsRow.holds Try.pinned (OpenSpec.ofChange codeRunsWrong)

/-- 'vestibulelaw25.CodeGuard': WHATEVER THE INPUT: true; the input reads as it did. -/
def codeGuardSpec : ChangeSpec := { name := "codeGuard", fn := fun _ => fun
  | [d1, d2] => { results := [.lit (.bool true)], args := [d1, d2] }
  | _ => none }
def codeGuardRow : OpenClaim := { program := "ytkmhfjnjfghnjaa", sum := "aa0d97d04981c793798978491376e39f0f0b9e7590109f065288b21d7196dfc0", func := "vestibule/vestibulelaw25.CodeGuard", spec := "codeGuard", unfollowed := true, recurses := true, apart := false }
def CodeGuardSaid : Prop := codeGuardRow.holds Try.pinned (OpenSpec.ofChange codeGuardSpec)

/-- ITS FALSE NEIGHBOUR: 'it returns false'. Refute it at one input. -/
def codeGuardWrong : ChangeSpec := { name := "codeGuard", fn := fun _ => fun
  | [d1, d2] => { results := [.lit (.bool false)], args := [d1, d2] }
  | _ => none }
def CodeGuardWrongFalsely : Prop := codeGuardRow.holds Try.pinned (OpenSpec.ofChange codeGuardWrong)

/-- 'vestibulelaw25.CodeEmit': WHATEVER THE INPUT: true; the input reads as it did. -/
def codeEmitSpec : ChangeSpec := { name := "codeEmit", fn := fun _ => fun
  | [d1, d2, d3] => { results := [.lit (.bool true)], args := [d1, d2, d3] }
  | _ => none }
def codeEmitRow : OpenClaim := { program := "ytkmhfjnjfghnjaa", sum := "aa0d97d04981c793798978491376e39f0f0b9e7590109f065288b21d7196dfc0", func := "vestibule/vestibulelaw25.CodeEmit", spec := "codeEmit", unfollowed := true, recurses := true, apart := false }
def CodeEmitSaid : Prop := codeEmitRow.holds Try.pinned (OpenSpec.ofChange codeEmitSpec)

/-- ITS FALSE NEIGHBOUR: 'it returns false'. Refute it at one input. -/
def codeEmitWrong : ChangeSpec := { name := "codeEmit", fn := fun _ => fun
  | [d1, d2, d3] => { results := [.lit (.bool false)], args := [d1, d2, d3] }
  | _ => none }
def CodeEmitWrongFalsely : Prop := codeEmitRow.holds Try.pinned (OpenSpec.ofChange codeEmitWrong)

/-- 'vestibulelaw25.CodeEnds': WHATEVER THE INPUT: true; the input reads as it did. -/
def codeEndsSpec : ChangeSpec := { name := "codeEnds", fn := fun _ => fun
  | [d1, d2] => { results := [.lit (.bool true)], args := [d1, d2] }
  | _ => none }
def codeEndsRow : OpenClaim := { program := "ytkmhfjnjfghnjaa", sum := "aa0d97d04981c793798978491376e39f0f0b9e7590109f065288b21d7196dfc0", func := "vestibule/vestibulelaw25.CodeEnds", spec := "codeEnds", unfollowed := true, recurses := true, apart := false }
def CodeEndsSaid : Prop := codeEndsRow.holds Try.pinned (OpenSpec.ofChange codeEndsSpec)

/-- ITS FALSE NEIGHBOUR: 'it returns false'. Refute it at one input. -/
def codeEndsWrong : ChangeSpec := { name := "codeEnds", fn := fun _ => fun
  | [d1, d2] => { results := [.lit (.bool false)], args := [d1, d2] }
  | _ => none }
def CodeEndsWrongFalsely : Prop := codeEndsRow.holds Try.pinned (OpenSpec.ofChange codeEndsWrong)

/-- 'vestibulelaw25.CodeSteps': WHATEVER THE INPUT: true; the input reads as it did. -/
def codeStepsSpec : ChangeSpec := { name := "codeSteps", fn := fun _ => fun
  | [d1, d2, d3] => { results := [.lit (.bool true)], args := [d1, d2, d3] }
  | _ => none }
def codeStepsRow : OpenClaim := { program := "ytkmhfjnjfghnjaa", sum := "aa0d97d04981c793798978491376e39f0f0b9e7590109f065288b21d7196dfc0", func := "vestibule/vestibulelaw25.CodeSteps", spec := "codeSteps", unfollowed := true, recurses := true, apart := false }
def CodeStepsSaid : Prop := codeStepsRow.holds Try.pinned (OpenSpec.ofChange codeStepsSpec)

/-- ITS FALSE NEIGHBOUR: 'it returns false'. Refute it at one input. -/
def codeStepsWrong : ChangeSpec := { name := "codeSteps", fn := fun _ => fun
  | [d1, d2, d3] => { results := [.lit (.bool false)], args := [d1, d2, d3] }
  | _ => none }
def CodeStepsWrongFalsely : Prop := codeStepsRow.holds Try.pinned (OpenSpec.ofChange codeStepsWrong)

/-- 'vestibulelaw25.CodeMeans': WHATEVER THE INPUT: true; the input reads as it did. -/
def codeMeansSpec : ChangeSpec := { name := "codeMeans", fn := fun _ => fun
  | [d1, d2] => { results := [.lit (.bool true)], args := [d1, d2] }
  | _ => none }
def codeMeansRow : OpenClaim := { program := "ytkmhfjnjfghnjaa", sum := "aa0d97d04981c793798978491376e39f0f0b9e7590109f065288b21d7196dfc0", func := "vestibule/vestibulelaw25.CodeMeans", spec := "codeMeans", unfollowed := true, recurses := true, apart := false }
def CodeMeansSaid : Prop := codeMeansRow.holds Try.pinned (OpenSpec.ofChange codeMeansSpec)

/-- ITS FALSE NEIGHBOUR: 'it returns false'. Refute it at one input. -/
def codeMeansWrong : ChangeSpec := { name := "codeMeans", fn := fun _ => fun
  | [d1, d2] => { results := [.lit (.bool false)], args := [d1, d2] }
  | _ => none }
def CodeMeansWrongFalsely : Prop := codeMeansRow.holds Try.pinned (OpenSpec.ofChange codeMeansWrong)

/- THE SECOND FORM. 'bulk': how many values and letters a reading holds, each counted each time it is reached (what is shared counts as often as it is met; a slice's spare places count too). A statement '..UptoSaid' is the law's where the arguments, and the package variables that the reading takes, are together of bulk at most 1048576: NARROWER than '..Said'. Prove '..Said' where nothing that the law and all that it calls make is longer than what came in: it says more and counts as full. Else prove '..UptoSaid'. A law counts once. -/
mutual
def uptoBulk {H : Type} : DataW H → Nat
  | .lit (.string bytes) => bytes.length + 1
  | .lit _ => 1
  | .nil => 1
  | .ptr d => uptoBulk d + 1
  | .slice elems spare => uptoBulkAll elems + uptoBulkAll spare + 1
  | .agg parts => uptoBulkAll parts + 1
  | .iface _ d => uptoBulk d + 1
  | .map entries => uptoBulkEntries entries + 1
  | .held _ => 1
def uptoBulkAll {H : Type} : List (DataW H) → Nat
  | [] => 0
  | d :: r => uptoBulk d + uptoBulkAll r
def uptoBulkEntries {H : Type} : List (Lit × DataW H) → Nat
  | [] => 0
  | x :: r => uptoBulkEntry x + uptoBulkEntries r
def uptoBulkEntry {H : Type} : Lit × DataW H → Nat
  | (.string bytes, d) => bytes.length + uptoBulk d + 1
  | (_, d) => uptoBulk d + 1
 end
def uptoSmall : (H : Type) → List (DataW H) → Bool := fun _ ds => decide (uptoBulkAll ds ≤ 1048576)
def OpenSpec.upto (s : _root_.Go.ChangeSpec) : _root_.Go.OpenSpec := { _root_.Go.OpenSpec.ofChange s with cond := some uptoSmall }

/-- 'vestibulelaw21.IrSame', WHERE WHAT IT READS IS OF BULK AT MOST 1048576: true; the input reads as it did. -/
def irSameUptoRow : OpenClaim := { program := "ytkmhfjnjfghnjaa", sum := "aa0d97d04981c793798978491376e39f0f0b9e7590109f065288b21d7196dfc0", func := "vestibule/vestibulelaw21.IrSame", spec := "irSame", unfollowed := true, recurses := true, apart := false, narrowed := true }
def IrSameUptoSaid : Prop := irSameUptoRow.holds Try.pinned (OpenSpec.upto irSameSpec)

/-- 'vestibulelaw21.IrNormal', WHERE WHAT IT READS IS OF BULK AT MOST 1048576: true; the input reads as it did. -/
def irNormalUptoRow : OpenClaim := { program := "ytkmhfjnjfghnjaa", sum := "aa0d97d04981c793798978491376e39f0f0b9e7590109f065288b21d7196dfc0", func := "vestibule/vestibulelaw21.IrNormal", spec := "irNormal", unfollowed := true, recurses := true, apart := false, narrowed := true }
def IrNormalUptoSaid : Prop := irNormalUptoRow.holds Try.pinned (OpenSpec.upto irNormalSpec)

/-- 'vestibulelaw21.IrDenotes', WHERE WHAT IT READS IS OF BULK AT MOST 1048576: true; the input reads as it did. -/
def irDenotesUptoRow : OpenClaim := { program := "ytkmhfjnjfghnjaa", sum := "aa0d97d04981c793798978491376e39f0f0b9e7590109f065288b21d7196dfc0", func := "vestibule/vestibulelaw21.IrDenotes", spec := "irDenotes", unfollowed := true, recurses := true, apart := false, narrowed := true }
def IrDenotesUptoSaid : Prop := irDenotesUptoRow.holds Try.pinned (OpenSpec.upto irDenotesSpec)

/-- 'vestibulelaw21.IrNormalSame', WHERE WHAT IT READS IS OF BULK AT MOST 1048576: true; the input reads as it did. -/
def irNormalSameUptoRow : OpenClaim := { program := "ytkmhfjnjfghnjaa", sum := "aa0d97d04981c793798978491376e39f0f0b9e7590109f065288b21d7196dfc0", func := "vestibule/vestibulelaw21.IrNormalSame", spec := "irNormalSame", unfollowed := true, recurses := true, apart := false, narrowed := true }
def IrNormalSameUptoSaid : Prop := irNormalSameUptoRow.holds Try.pinned (OpenSpec.upto irNormalSameSpec)

/-- 'vestibulelaw21.IrOwn', WHERE WHAT IT READS IS OF BULK AT MOST 1048576: true; the input reads as it did. -/
def irOwnUptoRow : OpenClaim := { program := "ytkmhfjnjfghnjaa", sum := "aa0d97d04981c793798978491376e39f0f0b9e7590109f065288b21d7196dfc0", func := "vestibule/vestibulelaw21.IrOwn", spec := "irOwn", unfollowed := true, recurses := true, apart := false, narrowed := true }
def IrOwnUptoSaid : Prop := irOwnUptoRow.holds Try.pinned (OpenSpec.upto irOwnSpec)

/-- 'vestibulelaw21.IrFirst', WHERE WHAT IT READS IS OF BULK AT MOST 1048576: true; the input reads as it did. -/
def irFirstUptoRow : OpenClaim := { program := "ytkmhfjnjfghnjaa", sum := "aa0d97d04981c793798978491376e39f0f0b9e7590109f065288b21d7196dfc0", func := "vestibule/vestibulelaw21.IrFirst", spec := "irFirst", unfollowed := true, recurses := true, apart := false, narrowed := true }
def IrFirstUptoSaid : Prop := irFirstUptoRow.holds Try.pinned (OpenSpec.upto irFirstSpec)

/-- 'vestibulelaw25.CodeRuns', WHERE WHAT IT READS IS OF BULK AT MOST 1048576: true; the input reads as it did. -/
def codeRunsUptoRow : OpenClaim := { program := "ytkmhfjnjfghnjaa", sum := "aa0d97d04981c793798978491376e39f0f0b9e7590109f065288b21d7196dfc0", func := "vestibule/vestibulelaw25.CodeRuns", spec := "codeRuns", unfollowed := true, recurses := true, apart := false, narrowed := true }
def CodeRunsUptoSaid : Prop := codeRunsUptoRow.holds Try.pinned (OpenSpec.upto codeRunsSpec)

/-- 'vestibulelaw25.CodeGuard', WHERE WHAT IT READS IS OF BULK AT MOST 1048576: true; the input reads as it did. -/
def codeGuardUptoRow : OpenClaim := { program := "ytkmhfjnjfghnjaa", sum := "aa0d97d04981c793798978491376e39f0f0b9e7590109f065288b21d7196dfc0", func := "vestibule/vestibulelaw25.CodeGuard", spec := "codeGuard", unfollowed := true, recurses := true, apart := false, narrowed := true }
def CodeGuardUptoSaid : Prop := codeGuardUptoRow.holds Try.pinned (OpenSpec.upto codeGuardSpec)

/-- 'vestibulelaw25.CodeEmit', WHERE WHAT IT READS IS OF BULK AT MOST 1048576: true; the input reads as it did. -/
def codeEmitUptoRow : OpenClaim := { program := "ytkmhfjnjfghnjaa", sum := "aa0d97d04981c793798978491376e39f0f0b9e7590109f065288b21d7196dfc0", func := "vestibule/vestibulelaw25.CodeEmit", spec := "codeEmit", unfollowed := true, recurses := true, apart := false, narrowed := true }
def CodeEmitUptoSaid : Prop := codeEmitUptoRow.holds Try.pinned (OpenSpec.upto codeEmitSpec)

/-- 'vestibulelaw25.CodeEnds', WHERE WHAT IT READS IS OF BULK AT MOST 1048576: true; the input reads as it did. -/
def codeEndsUptoRow : OpenClaim := { program := "ytkmhfjnjfghnjaa", sum := "aa0d97d04981c793798978491376e39f0f0b9e7590109f065288b21d7196dfc0", func := "vestibule/vestibulelaw25.CodeEnds", spec := "codeEnds", unfollowed := true, recurses := true, apart := false, narrowed := true }
def CodeEndsUptoSaid : Prop := codeEndsUptoRow.holds Try.pinned (OpenSpec.upto codeEndsSpec)

/-- 'vestibulelaw25.CodeSteps', WHERE WHAT IT READS IS OF BULK AT MOST 1048576: true; the input reads as it did. -/
def codeStepsUptoRow : OpenClaim := { program := "ytkmhfjnjfghnjaa", sum := "aa0d97d04981c793798978491376e39f0f0b9e7590109f065288b21d7196dfc0", func := "vestibule/vestibulelaw25.CodeSteps", spec := "codeSteps", unfollowed := true, recurses := true, apart := false, narrowed := true }
def CodeStepsUptoSaid : Prop := codeStepsUptoRow.holds Try.pinned (OpenSpec.upto codeStepsSpec)

/-- 'vestibulelaw25.CodeMeans', WHERE WHAT IT READS IS OF BULK AT MOST 1048576: true; the input reads as it did. -/
def codeMeansUptoRow : OpenClaim := { program := "ytkmhfjnjfghnjaa", sum := "aa0d97d04981c793798978491376e39f0f0b9e7590109f065288b21d7196dfc0", func := "vestibule/vestibulelaw25.CodeMeans", spec := "codeMeans", unfollowed := true, recurses := true, apart := false, narrowed := true }
def CodeMeansUptoSaid : Prop := codeMeansUptoRow.holds Try.pinned (OpenSpec.upto codeMeansSpec)

end Rows
end Go.Proofs.Ytkmhfjnjfghnjaa
