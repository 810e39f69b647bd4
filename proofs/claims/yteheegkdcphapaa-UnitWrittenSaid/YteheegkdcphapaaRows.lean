/-
  No cell of these rows narrows 'for every input' (looked for: loops, veiled, ifaces, maps, wideKeys, modest, calm, conditions, laid).
  DERIVED. THE GIVEN ROWS OF THIS SEAT. 9 by the template 'for every input the law returns true; each argument reads behind the call as it read before'; 0 by the template 'total and deterministic' (their statements: YteheegkdcphapaaTotals.lean).
  GIVEN WITH THE SEED: the statements are not yours to turn. If you find one false, say at which input.
  Laid BY PROGRAM, IN A SANDBOX (cutbox-rows.mjs): the forced cells as the released guide's own fill.sh prints them over the translation 766a4897a731c60a… (all of the seat's roots in one cut). By AI agents, Wed Nov 11 2026. No macro, syntax, notation, axiom, sorry.
-/
import Derived.Test.YteheegkdcphapaaChecked
import GoSem.Claim
import GoSem.ClaimJoined
import GoSem.ClaimMapViews
import Derived.JoinedTies
import Derived.KernelRfl
namespace Go.Proofs.Yteheegkdcphapaa
/- THE CELL 'sum', in the pinned program and in every row, IS THE sha256 OF THE DUMP (.gsa) THAT YteheegkdcphapaaProg.lean LOADS. Nothing in Lean hashes anything: it is a label: what it is worth is what the hold of that sum in a sandbox is worth. -/
noncomputable def Try.pinned : Pinned := { name := "yteheegkdcphapaa", sum := "766a4897a731c60af967139905e947cb4f1864676a9b2ebbf0fa44e7416d7f07", checked := Try.checked }
namespace Rows
def none {H : Type} : Left H := { results := [], args := [] }

/-- 'vestibulelaw12.LinesSplits': WHATEVER THE INPUT: true; the input reads as it did. -/
def linesSplitsSpec : ChangeSpec := { name := "linesSplits", fn := fun _ => fun
  | [d1, d2, d3] => { results := [.lit (.bool true)], args := [d1, d2, d3] }
  | _ => none }
def linesSplitsRow : OpenClaim := { program := "yteheegkdcphapaa", sum := "766a4897a731c60af967139905e947cb4f1864676a9b2ebbf0fa44e7416d7f07", func := "vestibule/vestibulelaw12.LinesSplits", spec := "linesSplits", inPlace := ["internal/bytealg.IndexByteString", "internal/bytealg.IndexString"], unfollowed := true, recurses := true, named := ["internal/bytealg.MaxLen"], apart := false }
def LinesSplitsSaid : Prop := linesSplitsRow.holds Try.pinned (OpenSpec.ofChange linesSplitsSpec)

/-- ITS FALSE NEIGHBOUR: 'it returns false'. Refute it at one input. -/
def linesSplitsWrong : ChangeSpec := { name := "linesSplits", fn := fun _ => fun
  | [d1, d2, d3] => { results := [.lit (.bool false)], args := [d1, d2, d3] }
  | _ => none }
def LinesSplitsWrongFalsely : Prop := linesSplitsRow.holds Try.pinned (OpenSpec.ofChange linesSplitsWrong)

/-- 'vestibulelaw12.LinesTrims': WHATEVER THE INPUT: true; the input reads as it did. -/
def linesTrimsSpec : ChangeSpec := { name := "linesTrims", fn := fun _ => fun
  | [d] => { results := [.lit (.bool true)], args := [d] }
  | _ => none }
def linesTrimsRow : OpenClaim := { program := "yteheegkdcphapaa", sum := "766a4897a731c60af967139905e947cb4f1864676a9b2ebbf0fa44e7416d7f07", func := "vestibule/vestibulelaw12.LinesTrims", spec := "linesTrims", inPlace := ["internal/bytealg.IndexByteString", "internal/bytealg.IndexString"], unfollowed := true, recurses := true, named := ["internal/bytealg.MaxLen"], apart := false }
def LinesTrimsSaid : Prop := linesTrimsRow.holds Try.pinned (OpenSpec.ofChange linesTrimsSpec)

/-- ITS FALSE NEIGHBOUR: 'it returns false'. Refute it at one input. -/
def linesTrimsWrong : ChangeSpec := { name := "linesTrims", fn := fun _ => fun
  | [d] => { results := [.lit (.bool false)], args := [d] }
  | _ => none }
def LinesTrimsWrongFalsely : Prop := linesTrimsRow.holds Try.pinned (OpenSpec.ofChange linesTrimsWrong)

/-- 'vestibulelaw12.LinesRise': WHATEVER THE INPUT: true; the input reads as it did. -/
def linesRiseSpec : ChangeSpec := { name := "linesRise", fn := fun _ => fun
  | [d] => { results := [.lit (.bool true)], args := [d] }
  | _ => none }
def linesRiseRow : OpenClaim := { program := "yteheegkdcphapaa", sum := "766a4897a731c60af967139905e947cb4f1864676a9b2ebbf0fa44e7416d7f07", func := "vestibule/vestibulelaw12.LinesRise", spec := "linesRise", inPlace := ["internal/bytealg.IndexByteString", "internal/bytealg.IndexString"], unfollowed := true, recurses := true, named := ["internal/bytealg.MaxLen"], apart := false }
def LinesRiseSaid : Prop := linesRiseRow.holds Try.pinned (OpenSpec.ofChange linesRiseSpec)

/-- ITS FALSE NEIGHBOUR: 'it returns false'. Refute it at one input. -/
def linesRiseWrong : ChangeSpec := { name := "linesRise", fn := fun _ => fun
  | [d] => { results := [.lit (.bool false)], args := [d] }
  | _ => none }
def LinesRiseWrongFalsely : Prop := linesRiseRow.holds Try.pinned (OpenSpec.ofChange linesRiseWrong)

/-- 'vestibulelaw12.LinesPlain': WHATEVER THE INPUT: true; the input reads as it did. -/
def linesPlainSpec : ChangeSpec := { name := "linesPlain", fn := fun _ => fun
  | [d1, d2] => { results := [.lit (.bool true)], args := [d1, d2] }
  | _ => none }
def linesPlainRow : OpenClaim := { program := "yteheegkdcphapaa", sum := "766a4897a731c60af967139905e947cb4f1864676a9b2ebbf0fa44e7416d7f07", func := "vestibule/vestibulelaw12.LinesPlain", spec := "linesPlain", inPlace := ["internal/bytealg.IndexByteString", "internal/bytealg.IndexString"], unfollowed := true, recurses := true, named := ["internal/bytealg.MaxLen"], apart := false }
def LinesPlainSaid : Prop := linesPlainRow.holds Try.pinned (OpenSpec.ofChange linesPlainSpec)

/-- ITS FALSE NEIGHBOUR: 'it returns false'. Refute it at one input. -/
def linesPlainWrong : ChangeSpec := { name := "linesPlain", fn := fun _ => fun
  | [d1, d2] => { results := [.lit (.bool false)], args := [d1, d2] }
  | _ => none }
def LinesPlainWrongFalsely : Prop := linesPlainRow.holds Try.pinned (OpenSpec.ofChange linesPlainWrong)

/-- 'vestibulelaw12.LinesJoined': WHATEVER THE INPUT: true; the input reads as it did. -/
def linesJoinedSpec : ChangeSpec := { name := "linesJoined", fn := fun _ => fun
  | [d1, d2, d3] => { results := [.lit (.bool true)], args := [d1, d2, d3] }
  | _ => none }
def linesJoinedRow : OpenClaim := { program := "yteheegkdcphapaa", sum := "766a4897a731c60af967139905e947cb4f1864676a9b2ebbf0fa44e7416d7f07", func := "vestibule/vestibulelaw12.LinesJoined", spec := "linesJoined", inPlace := ["internal/bytealg.IndexByteString", "internal/bytealg.IndexString"], unfollowed := true, recurses := true, named := ["internal/bytealg.MaxLen"], apart := false }
def LinesJoinedSaid : Prop := linesJoinedRow.holds Try.pinned (OpenSpec.ofChange linesJoinedSpec)

/-- ITS FALSE NEIGHBOUR: 'it returns false'. Refute it at one input. -/
def linesJoinedWrong : ChangeSpec := { name := "linesJoined", fn := fun _ => fun
  | [d1, d2, d3] => { results := [.lit (.bool false)], args := [d1, d2, d3] }
  | _ => none }
def LinesJoinedWrongFalsely : Prop := linesJoinedRow.holds Try.pinned (OpenSpec.ofChange linesJoinedWrong)

/-- 'vestibulelaw13.UnitParses': WHATEVER THE INPUT: true; the input reads as it did. -/
def unitParsesSpec : ChangeSpec := { name := "unitParses", fn := fun _ => fun
  | [d] => { results := [.lit (.bool true)], args := [d] }
  | _ => none }
def unitParsesRow : OpenClaim := { program := "yteheegkdcphapaa", sum := "766a4897a731c60af967139905e947cb4f1864676a9b2ebbf0fa44e7416d7f07", func := "vestibule/vestibulelaw13.UnitParses", spec := "unitParses", inPlace := ["internal/bytealg.IndexByteString", "internal/bytealg.IndexString"], unfollowed := true, recurses := true, named := ["internal/bytealg.MaxLen"], apart := false }
def UnitParsesSaid : Prop := unitParsesRow.holds Try.pinned (OpenSpec.ofChange unitParsesSpec)

/-- ITS FALSE NEIGHBOUR: 'it returns false'. Refute it at one input. -/
def unitParsesWrong : ChangeSpec := { name := "unitParses", fn := fun _ => fun
  | [d] => { results := [.lit (.bool false)], args := [d] }
  | _ => none }
def UnitParsesWrongFalsely : Prop := unitParsesRow.holds Try.pinned (OpenSpec.ofChange unitParsesWrong)

/-- 'vestibulelaw13.UnitLines': WHATEVER THE INPUT: true; the input reads as it did. -/
def unitLinesSpec : ChangeSpec := { name := "unitLines", fn := fun _ => fun
  | [d] => { results := [.lit (.bool true)], args := [d] }
  | _ => none }
def unitLinesRow : OpenClaim := { program := "yteheegkdcphapaa", sum := "766a4897a731c60af967139905e947cb4f1864676a9b2ebbf0fa44e7416d7f07", func := "vestibule/vestibulelaw13.UnitLines", spec := "unitLines", inPlace := ["internal/bytealg.IndexByteString", "internal/bytealg.IndexString"], unfollowed := true, recurses := true, named := ["internal/bytealg.MaxLen"], apart := false }
def UnitLinesSaid : Prop := unitLinesRow.holds Try.pinned (OpenSpec.ofChange unitLinesSpec)

/-- ITS FALSE NEIGHBOUR: 'it returns false'. Refute it at one input. -/
def unitLinesWrong : ChangeSpec := { name := "unitLines", fn := fun _ => fun
  | [d] => { results := [.lit (.bool false)], args := [d] }
  | _ => none }
def UnitLinesWrongFalsely : Prop := unitLinesRow.holds Try.pinned (OpenSpec.ofChange unitLinesWrong)

/-- 'vestibulelaw13.UnitWritten': WHATEVER THE INPUT: true; the input reads as it did. -/
def unitWrittenSpec : ChangeSpec := { name := "unitWritten", fn := fun _ => fun
  | [d1, d2] => { results := [.lit (.bool true)], args := [d1, d2] }
  | _ => none }
def unitWrittenRow : OpenClaim := { program := "yteheegkdcphapaa", sum := "766a4897a731c60af967139905e947cb4f1864676a9b2ebbf0fa44e7416d7f07", func := "vestibule/vestibulelaw13.UnitWritten", spec := "unitWritten", inPlace := ["internal/bytealg.IndexByteString", "internal/bytealg.IndexString"], unfollowed := true, recurses := true, named := ["internal/bytealg.MaxLen"], apart := false }
def UnitWrittenSaid : Prop := unitWrittenRow.holds Try.pinned (OpenSpec.ofChange unitWrittenSpec)

/-- ITS FALSE NEIGHBOUR: 'it returns false'. Refute it at one input. -/
def unitWrittenWrong : ChangeSpec := { name := "unitWritten", fn := fun _ => fun
  | [d1, d2] => { results := [.lit (.bool false)], args := [d1, d2] }
  | _ => none }
def UnitWrittenWrongFalsely : Prop := unitWrittenRow.holds Try.pinned (OpenSpec.ofChange unitWrittenWrong)

/-- 'vestibulelaw13.UnitEither': WHATEVER THE INPUT: true; the input reads as it did. -/
def unitEitherSpec : ChangeSpec := { name := "unitEither", fn := fun _ => fun
  | [d] => { results := [.lit (.bool true)], args := [d] }
  | _ => none }
def unitEitherRow : OpenClaim := { program := "yteheegkdcphapaa", sum := "766a4897a731c60af967139905e947cb4f1864676a9b2ebbf0fa44e7416d7f07", func := "vestibule/vestibulelaw13.UnitEither", spec := "unitEither", inPlace := ["internal/bytealg.IndexByteString", "internal/bytealg.IndexString"], unfollowed := true, recurses := true, named := ["internal/bytealg.MaxLen"], apart := false }
def UnitEitherSaid : Prop := unitEitherRow.holds Try.pinned (OpenSpec.ofChange unitEitherSpec)

/-- ITS FALSE NEIGHBOUR: 'it returns false'. Refute it at one input. -/
def unitEitherWrong : ChangeSpec := { name := "unitEither", fn := fun _ => fun
  | [d] => { results := [.lit (.bool false)], args := [d] }
  | _ => none }
def UnitEitherWrongFalsely : Prop := unitEitherRow.holds Try.pinned (OpenSpec.ofChange unitEitherWrong)

/- THE SECOND FORM. 'bulk': how many values and letters a reading holds, each counted each time it is reached (what is shared counts as often as it is met; a slice's spare places count too). A statement '..UptoSaid' is the law's where the arguments, and the package variables that the reading takes, are together of bulk at most 1048576: NARROWER than '..Said'. Prove '..Said' where nothing that the law and all that it calls make is longer than what came in: it says more and counts as full. Else prove '..UptoSaid'. A law counts once. -/
mutual
def uptoBulk {H : Type} : DataW H → Nat
  | .lit (.string bytes) => bytes.length + 1
  | .lit _ => 1
  | .nil => 1
  | .ptr d => uptoBulk d + 1
  | .slice elems spare => uptoBulkAll elems + uptoBulkAll spare + 1
  | .agg parts => uptoBulkAll parts + 1
  | .iface _ d => uptoBulk d + 1
  | .map entries => uptoBulkEntries entries + 1
  | .held _ => 1
def uptoBulkAll {H : Type} : List (DataW H) → Nat
  | [] => 0
  | d :: r => uptoBulk d + uptoBulkAll r
def uptoBulkEntries {H : Type} : List (Lit × DataW H) → Nat
  | [] => 0
  | x :: r => uptoBulkEntry x + uptoBulkEntries r
def uptoBulkEntry {H : Type} : Lit × DataW H → Nat
  | (.string bytes, d) => bytes.length + uptoBulk d + 1
  | (_, d) => uptoBulk d + 1
 end
def uptoSmall : (H : Type) → List (DataW H) → Bool := fun _ ds => decide (uptoBulkAll ds ≤ 1048576)
def OpenSpec.upto (s : _root_.Go.ChangeSpec) : _root_.Go.OpenSpec := { _root_.Go.OpenSpec.ofChange s with cond := some uptoSmall }

/-- 'vestibulelaw12.LinesSplits', WHERE WHAT IT READS IS OF BULK AT MOST 1048576: true; the input reads as it did. -/
def linesSplitsUptoRow : OpenClaim := { program := "yteheegkdcphapaa", sum := "766a4897a731c60af967139905e947cb4f1864676a9b2ebbf0fa44e7416d7f07", func := "vestibule/vestibulelaw12.LinesSplits", spec := "linesSplits", inPlace := ["internal/bytealg.IndexByteString", "internal/bytealg.IndexString"], unfollowed := true, recurses := true, named := ["internal/bytealg.MaxLen"], apart := false, narrowed := true }
def LinesSplitsUptoSaid : Prop := linesSplitsUptoRow.holds Try.pinned (OpenSpec.upto linesSplitsSpec)

/-- 'vestibulelaw12.LinesTrims', WHERE WHAT IT READS IS OF BULK AT MOST 1048576: true; the input reads as it did. -/
def linesTrimsUptoRow : OpenClaim := { program := "yteheegkdcphapaa", sum := "766a4897a731c60af967139905e947cb4f1864676a9b2ebbf0fa44e7416d7f07", func := "vestibule/vestibulelaw12.LinesTrims", spec := "linesTrims", inPlace := ["internal/bytealg.IndexByteString", "internal/bytealg.IndexString"], unfollowed := true, recurses := true, named := ["internal/bytealg.MaxLen"], apart := false, narrowed := true }
def LinesTrimsUptoSaid : Prop := linesTrimsUptoRow.holds Try.pinned (OpenSpec.upto linesTrimsSpec)

/-- 'vestibulelaw12.LinesRise', WHERE WHAT IT READS IS OF BULK AT MOST 1048576: true; the input reads as it did. -/
def linesRiseUptoRow : OpenClaim := { program := "yteheegkdcphapaa", sum := "766a4897a731c60af967139905e947cb4f1864676a9b2ebbf0fa44e7416d7f07", func := "vestibule/vestibulelaw12.LinesRise", spec := "linesRise", inPlace := ["internal/bytealg.IndexByteString", "internal/bytealg.IndexString"], unfollowed := true, recurses := true, named := ["internal/bytealg.MaxLen"], apart := false, narrowed := true }
def LinesRiseUptoSaid : Prop := linesRiseUptoRow.holds Try.pinned (OpenSpec.upto linesRiseSpec)

/-- 'vestibulelaw12.LinesPlain', WHERE WHAT IT READS IS OF BULK AT MOST 1048576: true; the input reads as it did. -/
def linesPlainUptoRow : OpenClaim := { program := "yteheegkdcphapaa", sum := "766a4897a731c60af967139905e947cb4f1864676a9b2ebbf0fa44e7416d7f07", func := "vestibule/vestibulelaw12.LinesPlain", spec := "linesPlain", inPlace := ["internal/bytealg.IndexByteString", "internal/bytealg.IndexString"], unfollowed := true, recurses := true, named := ["internal/bytealg.MaxLen"], apart := false, narrowed := true }
def LinesPlainUptoSaid : Prop := linesPlainUptoRow.holds Try.pinned (OpenSpec.upto linesPlainSpec)

/-- 'vestibulelaw12.LinesJoined', WHERE WHAT IT READS IS OF BULK AT MOST 1048576: true; the input reads as it did. -/
def linesJoinedUptoRow : OpenClaim := { program := "yteheegkdcphapaa", sum := "766a4897a731c60af967139905e947cb4f1864676a9b2ebbf0fa44e7416d7f07", func := "vestibule/vestibulelaw12.LinesJoined", spec := "linesJoined", inPlace := ["internal/bytealg.IndexByteString", "internal/bytealg.IndexString"], unfollowed := true, recurses := true, named := ["internal/bytealg.MaxLen"], apart := false, narrowed := true }
def LinesJoinedUptoSaid : Prop := linesJoinedUptoRow.holds Try.pinned (OpenSpec.upto linesJoinedSpec)

/-- 'vestibulelaw13.UnitParses', WHERE WHAT IT READS IS OF BULK AT MOST 1048576: true; the input reads as it did. -/
def unitParsesUptoRow : OpenClaim := { program := "yteheegkdcphapaa", sum := "766a4897a731c60af967139905e947cb4f1864676a9b2ebbf0fa44e7416d7f07", func := "vestibule/vestibulelaw13.UnitParses", spec := "unitParses", inPlace := ["internal/bytealg.IndexByteString", "internal/bytealg.IndexString"], unfollowed := true, recurses := true, named := ["internal/bytealg.MaxLen"], apart := false, narrowed := true }
def UnitParsesUptoSaid : Prop := unitParsesUptoRow.holds Try.pinned (OpenSpec.upto unitParsesSpec)

/-- 'vestibulelaw13.UnitLines', WHERE WHAT IT READS IS OF BULK AT MOST 1048576: true; the input reads as it did. -/
def unitLinesUptoRow : OpenClaim := { program := "yteheegkdcphapaa", sum := "766a4897a731c60af967139905e947cb4f1864676a9b2ebbf0fa44e7416d7f07", func := "vestibule/vestibulelaw13.UnitLines", spec := "unitLines", inPlace := ["internal/bytealg.IndexByteString", "internal/bytealg.IndexString"], unfollowed := true, recurses := true, named := ["internal/bytealg.MaxLen"], apart := false, narrowed := true }
def UnitLinesUptoSaid : Prop := unitLinesUptoRow.holds Try.pinned (OpenSpec.upto unitLinesSpec)

/-- 'vestibulelaw13.UnitWritten', WHERE WHAT IT READS IS OF BULK AT MOST 1048576: true; the input reads as it did. -/
def unitWrittenUptoRow : OpenClaim := { program := "yteheegkdcphapaa", sum := "766a4897a731c60af967139905e947cb4f1864676a9b2ebbf0fa44e7416d7f07", func := "vestibule/vestibulelaw13.UnitWritten", spec := "unitWritten", inPlace := ["internal/bytealg.IndexByteString", "internal/bytealg.IndexString"], unfollowed := true, recurses := true, named := ["internal/bytealg.MaxLen"], apart := false, narrowed := true }
def UnitWrittenUptoSaid : Prop := unitWrittenUptoRow.holds Try.pinned (OpenSpec.upto unitWrittenSpec)

/-- 'vestibulelaw13.UnitEither', WHERE WHAT IT READS IS OF BULK AT MOST 1048576: true; the input reads as it did. -/
def unitEitherUptoRow : OpenClaim := { program := "yteheegkdcphapaa", sum := "766a4897a731c60af967139905e947cb4f1864676a9b2ebbf0fa44e7416d7f07", func := "vestibule/vestibulelaw13.UnitEither", spec := "unitEither", inPlace := ["internal/bytealg.IndexByteString", "internal/bytealg.IndexString"], unfollowed := true, recurses := true, named := ["internal/bytealg.MaxLen"], apart := false, narrowed := true }
def UnitEitherUptoSaid : Prop := unitEitherUptoRow.holds Try.pinned (OpenSpec.upto unitEitherSpec)

end Rows
end Go.Proofs.Yteheegkdcphapaa
