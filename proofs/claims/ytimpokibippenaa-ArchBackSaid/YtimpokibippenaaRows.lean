/-
  No cell of these rows narrows 'for every input' (looked for: loops, veiled, ifaces, maps, wideKeys, modest, calm, conditions, laid).
  DERIVED. THE GIVEN ROWS OF THIS SEAT. 5 by the template 'for every input the law returns true; each argument reads behind the call as it read before'; 0 by the template 'total and deterministic' (their statements: YtimpokibippenaaTotals.lean).
  GIVEN WITH THE SEED: the statements are not yours to turn. If you find one false, say at which input.
  Laid BY PROGRAM, IN A SANDBOX (cutbox-rows.mjs): the forced cells as the released guide's own fill.sh prints them over the translation a0b994a8b6564966… (all of the seat's roots in one cut). By AI agents, Wed Nov 11 2026. No macro, syntax, notation, axiom, sorry.
-/
import Derived.Test.YtimpokibippenaaChecked
import GoSem.Claim
import GoSem.ClaimJoined
import GoSem.ClaimMapViews
import Derived.JoinedTies
import Derived.KernelRfl
namespace Go.Proofs.Ytimpokibippenaa
/- THE CELL 'sum', in the pinned program and in every row, IS THE sha256 OF THE DUMP (.gsa) THAT YtimpokibippenaaProg.lean LOADS. Nothing in Lean hashes anything: it is a label: what it is worth is what the hold of that sum in a sandbox is worth. -/
noncomputable def Try.pinned : Pinned := { name := "ytimpokibippenaa", sum := "a0b994a8b65649663e5fa4725755369c844d1aa783b4c0630b40803a9335e977", checked := Try.checked }
namespace Rows
def none {H : Type} : Left H := { results := [], args := [] }

/-- 'vestibulelaw08.ArchNames': WHATEVER THE INPUT: true; the input reads as it did. -/
def archNamesSpec : ChangeSpec := { name := "archNames", fn := fun _ => fun
  | [d1, d2] => { results := [.lit (.bool true)], args := [d1, d2] }
  | _ => none }
def archNamesRow : OpenClaim := { program := "ytimpokibippenaa", sum := "a0b994a8b65649663e5fa4725755369c844d1aa783b4c0630b40803a9335e977", func := "vestibule/vestibulelaw08.ArchNames", spec := "archNames", unfollowed := true, recurses := true, apart := false }
def ArchNamesSaid : Prop := archNamesRow.holds Try.pinned (OpenSpec.ofChange archNamesSpec)

/-- ITS FALSE NEIGHBOUR: 'it returns false'. Refute it at one input. -/
def archNamesWrong : ChangeSpec := { name := "archNames", fn := fun _ => fun
  | [d1, d2] => { results := [.lit (.bool false)], args := [d1, d2] }
  | _ => none }
def ArchNamesWrongFalsely : Prop := archNamesRow.holds Try.pinned (OpenSpec.ofChange archNamesWrong)

/-- 'vestibulelaw08.ArchBit': WHATEVER THE INPUT: true; the input reads as it did. -/
def archBitSpec : ChangeSpec := { name := "archBit", fn := fun _ => fun
  | [d1, d2] => { results := [.lit (.bool true)], args := [d1, d2] }
  | _ => none }
def archBitRow : OpenClaim := { program := "ytimpokibippenaa", sum := "a0b994a8b65649663e5fa4725755369c844d1aa783b4c0630b40803a9335e977", func := "vestibule/vestibulelaw08.ArchBit", spec := "archBit", unfollowed := true, recurses := true, apart := false }
def ArchBitSaid : Prop := archBitRow.holds Try.pinned (OpenSpec.ofChange archBitSpec)

/-- ITS FALSE NEIGHBOUR: 'it returns false'. Refute it at one input. -/
def archBitWrong : ChangeSpec := { name := "archBit", fn := fun _ => fun
  | [d1, d2] => { results := [.lit (.bool false)], args := [d1, d2] }
  | _ => none }
def ArchBitWrongFalsely : Prop := archBitRow.holds Try.pinned (OpenSpec.ofChange archBitWrong)

/-- 'vestibulelaw08.ArchLists': WHATEVER THE INPUT: true; the input reads as it did. -/
def archListsSpec : ChangeSpec := { name := "archLists", fn := fun _ => fun
  | [d1, d2, d3] => { results := [.lit (.bool true)], args := [d1, d2, d3] }
  | _ => none }
def archListsRow : OpenClaim := { program := "ytimpokibippenaa", sum := "a0b994a8b65649663e5fa4725755369c844d1aa783b4c0630b40803a9335e977", func := "vestibule/vestibulelaw08.ArchLists", spec := "archLists", unfollowed := true, recurses := true, apart := false }
def ArchListsSaid : Prop := archListsRow.holds Try.pinned (OpenSpec.ofChange archListsSpec)

/-- ITS FALSE NEIGHBOUR: 'it returns false'. Refute it at one input. -/
def archListsWrong : ChangeSpec := { name := "archLists", fn := fun _ => fun
  | [d1, d2, d3] => { results := [.lit (.bool false)], args := [d1, d2, d3] }
  | _ => none }
def ArchListsWrongFalsely : Prop := archListsRow.holds Try.pinned (OpenSpec.ofChange archListsWrong)

/-- 'vestibulelaw08.ArchBack': WHATEVER THE INPUT: true; the input reads as it did. -/
def archBackSpec : ChangeSpec := { name := "archBack", fn := fun _ => fun
  | [d1, d2] => { results := [.lit (.bool true)], args := [d1, d2] }
  | _ => none }
def archBackRow : OpenClaim := { program := "ytimpokibippenaa", sum := "a0b994a8b65649663e5fa4725755369c844d1aa783b4c0630b40803a9335e977", func := "vestibule/vestibulelaw08.ArchBack", spec := "archBack", unfollowed := true, recurses := true, apart := false }
def ArchBackSaid : Prop := archBackRow.holds Try.pinned (OpenSpec.ofChange archBackSpec)

/-- ITS FALSE NEIGHBOUR: 'it returns false'. Refute it at one input. -/
def archBackWrong : ChangeSpec := { name := "archBack", fn := fun _ => fun
  | [d1, d2] => { results := [.lit (.bool false)], args := [d1, d2] }
  | _ => none }
def ArchBackWrongFalsely : Prop := archBackRow.holds Try.pinned (OpenSpec.ofChange archBackWrong)

/-- 'vestibulelaw08.ArchTokens': WHATEVER THE INPUT: true; the input reads as it did. -/
def archTokensSpec : ChangeSpec := { name := "archTokens", fn := fun _ => fun
  | [d1, d2, d3, d4] => { results := [.lit (.bool true)], args := [d1, d2, d3, d4] }
  | _ => none }
def archTokensRow : OpenClaim := { program := "ytimpokibippenaa", sum := "a0b994a8b65649663e5fa4725755369c844d1aa783b4c0630b40803a9335e977", func := "vestibule/vestibulelaw08.ArchTokens", spec := "archTokens", unfollowed := true, recurses := true, apart := false }
def ArchTokensSaid : Prop := archTokensRow.holds Try.pinned (OpenSpec.ofChange archTokensSpec)

/-- ITS FALSE NEIGHBOUR: 'it returns false'. Refute it at one input. -/
def archTokensWrong : ChangeSpec := { name := "archTokens", fn := fun _ => fun
  | [d1, d2, d3, d4] => { results := [.lit (.bool false)], args := [d1, d2, d3, d4] }
  | _ => none }
def ArchTokensWrongFalsely : Prop := archTokensRow.holds Try.pinned (OpenSpec.ofChange archTokensWrong)

/- THE SECOND FORM. 'bulk': how many values and letters a reading holds, each counted each time it is reached (what is shared counts as often as it is met; a slice's spare places count too). A statement '..UptoSaid' is the law's where the arguments, and the package variables that the reading takes, are together of bulk at most 1048576: NARROWER than '..Said'. Prove '..Said' where nothing that the law and all that it calls make is longer than what came in: it says more and counts as full. Else prove '..UptoSaid'. A law counts once. -/
mutual
def uptoBulk {H : Type} : DataW H → Nat
  | .lit (.string bytes) => bytes.length + 1
  | .lit _ => 1
  | .nil => 1
  | .ptr d => uptoBulk d + 1
  | .slice elems spare => uptoBulkAll elems + uptoBulkAll spare + 1
  | .agg parts => uptoBulkAll parts + 1
  | .iface _ d => uptoBulk d + 1
  | .map entries => uptoBulkEntries entries + 1
  | .held _ => 1
def uptoBulkAll {H : Type} : List (DataW H) → Nat
  | [] => 0
  | d :: r => uptoBulk d + uptoBulkAll r
def uptoBulkEntries {H : Type} : List (Lit × DataW H) → Nat
  | [] => 0
  | x :: r => uptoBulkEntry x + uptoBulkEntries r
def uptoBulkEntry {H : Type} : Lit × DataW H → Nat
  | (.string bytes, d) => bytes.length + uptoBulk d + 1
  | (_, d) => uptoBulk d + 1
 end
def uptoSmall : (H : Type) → List (DataW H) → Bool := fun _ ds => decide (uptoBulkAll ds ≤ 1048576)
def OpenSpec.upto (s : _root_.Go.ChangeSpec) : _root_.Go.OpenSpec := { _root_.Go.OpenSpec.ofChange s with cond := some uptoSmall }

/-- 'vestibulelaw08.ArchNames', WHERE WHAT IT READS IS OF BULK AT MOST 1048576: true; the input reads as it did. -/
def archNamesUptoRow : OpenClaim := { program := "ytimpokibippenaa", sum := "a0b994a8b65649663e5fa4725755369c844d1aa783b4c0630b40803a9335e977", func := "vestibule/vestibulelaw08.ArchNames", spec := "archNames", unfollowed := true, recurses := true, apart := false, narrowed := true }
def ArchNamesUptoSaid : Prop := archNamesUptoRow.holds Try.pinned (OpenSpec.upto archNamesSpec)

/-- 'vestibulelaw08.ArchBit', WHERE WHAT IT READS IS OF BULK AT MOST 1048576: true; the input reads as it did. -/
def archBitUptoRow : OpenClaim := { program := "ytimpokibippenaa", sum := "a0b994a8b65649663e5fa4725755369c844d1aa783b4c0630b40803a9335e977", func := "vestibule/vestibulelaw08.ArchBit", spec := "archBit", unfollowed := true, recurses := true, apart := false, narrowed := true }
def ArchBitUptoSaid : Prop := archBitUptoRow.holds Try.pinned (OpenSpec.upto archBitSpec)

/-- 'vestibulelaw08.ArchLists', WHERE WHAT IT READS IS OF BULK AT MOST 1048576: true; the input reads as it did. -/
def archListsUptoRow : OpenClaim := { program := "ytimpokibippenaa", sum := "a0b994a8b65649663e5fa4725755369c844d1aa783b4c0630b40803a9335e977", func := "vestibule/vestibulelaw08.ArchLists", spec := "archLists", unfollowed := true, recurses := true, apart := false, narrowed := true }
def ArchListsUptoSaid : Prop := archListsUptoRow.holds Try.pinned (OpenSpec.upto archListsSpec)

/-- 'vestibulelaw08.ArchBack', WHERE WHAT IT READS IS OF BULK AT MOST 1048576: true; the input reads as it did. -/
def archBackUptoRow : OpenClaim := { program := "ytimpokibippenaa", sum := "a0b994a8b65649663e5fa4725755369c844d1aa783b4c0630b40803a9335e977", func := "vestibule/vestibulelaw08.ArchBack", spec := "archBack", unfollowed := true, recurses := true, apart := false, narrowed := true }
def ArchBackUptoSaid : Prop := archBackUptoRow.holds Try.pinned (OpenSpec.upto archBackSpec)

/-- 'vestibulelaw08.ArchTokens', WHERE WHAT IT READS IS OF BULK AT MOST 1048576: true; the input reads as it did. -/
def archTokensUptoRow : OpenClaim := { program := "ytimpokibippenaa", sum := "a0b994a8b65649663e5fa4725755369c844d1aa783b4c0630b40803a9335e977", func := "vestibule/vestibulelaw08.ArchTokens", spec := "archTokens", unfollowed := true, recurses := true, apart := false, narrowed := true }
def ArchTokensUptoSaid : Prop := archTokensUptoRow.holds Try.pinned (OpenSpec.upto archTokensSpec)

end Rows
end Go.Proofs.Ytimpokibippenaa
