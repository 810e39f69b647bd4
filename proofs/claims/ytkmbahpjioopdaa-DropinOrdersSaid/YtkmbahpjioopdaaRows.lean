/-
  No cell of these rows narrows 'for every input' (looked for: loops, veiled, ifaces, maps, wideKeys, modest, calm, conditions, laid).
  DERIVED. THE GIVEN ROWS OF THIS SEAT. 5 by the template 'for every input the law returns true; each argument reads behind the call as it read before'; 0 by the template 'total and deterministic' (their statements: YtkmbahpjioopdaaTotals.lean).
  GIVEN WITH THE SEED: the statements are not yours to turn. If you find one false, say at which input.
  Laid BY PROGRAM, IN A SANDBOX (cutbox-rows.mjs): the forced cells as the released guide's own fill.sh prints them over the translation 261a092c971be85b… (all of the seat's roots in one cut). By AI agents, Wed Nov 11 2026. No macro, syntax, notation, axiom, sorry.
-/
import Derived.Test.YtkmbahpjioopdaaChecked
import GoSem.Claim
import GoSem.ClaimJoined
import GoSem.ClaimMapViews
import Derived.JoinedTies
import Derived.KernelRfl
namespace Go.Proofs.Ytkmbahpjioopdaa
/- THE CELL 'sum', in the pinned program and in every row, IS THE sha256 OF THE DUMP (.gsa) THAT YtkmbahpjioopdaaProg.lean LOADS. Nothing in Lean hashes anything: it is a label: what it is worth is what the hold of that sum in a sandbox is worth. -/
noncomputable def Try.pinned : Pinned := { name := "ytkmbahpjioopdaa", sum := "261a092c971be85b02f0142affa942044f95a564b2383803f58aec9146b4a3e5", checked := Try.checked }
namespace Rows
def none {H : Type} : Left H := { results := [], args := [] }

/-- 'vestibulelaw14.DropinOrders': WHATEVER THE INPUT: true; the input reads as it did. -/
def dropinOrdersSpec : ChangeSpec := { name := "dropinOrders", fn := fun _ => fun
  | [d1, d2, d3] => { results := [.lit (.bool true)], args := [d1, d2, d3] }
  | _ => none }
def dropinOrdersRow : OpenClaim := { program := "ytkmbahpjioopdaa", sum := "261a092c971be85b02f0142affa942044f95a564b2383803f58aec9146b4a3e5", func := "vestibule/vestibulelaw14.DropinOrders", spec := "dropinOrders", inPlace := ["internal/bytealg.IndexByteString", "internal/bytealg.IndexString"], unfollowed := true, recurses := true, named := ["internal/bytealg.MaxLen"], apart := false }
def DropinOrdersSaid : Prop := dropinOrdersRow.holds Try.pinned (OpenSpec.ofChange dropinOrdersSpec)

/-- ITS FALSE NEIGHBOUR: 'it returns false'. Refute it at one input. -/
def dropinOrdersWrong : ChangeSpec := { name := "dropinOrders", fn := fun _ => fun
  | [d1, d2, d3] => { results := [.lit (.bool false)], args := [d1, d2, d3] }
  | _ => none }
def DropinOrdersWrongFalsely : Prop := dropinOrdersRow.holds Try.pinned (OpenSpec.ofChange dropinOrdersWrong)

/-- 'vestibulelaw14.DropinMerges': WHATEVER THE INPUT: true; the input reads as it did. -/
def dropinMergesSpec : ChangeSpec := { name := "dropinMerges", fn := fun _ => fun
  | [d1, d2] => { results := [.lit (.bool true)], args := [d1, d2] }
  | _ => none }
def dropinMergesRow : OpenClaim := { program := "ytkmbahpjioopdaa", sum := "261a092c971be85b02f0142affa942044f95a564b2383803f58aec9146b4a3e5", func := "vestibule/vestibulelaw14.DropinMerges", spec := "dropinMerges", inPlace := ["internal/bytealg.IndexByteString", "internal/bytealg.IndexString"], unfollowed := true, recurses := true, named := ["internal/bytealg.MaxLen"], apart := false }
def DropinMergesSaid : Prop := dropinMergesRow.holds Try.pinned (OpenSpec.ofChange dropinMergesSpec)

/-- ITS FALSE NEIGHBOUR: 'it returns false'. Refute it at one input. -/
def dropinMergesWrong : ChangeSpec := { name := "dropinMerges", fn := fun _ => fun
  | [d1, d2] => { results := [.lit (.bool false)], args := [d1, d2] }
  | _ => none }
def DropinMergesWrongFalsely : Prop := dropinMergesRow.holds Try.pinned (OpenSpec.ofChange dropinMergesWrong)

/-- 'vestibulelaw14.DropinAny': WHATEVER THE INPUT: true; the input reads as it did. -/
def dropinAnySpec : ChangeSpec := { name := "dropinAny", fn := fun _ => fun
  | [d1, d2, d3] => { results := [.lit (.bool true)], args := [d1, d2, d3] }
  | _ => none }
def dropinAnyRow : OpenClaim := { program := "ytkmbahpjioopdaa", sum := "261a092c971be85b02f0142affa942044f95a564b2383803f58aec9146b4a3e5", func := "vestibule/vestibulelaw14.DropinAny", spec := "dropinAny", inPlace := ["internal/bytealg.IndexByteString", "internal/bytealg.IndexString"], unfollowed := true, recurses := true, named := ["internal/bytealg.MaxLen"], apart := false }
def DropinAnySaid : Prop := dropinAnyRow.holds Try.pinned (OpenSpec.ofChange dropinAnySpec)

/-- ITS FALSE NEIGHBOUR: 'it returns false'. Refute it at one input. -/
def dropinAnyWrong : ChangeSpec := { name := "dropinAny", fn := fun _ => fun
  | [d1, d2, d3] => { results := [.lit (.bool false)], args := [d1, d2, d3] }
  | _ => none }
def DropinAnyWrongFalsely : Prop := dropinAnyRow.holds Try.pinned (OpenSpec.ofChange dropinAnyWrong)

/-- 'vestibulelaw14.DropinMasked': WHATEVER THE INPUT: true; the input reads as it did. -/
def dropinMaskedSpec : ChangeSpec := { name := "dropinMasked", fn := fun _ => fun
  | [d1, d2, d3, d4, d5] => { results := [.lit (.bool true)], args := [d1, d2, d3, d4, d5] }
  | _ => none }
def dropinMaskedRow : OpenClaim := { program := "ytkmbahpjioopdaa", sum := "261a092c971be85b02f0142affa942044f95a564b2383803f58aec9146b4a3e5", func := "vestibule/vestibulelaw14.DropinMasked", spec := "dropinMasked", inPlace := ["internal/bytealg.IndexByteString", "internal/bytealg.IndexString"], unfollowed := true, recurses := true, named := ["internal/bytealg.MaxLen"], apart := false }
def DropinMaskedSaid : Prop := dropinMaskedRow.holds Try.pinned (OpenSpec.ofChange dropinMaskedSpec)

/-- ITS FALSE NEIGHBOUR: 'it returns false'. Refute it at one input. -/
def dropinMaskedWrong : ChangeSpec := { name := "dropinMasked", fn := fun _ => fun
  | [d1, d2, d3, d4, d5] => { results := [.lit (.bool false)], args := [d1, d2, d3, d4, d5] }
  | _ => none }
def DropinMaskedWrongFalsely : Prop := dropinMaskedRow.holds Try.pinned (OpenSpec.ofChange dropinMaskedWrong)

/-- 'vestibulelaw14.DropinBehind': WHATEVER THE INPUT: true; the input reads as it did. -/
def dropinBehindSpec : ChangeSpec := { name := "dropinBehind", fn := fun _ => fun
  | [d1, d2] => { results := [.lit (.bool true)], args := [d1, d2] }
  | _ => none }
def dropinBehindRow : OpenClaim := { program := "ytkmbahpjioopdaa", sum := "261a092c971be85b02f0142affa942044f95a564b2383803f58aec9146b4a3e5", func := "vestibule/vestibulelaw14.DropinBehind", spec := "dropinBehind", inPlace := ["internal/bytealg.IndexByteString", "internal/bytealg.IndexString"], unfollowed := true, recurses := true, named := ["internal/bytealg.MaxLen"], apart := false }
def DropinBehindSaid : Prop := dropinBehindRow.holds Try.pinned (OpenSpec.ofChange dropinBehindSpec)

/-- ITS FALSE NEIGHBOUR: 'it returns false'. Refute it at one input. -/
def dropinBehindWrong : ChangeSpec := { name := "dropinBehind", fn := fun _ => fun
  | [d1, d2] => { results := [.lit (.bool false)], args := [d1, d2] }
  | _ => none }
def DropinBehindWrongFalsely : Prop := dropinBehindRow.holds Try.pinned (OpenSpec.ofChange dropinBehindWrong)

/- THE SECOND FORM. 'bulk': how many values and letters a reading holds, each counted each time it is reached (what is shared counts as often as it is met; a slice's spare places count too). A statement '..UptoSaid' is the law's where the arguments, and the package variables that the reading takes, are together of bulk at most 1048576: NARROWER than '..Said'. Prove '..Said' where nothing that the law and all that it calls make is longer than what came in: it says more and counts as full. Else prove '..UptoSaid'. A law counts once. -/
mutual
def uptoBulk {H : Type} : DataW H → Nat
  | .lit (.string bytes) => bytes.length + 1
  | .lit _ => 1
  | .nil => 1
  | .ptr d => uptoBulk d + 1
  | .slice elems spare => uptoBulkAll elems + uptoBulkAll spare + 1
  | .agg parts => uptoBulkAll parts + 1
  | .iface _ d => uptoBulk d + 1
  | .map entries => uptoBulkEntries entries + 1
  | .held _ => 1
def uptoBulkAll {H : Type} : List (DataW H) → Nat
  | [] => 0
  | d :: r => uptoBulk d + uptoBulkAll r
def uptoBulkEntries {H : Type} : List (Lit × DataW H) → Nat
  | [] => 0
  | x :: r => uptoBulkEntry x + uptoBulkEntries r
def uptoBulkEntry {H : Type} : Lit × DataW H → Nat
  | (.string bytes, d) => bytes.length + uptoBulk d + 1
  | (_, d) => uptoBulk d + 1
 end
def uptoSmall : (H : Type) → List (DataW H) → Bool := fun _ ds => decide (uptoBulkAll ds ≤ 1048576)
def OpenSpec.upto (s : _root_.Go.ChangeSpec) : _root_.Go.OpenSpec := { _root_.Go.OpenSpec.ofChange s with cond := some uptoSmall }

/-- 'vestibulelaw14.DropinOrders', WHERE WHAT IT READS IS OF BULK AT MOST 1048576: true; the input reads as it did. -/
def dropinOrdersUptoRow : OpenClaim := { program := "ytkmbahpjioopdaa", sum := "261a092c971be85b02f0142affa942044f95a564b2383803f58aec9146b4a3e5", func := "vestibule/vestibulelaw14.DropinOrders", spec := "dropinOrders", inPlace := ["internal/bytealg.IndexByteString", "internal/bytealg.IndexString"], unfollowed := true, recurses := true, named := ["internal/bytealg.MaxLen"], apart := false, narrowed := true }
def DropinOrdersUptoSaid : Prop := dropinOrdersUptoRow.holds Try.pinned (OpenSpec.upto dropinOrdersSpec)

/-- 'vestibulelaw14.DropinMerges', WHERE WHAT IT READS IS OF BULK AT MOST 1048576: true; the input reads as it did. -/
def dropinMergesUptoRow : OpenClaim := { program := "ytkmbahpjioopdaa", sum := "261a092c971be85b02f0142affa942044f95a564b2383803f58aec9146b4a3e5", func := "vestibule/vestibulelaw14.DropinMerges", spec := "dropinMerges", inPlace := ["internal/bytealg.IndexByteString", "internal/bytealg.IndexString"], unfollowed := true, recurses := true, named := ["internal/bytealg.MaxLen"], apart := false, narrowed := true }
def DropinMergesUptoSaid : Prop := dropinMergesUptoRow.holds Try.pinned (OpenSpec.upto dropinMergesSpec)

/-- 'vestibulelaw14.DropinAny', WHERE WHAT IT READS IS OF BULK AT MOST 1048576: true; the input reads as it did. -/
def dropinAnyUptoRow : OpenClaim := { program := "ytkmbahpjioopdaa", sum := "261a092c971be85b02f0142affa942044f95a564b2383803f58aec9146b4a3e5", func := "vestibule/vestibulelaw14.DropinAny", spec := "dropinAny", inPlace := ["internal/bytealg.IndexByteString", "internal/bytealg.IndexString"], unfollowed := true, recurses := true, named := ["internal/bytealg.MaxLen"], apart := false, narrowed := true }
def DropinAnyUptoSaid : Prop := dropinAnyUptoRow.holds Try.pinned (OpenSpec.upto dropinAnySpec)

/-- 'vestibulelaw14.DropinMasked', WHERE WHAT IT READS IS OF BULK AT MOST 1048576: true; the input reads as it did. -/
def dropinMaskedUptoRow : OpenClaim := { program := "ytkmbahpjioopdaa", sum := "261a092c971be85b02f0142affa942044f95a564b2383803f58aec9146b4a3e5", func := "vestibule/vestibulelaw14.DropinMasked", spec := "dropinMasked", inPlace := ["internal/bytealg.IndexByteString", "internal/bytealg.IndexString"], unfollowed := true, recurses := true, named := ["internal/bytealg.MaxLen"], apart := false, narrowed := true }
def DropinMaskedUptoSaid : Prop := dropinMaskedUptoRow.holds Try.pinned (OpenSpec.upto dropinMaskedSpec)

/-- 'vestibulelaw14.DropinBehind', WHERE WHAT IT READS IS OF BULK AT MOST 1048576: true; the input reads as it did. -/
def dropinBehindUptoRow : OpenClaim := { program := "ytkmbahpjioopdaa", sum := "261a092c971be85b02f0142affa942044f95a564b2383803f58aec9146b4a3e5", func := "vestibule/vestibulelaw14.DropinBehind", spec := "dropinBehind", inPlace := ["internal/bytealg.IndexByteString", "internal/bytealg.IndexString"], unfollowed := true, recurses := true, named := ["internal/bytealg.MaxLen"], apart := false, narrowed := true }
def DropinBehindUptoSaid : Prop := dropinBehindUptoRow.holds Try.pinned (OpenSpec.upto dropinBehindSpec)

end Rows
end Go.Proofs.Ytkmbahpjioopdaa
