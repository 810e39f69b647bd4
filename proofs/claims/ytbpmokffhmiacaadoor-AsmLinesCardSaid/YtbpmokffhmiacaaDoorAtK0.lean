/- Layer 7: the chapter's examples (plain). -/
import Derived.Test.YtbpmokffhmiacaaDoorAtI
namespace Go.Proofs.YtbpmokffhmiacaaDoor
open Go.RowKit Go.Shelf Go.Sort V
namespace L07
def exA : List In := [⟨32, 0, 0, 4⟩, ⟨21, 0, 1, 5⟩, ⟨6, 0, 0, 7⟩, ⟨6, 0, 0, 0⟩]
def exB : List In := [⟨7, 0, 0, 0⟩, ⟨132, 0, 0, 0⟩]
theorem exA_can : canL exA = true := by decide +kernel
theorem exA_text : textL exA = [108, 100, 97, 98, 115, 32, 52, 10, 106, 101, 113, 32, 53, 32, 76, 50, 32, 76, 51, 10, 76, 50, 58, 10, 114, 101, 116, 32, 55, 10, 76, 51, 58, 10, 114, 101, 116, 32, 48, 10] := by decide +kernel
theorem exB_can : canL exB = true := by decide +kernel
theorem exB_text : textL exB = [116, 97, 120, 10, 110, 101, 103, 10] := by decide +kernel
theorem exC : parseA [114, 101, 116, 32, 49, 10] = some [⟨6, 0, 0, 1⟩] := by decide +kernel
theorem exD : parseA [114, 101, 116, 32, 48, 55, 10] = none := by decide +kernel
theorem exE : parseA [106, 97, 32, 76, 48, 10] = none := by decide +kernel
theorem exF : parseA [114, 101, 116, 32, 52, 50, 57, 52, 57, 54, 55, 50, 57, 54, 10] = none := by decide +kernel
theorem exG : parseA [114, 101, 116, 32, 49] = none := by decide +kernel
end L07
end Go.Proofs.YtbpmokffhmiacaaDoor
