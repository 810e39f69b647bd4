/- Layer 7: what the rows' lists and the shape of the world give the walks that read texts. -/
import Derived.Lay
import Derived.Test.YtbpmokffhmiacaaGreatDoorLaidS
import Derived.Test.YtbpmokffhmiacaaGreatDoorAsmR0
import Derived.Test.YtbpmokffhmiacaaGreatDoorAtA
namespace Go.Proofs.YtbpmokffhmiacaaGreatDoor
open Go.RowKit Go.Shelf Go.Sort Go.ChangeShapes Go.WideShapes Go.ChangeAt V
namespace L7B
def laidL : List (String × DataW Unit) := [("math/bits.deBruijn32tab", Rows.laid_math_bits_deBruijn32tab), ("math/bits.deBruijn64tab", Rows.laid_math_bits_deBruijn64tab), ("internal/strconv.uint64pow10", Rows.laid_internal_strconv_uint64pow10), ("unicode/utf8.acceptRanges", Rows.laid_unicode_utf8_acceptRanges), ("strconv.ErrRange", Rows.laid_strconv_ErrRange), ("strconv.ErrSyntax", Rows.laid_strconv_ErrSyntax), ("unicode/utf8.first", Rows.laid_unicode_utf8_first)]
theorem door_met (os : Os) (args : Array Value) : laidMetH Tryz.prog laidL ((World.laidAll Tryz.prog os laidL).forCall (fun _ _ => 0) ⟨#[], args, []⟩).memory := by
  rw [MakeChecks.laidMetH_plain _ _ _ (by kernel_rfl)]
  exact laidMet_laidAll _ (by kernel_rfl) (by kernel_rfl)
theorem gES : Tryz.prog.globalNamed "strconv.ErrSyntax" = some 1 := by kernel_rfl
theorem tES : (Tryz.prog.globals[1]?).map (·.type) = some 71 := by kernel_rfl
theorem gER : Tryz.prog.globalNamed "strconv.ErrRange" = some 2 := by kernel_rfl
theorem tER : (Tryz.prog.globals[2]?).map (·.type) = some 71 := by kernel_rfl
theorem star : "*" ++ "errors.errorString" = "*errors.errorString" := by decide
theorem rowE (u : TypeId) (h : Tryz.prog.typeName? 3 u = some "*errors.errorString") : u = 138 :=
  typeName_ptr_named (nm := "errors.errorString") (by rw [star]; kernel_rfl) (by kernel_rfl) (by decide) u (by rw [star]; exact h)
theorem cellsE : Tryz.prog.cellsOf 140 = 1 := by kernel_rfl
theorem cellsS : Tryz.prog.cellsOf 9 = 1 := by kernel_rfl
theorem max_of (w : World) (h : w.ShapedOpen Tryz.prog) : ∃ m, w.cell? ⟨0, 0, none⟩ = some (.int .i64 m) :=
  Go.Proofs.cell_of_shapedOpen_int (zero := #[.int .i64 0]) (t := 3) h (of_decide_eq_true (by kernel_rfl)) (by kernel_rfl) rfl (by kernel_rfl) (by kernel_rfl) Tryz.underlying3
theorem tab_of {W : World} (h : laidMetH Tryz.prog laidL W) (hs : W.ShapedOpen Tryz.prog) : L07.Tb W := by
  rw [MakeChecks.laidMetH_plain _ _ _ (by kernel_rfl)] at h
  unfold laidL at h
  have h2 := h.tail.tail
  have h4 := h2.tail.tail
  have h5 := h4.tail
  rw [L07.pow_eq] at h2
  refine ⟨Lib.tabIs_of_head L07.gPow L07.tPow Tryz.underlying129 Tryz.underlying85 (by kernel_rfl) (by kernel_rfl) h2, ?_, ?_, max_of W hs⟩
  · obtain ⟨a0, s0, hv0, -, -, -⟩ := laid_sentinel h5 gES tES Tryz.underlying71 rowE Tryz.underlying138 Tryz.underlying140 rfl rfl Tryz.underlying9 cellsE cellsS
    exact ⟨_, _, hv0⟩
  · obtain ⟨a0, s0, hv0, -, -, -⟩ := laid_sentinel h4 gER tER Tryz.underlying71 rowE Tryz.underlying138 Tryz.underlying140 rfl rfl Tryz.underlying9 cellsE cellsS
    exact ⟨_, _, hv0⟩
end L7B
end Go.Proofs.YtbpmokffhmiacaaGreatDoor
