/- Layer 7: the walks of the codes' table and of what is asked of it. (Printed by wip/tools/mkasmc.py.) -/
import Derived.Deep.WholeRow
import Derived.Deep.DeepCutAuto
import Derived.Great.BuildSlice
import Derived.Laws.ResultCell
import Derived.Laws.BitsAllLaws
import Derived.Lib.Strings
import Derived.Test.YtbpmokffhmiacaaGreatDoorAsmB
namespace Go.Proofs.YtbpmokffhmiacaaGreatDoor
open Go.RowKit V
attribute [local go_sem] Oper.semAt_some
namespace L07
def enE (e : En) : Value := .agg #[.int .u16 (e.c : Int), .string (str e.nm), .int .u8 (e.cl : Int)]
def entriesV : Array Value := #[.int .u16 32, .string ⟨#[108, 100, 97, 98, 115]⟩, .int .u8 1, .int .u16 128, .string ⟨#[108, 100, 108, 101, 110]⟩, .int .u8 1, .int .u16 0, .string ⟨#[108, 100, 105]⟩, .int .u8 1, .int .u16 96, .string ⟨#[108, 100, 109]⟩, .int .u8 1, .int .u16 129, .string ⟨#[108, 100, 120, 108, 101, 110]⟩, .int .u8 1, .int .u16 1, .string ⟨#[108, 100, 120, 105]⟩, .int .u8 1, .int .u16 97, .string ⟨#[108, 100, 120, 109]⟩, .int .u8 1, .int .u16 2, .string ⟨#[115, 116]⟩, .int .u8 2, .int .u16 3, .string ⟨#[115, 116, 120]⟩, .int .u8 2, .int .u16 4, .string ⟨#[97, 100, 100]⟩, .int .u8 3, .int .u16 20, .string ⟨#[115, 117, 98]⟩, .int .u8 3, .int .u16 36, .string ⟨#[109, 117, 108]⟩, .int .u8 3, .int .u16 52, .string ⟨#[100, 105, 118]⟩, .int .u8 3, .int .u16 68, .string ⟨#[111, 114]⟩, .int .u8 3, .int .u16 84, .string ⟨#[97, 110, 100]⟩, .int .u8 3, .int .u16 100, .string ⟨#[108, 115, 104]⟩, .int .u8 3, .int .u16 116, .string ⟨#[114, 115, 104]⟩, .int .u8 3, .int .u16 164, .string ⟨#[120, 111, 114]⟩, .int .u8 3, .int .u16 12, .string ⟨#[97, 100, 100, 120]⟩, .int .u8 3, .int .u16 28, .string ⟨#[115, 117, 98, 120]⟩, .int .u8 3, .int .u16 44, .string ⟨#[109, 117, 108, 120]⟩, .int .u8 3, .int .u16 60, .string ⟨#[100, 105, 118, 120]⟩, .int .u8 3, .int .u16 76, .string ⟨#[111, 114, 120]⟩, .int .u8 3, .int .u16 92, .string ⟨#[97, 110, 100, 120]⟩, .int .u8 3, .int .u16 108, .string ⟨#[108, 115, 104, 120]⟩, .int .u8 3, .int .u16 124, .string ⟨#[114, 115, 104, 120]⟩, .int .u8 3, .int .u16 172, .string ⟨#[120, 111, 114, 120]⟩, .int .u8 3, .int .u16 132, .string ⟨#[110, 101, 103]⟩, .int .u8 3, .int .u16 5, .string ⟨#[106, 97]⟩, .int .u8 4, .int .u16 21, .string ⟨#[106, 101, 113]⟩, .int .u8 4, .int .u16 37, .string ⟨#[106, 103, 116]⟩, .int .u8 4, .int .u16 53, .string ⟨#[106, 103, 101]⟩, .int .u8 4, .int .u16 69, .string ⟨#[106, 115, 101, 116]⟩, .int .u8 4, .int .u16 29, .string ⟨#[106, 101, 113, 120]⟩, .int .u8 4, .int .u16 45, .string ⟨#[106, 103, 116, 120]⟩, .int .u8 4, .int .u16 61, .string ⟨#[106, 103, 101, 120]⟩, .int .u8 4, .int .u16 77, .string ⟨#[106, 115, 101, 116, 120]⟩, .int .u8 4, .int .u16 6, .string ⟨#[114, 101, 116]⟩, .int .u8 5, .int .u16 22, .string ⟨#[114, 101, 116, 97]⟩, .int .u8 5, .int .u16 7, .string ⟨#[116, 97, 120]⟩, .int .u8 6, .int .u16 135, .string ⟨#[116, 120, 97]⟩, .int .u8 6]
theorem tab_len : tabI.length = 41 := rfl
set_option maxRecDepth 100000 in
theorem entries_ix (i : Nat) (h : i < tabI.length) (W : World) : (Instr.index 97 (.agg entriesV) (.int .i64 (i : Int))).run Tryz.prog W = .ok (enE tabI[i]) W := by
  match i, h with
  | 0, _ => rfl
  | 1, _ => rfl
  | 2, _ => rfl
  | 3, _ => rfl
  | 4, _ => rfl
  | 5, _ => rfl
  | 6, _ => rfl
  | 7, _ => rfl
  | 8, _ => rfl
  | 9, _ => rfl
  | 10, _ => rfl
  | 11, _ => rfl
  | 12, _ => rfl
  | 13, _ => rfl
  | 14, _ => rfl
  | 15, _ => rfl
  | 16, _ => rfl
  | 17, _ => rfl
  | 18, _ => rfl
  | 19, _ => rfl
  | 20, _ => rfl
  | 21, _ => rfl
  | 22, _ => rfl
  | 23, _ => rfl
  | 24, _ => rfl
  | 25, _ => rfl
  | 26, _ => rfl
  | 27, _ => rfl
  | 28, _ => rfl
  | 29, _ => rfl
  | 30, _ => rfl
  | 31, _ => rfl
  | 32, _ => rfl
  | 33, _ => rfl
  | 34, _ => rfl
  | 35, _ => rfl
  | 36, _ => rfl
  | 37, _ => rfl
  | 38, _ => rfl
  | 39, _ => rfl
  | 40, _ => rfl
  | n + 41, h => exact absurd h (by rw [tab_len]; omega)
set_option maxRecDepth 100000 in
set_option maxHeartbeats 4000000 in
theorem entries_calls (w : World) : Calls Tryz.prog 56 #[] w fun e w' => e = .returned (.agg entriesV) ∧ Ext w w' := by
  go_enter Tryz.func56, Tryz.ntmps56
  go_upto_region 1 with fail
  apply wp_region_lit
  refine wpList_buildTo rfl 80 _ rfl (some 1) rfl #[.int .u16 32, .string ⟨#[108, 100, 97, 98, 115]⟩, .int .u8 1] (by as_aux_lemma => kernel_rfl) ?_
  refine wpList_buildTo rfl 80 _ rfl (some 2) rfl #[.int .u16 128, .string ⟨#[108, 100, 108, 101, 110]⟩, .int .u8 1] (by as_aux_lemma => kernel_rfl) ?_
  refine wpList_buildTo rfl 80 _ rfl (some 3) rfl #[.int .u16 0, .string ⟨#[108, 100, 105]⟩, .int .u8 1] (by as_aux_lemma => kernel_rfl) ?_
  refine wpList_buildTo rfl 80 _ rfl (some 4) rfl #[.int .u16 96, .string ⟨#[108, 100, 109]⟩, .int .u8 1] (by as_aux_lemma => kernel_rfl) ?_
  refine wpList_buildTo rfl 80 _ rfl (some 5) rfl #[.int .u16 129, .string ⟨#[108, 100, 120, 108, 101, 110]⟩, .int .u8 1] (by as_aux_lemma => kernel_rfl) ?_
  refine wpList_buildTo rfl 80 _ rfl (some 6) rfl #[.int .u16 1, .string ⟨#[108, 100, 120, 105]⟩, .int .u8 1] (by as_aux_lemma => kernel_rfl) ?_
  refine wpList_buildTo rfl 80 _ rfl (some 7) rfl #[.int .u16 97, .string ⟨#[108, 100, 120, 109]⟩, .int .u8 1] (by as_aux_lemma => kernel_rfl) ?_
  refine wpList_buildTo rfl 80 _ rfl (some 8) rfl #[.int .u16 2, .string ⟨#[115, 116]⟩, .int .u8 2] (by as_aux_lemma => kernel_rfl) ?_
  refine wpList_buildTo rfl 80 _ rfl (some 9) rfl #[.int .u16 3, .string ⟨#[115, 116, 120]⟩, .int .u8 2] (by as_aux_lemma => kernel_rfl) ?_
  refine wpList_buildTo rfl 80 _ rfl (some 10) rfl #[.int .u16 4, .string ⟨#[97, 100, 100]⟩, .int .u8 3] (by as_aux_lemma => kernel_rfl) ?_
  refine wpList_buildTo rfl 80 _ rfl (some 11) rfl #[.int .u16 20, .string ⟨#[115, 117, 98]⟩, .int .u8 3] (by as_aux_lemma => kernel_rfl) ?_
  refine wpList_buildTo rfl 80 _ rfl (some 12) rfl #[.int .u16 36, .string ⟨#[109, 117, 108]⟩, .int .u8 3] (by as_aux_lemma => kernel_rfl) ?_
  refine wpList_buildTo rfl 80 _ rfl (some 13) rfl #[.int .u16 52, .string ⟨#[100, 105, 118]⟩, .int .u8 3] (by as_aux_lemma => kernel_rfl) ?_
  refine wpList_buildTo rfl 80 _ rfl (some 14) rfl #[.int .u16 68, .string ⟨#[111, 114]⟩, .int .u8 3] (by as_aux_lemma => kernel_rfl) ?_
  refine wpList_buildTo rfl 80 _ rfl (some 15) rfl #[.int .u16 84, .string ⟨#[97, 110, 100]⟩, .int .u8 3] (by as_aux_lemma => kernel_rfl) ?_
  refine wpList_buildTo rfl 80 _ rfl (some 16) rfl #[.int .u16 100, .string ⟨#[108, 115, 104]⟩, .int .u8 3] (by as_aux_lemma => kernel_rfl) ?_
  refine wpList_buildTo rfl 80 _ rfl (some 17) rfl #[.int .u16 116, .string ⟨#[114, 115, 104]⟩, .int .u8 3] (by as_aux_lemma => kernel_rfl) ?_
  refine wpList_buildTo rfl 80 _ rfl (some 18) rfl #[.int .u16 164, .string ⟨#[120, 111, 114]⟩, .int .u8 3] (by as_aux_lemma => kernel_rfl) ?_
  refine wpList_buildTo rfl 80 _ rfl (some 19) rfl #[.int .u16 12, .string ⟨#[97, 100, 100, 120]⟩, .int .u8 3] (by as_aux_lemma => kernel_rfl) ?_
  refine wpList_buildTo rfl 80 _ rfl (some 20) rfl #[.int .u16 28, .string ⟨#[115, 117, 98, 120]⟩, .int .u8 3] (by as_aux_lemma => kernel_rfl) ?_
  refine wpList_buildTo rfl 80 _ rfl (some 21) rfl #[.int .u16 44, .string ⟨#[109, 117, 108, 120]⟩, .int .u8 3] (by as_aux_lemma => kernel_rfl) ?_
  refine wpList_buildTo rfl 80 _ rfl (some 22) rfl #[.int .u16 60, .string ⟨#[100, 105, 118, 120]⟩, .int .u8 3] (by as_aux_lemma => kernel_rfl) ?_
  refine wpList_buildTo rfl 80 _ rfl (some 23) rfl #[.int .u16 76, .string ⟨#[111, 114, 120]⟩, .int .u8 3] (by as_aux_lemma => kernel_rfl) ?_
  refine wpList_buildTo rfl 80 _ rfl (some 24) rfl #[.int .u16 92, .string ⟨#[97, 110, 100, 120]⟩, .int .u8 3] (by as_aux_lemma => kernel_rfl) ?_
  refine wpList_buildTo rfl 80 _ rfl (some 25) rfl #[.int .u16 108, .string ⟨#[108, 115, 104, 120]⟩, .int .u8 3] (by as_aux_lemma => kernel_rfl) ?_
  refine wpList_buildTo rfl 80 _ rfl (some 26) rfl #[.int .u16 124, .string ⟨#[114, 115, 104, 120]⟩, .int .u8 3] (by as_aux_lemma => kernel_rfl) ?_
  refine wpList_buildTo rfl 80 _ rfl (some 27) rfl #[.int .u16 172, .string ⟨#[120, 111, 114, 120]⟩, .int .u8 3] (by as_aux_lemma => kernel_rfl) ?_
  refine wpList_buildTo rfl 80 _ rfl (some 28) rfl #[.int .u16 132, .string ⟨#[110, 101, 103]⟩, .int .u8 3] (by as_aux_lemma => kernel_rfl) ?_
  refine wpList_buildTo rfl 80 _ rfl (some 29) rfl #[.int .u16 5, .string ⟨#[106, 97]⟩, .int .u8 4] (by as_aux_lemma => kernel_rfl) ?_
  refine wpList_buildTo rfl 80 _ rfl (some 30) rfl #[.int .u16 21, .string ⟨#[106, 101, 113]⟩, .int .u8 4] (by as_aux_lemma => kernel_rfl) ?_
  refine wpList_buildTo rfl 80 _ rfl (some 31) rfl #[.int .u16 37, .string ⟨#[106, 103, 116]⟩, .int .u8 4] (by as_aux_lemma => kernel_rfl) ?_
  refine wpList_buildTo rfl 80 _ rfl (some 32) rfl #[.int .u16 53, .string ⟨#[106, 103, 101]⟩, .int .u8 4] (by as_aux_lemma => kernel_rfl) ?_
  refine wpList_buildTo rfl 80 _ rfl (some 33) rfl #[.int .u16 69, .string ⟨#[106, 115, 101, 116]⟩, .int .u8 4] (by as_aux_lemma => kernel_rfl) ?_
  refine wpList_buildTo rfl 80 _ rfl (some 34) rfl #[.int .u16 29, .string ⟨#[106, 101, 113, 120]⟩, .int .u8 4] (by as_aux_lemma => kernel_rfl) ?_
  refine wpList_buildTo rfl 80 _ rfl (some 35) rfl #[.int .u16 45, .string ⟨#[106, 103, 116, 120]⟩, .int .u8 4] (by as_aux_lemma => kernel_rfl) ?_
  refine wpList_buildTo rfl 80 _ rfl (some 36) rfl #[.int .u16 61, .string ⟨#[106, 103, 101, 120]⟩, .int .u8 4] (by as_aux_lemma => kernel_rfl) ?_
  refine wpList_buildTo rfl 80 _ rfl (some 37) rfl #[.int .u16 77, .string ⟨#[106, 115, 101, 116, 120]⟩, .int .u8 4] (by as_aux_lemma => kernel_rfl) ?_
  refine wpList_buildTo rfl 80 _ rfl (some 38) rfl #[.int .u16 6, .string ⟨#[114, 101, 116]⟩, .int .u8 5] (by as_aux_lemma => kernel_rfl) ?_
  refine wpList_buildTo rfl 80 _ rfl (some 39) rfl #[.int .u16 22, .string ⟨#[114, 101, 116, 97]⟩, .int .u8 5] (by as_aux_lemma => kernel_rfl) ?_
  refine wpList_buildTo rfl 80 _ rfl (some 40) rfl #[.int .u16 7, .string ⟨#[116, 97, 120]⟩, .int .u8 6] (by as_aux_lemma => kernel_rfl) ?_
  refine wpList_buildTo rfl 80 _ rfl (some 41) rfl #[.int .u16 135, .string ⟨#[116, 120, 97]⟩, .int .u8 6] (by as_aux_lemma => kernel_rfl) ?_
  refine wpList_buildTo rfl 97 _ rfl (some 42) rfl entriesV (by as_aux_lemma => kernel_rfl) ?_
  refine wpList_store_rowTo rfl 97 _ _ rfl rfl w.heap.size entriesV (by as_aux_lemma => kernel_rfl) (by as_aux_lemma => kernel_rfl) 97 _ (heap_alloc_last w _) (by kernel_rfl) (by kernel_rfl) (by kernel_rfl) ?_
  rw [World.setRow_alloc_new]
  apply wpList_nil
  rename_i hK
  refine hK _ _ ?_
  have key : ∀ A : Act, A.tmps.getD 0 undef = .pointer (some ⟨w.heap.size, 0, none⟩) → A.defers = [] → Code.wp Tryz.prog Code.ret (bodyPost Tryz.prog Tryz.f56 fun e w' => e = .returned (.agg entriesV) ∧ Ext w w') A (w.alloc (.cells entriesV 97)) := by
    intro A h0 hd
    go_wp2_with fail
    exact bodyPost_ret (v := .agg entriesV) (results_cell_row Tryz.results56 _ _ _ _ _ _ _ h0 (heap_alloc_last w _) Tryz.underlying97 rfl (by kernel_rfl)) hd ⟨rfl, (Ext.refl _).alloc _⟩
  exact key _ (by as_aux_lemma => kernel_rfl) (by as_aux_lemma => kernel_rfl)
theorem blk3 {w w1 : World} {a b c : Value} {t : TypeId} (hx : Ext (w.alloc (.cells #[a, b, c] t)) w1) :
    w1.cell? ⟨w.heap.size, 0, none⟩ = some a ∧ w1.cell? ⟨w.heap.size, 1, none⟩ = some b ∧ w1.cell? ⟨w.heap.size, 2, none⟩ = some c ∧
    w1.frozen? ⟨w.heap.size, 0, none⟩ = false ∧ w1.frozen? ⟨w.heap.size, 1, none⟩ = false ∧ w1.frozen? ⟨w.heap.size, 2, none⟩ = false ∧ w.heap.size < w1.heap.size := by
  have hb : w1.heap[w.heap.size]? = some (.cells #[a, b, c] t (0, 0)) := (hx.block (by simp)).trans (heap_alloc_new w _)
  refine ⟨by simp [World.cell?, hb], by simp [World.cell?, hb], by simp [World.cell?, hb], by simp [World.frozen?, hb], by simp [World.frozen?, hb], by simp [World.frozen?, hb], (Array.getElem?_eq_some_iff.1 hb).1⟩
theorem set3 {w1 : World} {B : Nat} {a b c : Value} (x y z : Value) (c0 : w1.cell? ⟨B, 0, none⟩ = some a) (c1 : w1.cell? ⟨B, 1, none⟩ = some b) (c2 : w1.cell? ⟨B, 2, none⟩ = some c) :
    (((w1.setCell ⟨B, 0, none⟩ x).setCell ⟨B, 1, none⟩ y).setCell ⟨B, 2, none⟩ z).cell? ⟨B, 0, none⟩ = some x ∧ (((w1.setCell ⟨B, 0, none⟩ x).setCell ⟨B, 1, none⟩ y).setCell ⟨B, 2, none⟩ z).cell? ⟨B, 1, none⟩ = some y ∧ (((w1.setCell ⟨B, 0, none⟩ x).setCell ⟨B, 1, none⟩ y).setCell ⟨B, 2, none⟩ z).cell? ⟨B, 2, none⟩ = some z := by
  refine ⟨?_, ?_, ?_⟩
  · rw [World.cell?_setCell_other _ ⟨B, 2, none⟩ ⟨B, 0, none⟩ _ (fun e => by cases e), World.cell?_setCell_other _ ⟨B, 1, none⟩ ⟨B, 0, none⟩ _ (fun e => by cases e), World.cell?_setCell_same _ _ _ c0]
  · rw [World.cell?_setCell_other _ ⟨B, 2, none⟩ ⟨B, 1, none⟩ _ (fun e => by cases e)]
    exact World.cell?_setCell_same _ _ _ ((World.cell?_setCell_other _ ⟨B, 0, none⟩ ⟨B, 1, none⟩ _ (fun e => by cases e)).trans c1)
  · exact World.cell?_setCell_same _ _ _ ((World.cell?_setCell_other _ ⟨B, 1, none⟩ ⟨B, 2, none⟩ _ (fun e => by cases e)).trans ((World.cell?_setCell_other _ ⟨B, 0, none⟩ ⟨B, 2, none⟩ _ (fun e => by cases e)).trans c2))
theorem load3 {W : World} {B : Nat} {x y z : Value} {t : TypeId} (hz : (Tryz.prog.info? t).map (·.size) = some 3) (hu : ∃ fs, Tryz.prog.underlying t = some (.struct fs)) (c0 : W.cell? ⟨B, 0, none⟩ = some x) (c1 : W.cell? ⟨B, 1, none⟩ = some y) (c2 : W.cell? ⟨B, 2, none⟩ = some z) :
    (loadVar t ⟨B, 0, none⟩).run Tryz.prog W = .ok (.agg #[x, y, z]) W := by
  obtain ⟨fs, hu⟩ := hu
  cases hq : Tryz.prog.info? t with
  | none => simp [hq] at hz
  | some i =>
    simp [hq] at hz
    simp [loadVar, isAgg, sizeOf, typeInfo, underlying, hq, hz, hu, loadCells, loadCellsFrom, go_sem, c0, c1, c2]
theorem frozen_ext {w w1 : World} {a : Addr} (hx : Ext w w1) (hl : a.block < w.heap.size) (h : w.frozen? a = false) : w1.frozen? a = false := (World.frozen?_of_block (hx.block hl)).trans h
set_option maxRecDepth 100000 in
theorem cell_end {fn : Func} {T : TypeId} {w W : World} {A : Act} {B : Nat} {x y z a b c v : Value} {Q : Ending → World → Prop} (hr : fn.results = #[.cell 2 T, .tmp 3]) (hz : (Tryz.prog.info? T).map (·.size) = some 3) (hu : ∃ fs, Tryz.prog.underlying T = some (.struct fs))
    (h2 : A.tmps.getD 2 undef = .pointer (some ⟨B, 0, none⟩)) (h3 : A.tmps.getD 3 undef = v) (hd : A.defers = []) (c0 : W.cell? ⟨B, 0, none⟩ = some a) (c1 : W.cell? ⟨B, 1, none⟩ = some b) (c2 : W.cell? ⟨B, 2, none⟩ = some c) (hE : Ext w W) (hB : w.heap.size ≤ B)
    (hQ : ∀ W', Ext w W' → Q (.returned (.tuple #[.agg #[x, y, z], v])) W') :
    bodyPost Tryz.prog fn Q .ret A (((W.setCell ⟨B, 0, none⟩ x).setCell ⟨B, 1, none⟩ y).setCell ⟨B, 2, none⟩ z) := by
  obtain ⟨s0, s1, s2⟩ := set3 x y z c0 c1 c2
  refine bodyPost_ret (v := .tuple #[.agg #[x, y, z], v]) ?_ hd (hQ _ (((hE.setCell hB _).setCell hB _).setCell hB _))
  rw [results_cell_tmp hr, h2, h3]
  show (((loadVar T ⟨B, 0, none⟩).run Tryz.prog _).andThen _) = _
  rw [load3 hz hu s0 s1 s2]
  rfl
theorem find_at {α : Type} {p : α → Bool} : ∀ {l : List α} {i : Nat} (h : i < l.length), (∀ (j : Nat) (hj : j < l.length), j < i → p l[j] = false) → p l[i] = true → l.find? p = some l[i]
  | x :: r, 0, _, _, hp => by
    simp at hp
    simp [List.find?, hp]
  | x :: r, i + 1, h, hn, hp => by
    have h0 : p x = false := hn 0 (by simp) (by omega)
    have := find_at (p := p) (l := r) (i := i) (Nat.lt_of_succ_lt_succ h) (fun j hj hji => hn (j + 1) (Nat.succ_lt_succ hj) (by omega)) hp
    simp [List.find?, h0, this]
theorem find_no {α : Type} {p : α → Bool} {l : List α} (h : ∀ (j : Nat) (hj : j < l.length), p l[j] = false) : l.find? p = none := by
  rw [List.find?_eq_none]
  intro x hx
  obtain ⟨j, hj, rfl⟩ := List.getElem_of_mem hx
  rw [h j hj]; simp
theorem str_beq (t s : ByteArray) : (t.toList == s.toList) = (bytes t == bytes s) := by rw [Lib.toList_data, Lib.toList_data]; rfl
theorem by1_calls (e : En) (code Bc : Nat) (w : World) (hB : w.cell? ⟨Bc, 0, none⟩ = some (.int .u16 (code : Int))) :
    Calls Tryz.prog 72 #[enE e, .pointer (some ⟨Bc, 0, none⟩)] w fun r w' => r = .returned (.bool (e.c == code)) ∧ Ext w w' := by
  have hlt : Bc < w.heap.size := World.block_lt_of_cell? _ _ hB
  have hq : ((e.c : Int) == (code : Int)) = (e.c == code) := by rw [Bool.eq_iff_iff]; simp; omega
  obtain ⟨c, nm, cl⟩ := e
  unfold enE
  dsimp only at *
  cases he : c == code
  all_goals
    rw [he] at hq
    have Hhe := Lib.hid he
    clear he
    generalize str nm = sn at *
    go_enter Tryz.func72, Tryz.ntmps72
    go_wp2_with fail
    go_ret
    exact ⟨rfl, (Ext.refl _).alloc _⟩
theorem code1_calls (e : En) (s : ByteArray) (Bc : Nat) (w : World) (hB : w.cell? ⟨Bc, 0, none⟩ = some (.string s)) :
    Calls Tryz.prog 39 #[enE e, .pointer (some ⟨Bc, 0, none⟩)] w fun r w' => r = .returned (.bool (e.nm == bytes s)) ∧ Ext w w' := by
  have hlt : Bc < w.heap.size := World.block_lt_of_cell? _ _ hB
  have hq := str_beq (str e.nm) s
  rw [bytes_str] at hq
  obtain ⟨c, nm, cl⟩ := e
  unfold enE
  dsimp only at *
  cases he : nm == bytes s
  all_goals
    rw [he] at hq
    have Hhe := Lib.hid he
    clear he
    generalize str nm = sn at *
    go_enter Tryz.func39, Tryz.ntmps39
    go_wp2_with fail
    go_ret
    exact ⟨rfl, (Ext.refl _).alloc _⟩
set_option maxRecDepth 100000 in
set_option maxHeartbeats 4000000 in
theorem findC_calls (code : Nat) (Bc : Nat) (w : World) (hB : w.cell? ⟨Bc, 0, none⟩ = some (.int .u16 (code : Int))) :
    Calls Tryz.prog 38 #[.func (.func 72) #[] #[.pointer (some ⟨Bc, 0, none⟩)]] w fun r w' => r = .returned (.tuple #[enE ((tabI.find? (fun e => e.c == code)).getD none7), .bool (tabI.find? (fun e => e.c == code)).isSome]) ∧ Ext w w' := by
  obtain ⟨R, hR⟩ : ∃ R, R = tabI.find? (fun e => e.c == code) := ⟨_, rfl⟩
  rw [← hR]
  have HR := Lib.hid hR
  have HB := Lib.hid hB
  clear hR hB
  go_enter Tryz.func38, Tryz.ntmps38
  go_wp2_with fail
  refine (entries_calls _).mono ?_
  rintro r w1 ⟨rfl, hx1⟩
  have HX1 := Lib.hid hx1
  clear hx1
  generalize hW0 : w.alloc (.cells #[.int .u16 0, .string ⟨#[]⟩, .int .u8 0] 80) = W0 at *
  have HW0 := Lib.hid hW0
  clear hW0
  go_wp2_with fail
  go_loopw [7] (fun i wr => ∃ k : Nat, k ≤ 41 ∧ i = .int .i64 (k : Int) ∧ Ext W0 wr ∧ ∀ (j : Nat) (hj : j < tabI.length), j < k → (fun e : En => e.c == code) tabI[j] = false) (fun i _ => 41 - (intOf i).toNat)
  case atStart => exact ⟨0, by omega, rfl, HX1.out, fun j _ h => by omega⟩
  case round =>
    obtain ⟨k, hk, rfl, hx, hno⟩ := hrel
    have HX := Lib.hid hx
    have HNO := Lib.hid hno
    clear hno hx
    have hxw : Ext w wr := by
      have h1 : Ext w W0 := by rw [← HW0.out]; exact (Ext.refl _).alloc _
      exact h1.trans HX.out
    have hxa : Ext (w.alloc (.cells #[.int .u16 0, .string ⟨#[]⟩, .int .u8 0] 80)) wr := by rw [HW0.out]; exact HX.out
    have HXW := Lib.hid hxw
    have HXA := Lib.hid hxa
    clear hxw hxa
    by_cases hlt : k < 41
    · have hlt2 : k < tabI.length := hlt
      have hix := fun W => entries_ix k hlt2 W
      have hat : (fun e : En => e.c == code) tabI[k] = true → R = some tabI[k] := fun h => by rw [HR.out]; exact find_at hlt2 HNO.out h
      have hnx : (fun e : En => e.c == code) tabI[k] = false → ∀ (j : Nat) (hj : j < tabI.length), j < k + 1 → (fun e : En => e.c == code) tabI[j] = false := fun hf j hj h => by
        by_cases e : j = k
        · subst e; exact hf
        · exact HNO.out j hj (by omega)
      generalize tabI[k] = e at *
      have hK := fun W (h : Ext w W) => by1_calls e code Bc W (h.cell HB.out)
      dsimp only at *
      have HAT := Lib.hid hat
      have HNX := Lib.hid hnx
      clear hat hnx
      have hx2 : ∀ o, Ext w (wr.alloc o) := fun o => HXW.out.alloc o
      have HX2 := Lib.hid hx2
      clear hx2
      cases hp : e.c == code
      · rw [hp] at hK
        have HNX2 := Lib.hid (HNX.out hp)
        have HK := Lib.hid hK
        clear hp hK
        obtain ⟨c, nm, cl⟩ := e
        unfold enE at hix HK
        dsimp only at hix HK
        generalize str nm = sn at *
        generalize entriesV = EV at *
        go_wp2_with fail
        refine (HK.out _ (HX2.out _)).mono ?_
        rintro r w3 ⟨rfl, hx3⟩
        have HX3 := Lib.hid ((HX.out.alloc _).trans hx3)
        clear hx3
        go_wp2_with fail
        go_roundw
        case rel => exact ⟨k + 1, by omega, by go_num, HX3.out, HNX2.out⟩
        case measure => simp [intOf]; omega
      · rw [hp] at hK
        have hRe := HAT.out hp
        subst hRe
        have HK := Lib.hid hK
        clear hp hK
        obtain ⟨c, nm, cl⟩ := e
        unfold enE at hix HK
        dsimp only at hix HK
        generalize entriesV = EV at *
        go_wp2_with fail
        refine (HK.out _ (HX2.out _)).mono ?_
        rintro r w3 ⟨rfl, hx3⟩
        obtain ⟨e0, e1, e2, -, -, -, -⟩ := blk3 hx3
        obtain ⟨c0, c1, c2, f0, f1, f2, -⟩ := blk3 ((HXA.out.alloc _).trans hx3)
        have HX3 := Lib.hid ((HXW.out.alloc _).trans hx3)
        clear hx3
        go_wp2_with fail
        exact cell_end Tryz.results38 (by kernel_rfl) ⟨_, Tryz.underlying80⟩ rfl rfl rfl c0 c1 c2 HX3.out (Nat.le_refl _) (fun W' h => ⟨rfl, h⟩)
    · obtain rfl : k = 41 := by omega
      have hR0 : R = none := by rw [HR.out]; exact find_no (fun j hj => HNO.out j hj hj)
      subst hR0
      obtain ⟨c0, c1, c2, f0, f1, f2, -⟩ := blk3 HXA.out
      go_wp2_with fail
      exact cell_end Tryz.results38 (by kernel_rfl) ⟨_, Tryz.underlying80⟩ rfl rfl rfl c0 c1 c2 HXW.out (Nat.le_refl _) (fun W' h => ⟨rfl, h⟩)
set_option maxRecDepth 100000 in
set_option maxHeartbeats 4000000 in
theorem findN_calls (s : ByteArray) (Bc : Nat) (w : World) (hB : w.cell? ⟨Bc, 0, none⟩ = some (.string s)) :
    Calls Tryz.prog 38 #[.func (.func 39) #[] #[.pointer (some ⟨Bc, 0, none⟩)]] w fun r w' => r = .returned (.tuple #[enE ((tabI.find? (fun e => e.nm == bytes s)).getD none7), .bool (tabI.find? (fun e => e.nm == bytes s)).isSome]) ∧ Ext w w' := by
  obtain ⟨R, hR⟩ : ∃ R, R = tabI.find? (fun e => e.nm == bytes s) := ⟨_, rfl⟩
  rw [← hR]
  have HR := Lib.hid hR
  have HB := Lib.hid hB
  clear hR hB
  go_enter Tryz.func38, Tryz.ntmps38
  go_wp2_with fail
  refine (entries_calls _).mono ?_
  rintro r w1 ⟨rfl, hx1⟩
  have HX1 := Lib.hid hx1
  clear hx1
  generalize hW0 : w.alloc (.cells #[.int .u16 0, .string ⟨#[]⟩, .int .u8 0] 80) = W0 at *
  have HW0 := Lib.hid hW0
  clear hW0
  go_wp2_with fail
  go_loopw [7] (fun i wr => ∃ k : Nat, k ≤ 41 ∧ i = .int .i64 (k : Int) ∧ Ext W0 wr ∧ ∀ (j : Nat) (hj : j < tabI.length), j < k → (fun e : En => e.nm == bytes s) tabI[j] = false) (fun i _ => 41 - (intOf i).toNat)
  case atStart => exact ⟨0, by omega, rfl, HX1.out, fun j _ h => by omega⟩
  case round =>
    obtain ⟨k, hk, rfl, hx, hno⟩ := hrel
    have HX := Lib.hid hx
    have HNO := Lib.hid hno
    clear hno hx
    have hxw : Ext w wr := by
      have h1 : Ext w W0 := by rw [← HW0.out]; exact (Ext.refl _).alloc _
      exact h1.trans HX.out
    have hxa : Ext (w.alloc (.cells #[.int .u16 0, .string ⟨#[]⟩, .int .u8 0] 80)) wr := by rw [HW0.out]; exact HX.out
    have HXW := Lib.hid hxw
    have HXA := Lib.hid hxa
    clear hxw hxa
    by_cases hlt : k < 41
    · have hlt2 : k < tabI.length := hlt
      have hix := fun W => entries_ix k hlt2 W
      have hat : (fun e : En => e.nm == bytes s) tabI[k] = true → R = some tabI[k] := fun h => by rw [HR.out]; exact find_at hlt2 HNO.out h
      have hnx : (fun e : En => e.nm == bytes s) tabI[k] = false → ∀ (j : Nat) (hj : j < tabI.length), j < k + 1 → (fun e : En => e.nm == bytes s) tabI[j] = false := fun hf j hj h => by
        by_cases e : j = k
        · subst e; exact hf
        · exact HNO.out j hj (by omega)
      generalize tabI[k] = e at *
      have hK := fun W (h : Ext w W) => code1_calls e s Bc W (h.cell HB.out)
      dsimp only at *
      have HAT := Lib.hid hat
      have HNX := Lib.hid hnx
      clear hat hnx
      have hx2 : ∀ o, Ext w (wr.alloc o) := fun o => HXW.out.alloc o
      have HX2 := Lib.hid hx2
      clear hx2
      cases hp : e.nm == bytes s
      · rw [hp] at hK
        have HNX2 := Lib.hid (HNX.out hp)
        have HK := Lib.hid hK
        clear hp hK
        obtain ⟨c, nm, cl⟩ := e
        unfold enE at hix HK
        dsimp only at hix HK
        generalize str nm = sn at *
        generalize entriesV = EV at *
        go_wp2_with fail
        refine (HK.out _ (HX2.out _)).mono ?_
        rintro r w3 ⟨rfl, hx3⟩
        have HX3 := Lib.hid ((HX.out.alloc _).trans hx3)
        clear hx3
        go_wp2_with fail
        go_roundw
        case rel => exact ⟨k + 1, by omega, by go_num, HX3.out, HNX2.out⟩
        case measure => simp [intOf]; omega
      · rw [hp] at hK
        have hRe := HAT.out hp
        subst hRe
        have HK := Lib.hid hK
        clear hp hK
        obtain ⟨c, nm, cl⟩ := e
        unfold enE at hix HK
        dsimp only at hix HK
        generalize entriesV = EV at *
        go_wp2_with fail
        refine (HK.out _ (HX2.out _)).mono ?_
        rintro r w3 ⟨rfl, hx3⟩
        obtain ⟨e0, e1, e2, -, -, -, -⟩ := blk3 hx3
        obtain ⟨c0, c1, c2, f0, f1, f2, -⟩ := blk3 ((HXA.out.alloc _).trans hx3)
        have HX3 := Lib.hid ((HXW.out.alloc _).trans hx3)
        clear hx3
        go_wp2_with fail
        exact cell_end Tryz.results38 (by kernel_rfl) ⟨_, Tryz.underlying80⟩ rfl rfl rfl c0 c1 c2 HX3.out (Nat.le_refl _) (fun W' h => ⟨rfl, h⟩)
    · obtain rfl : k = 41 := by omega
      have hR0 : R = none := by rw [HR.out]; exact find_no (fun j hj => HNO.out j hj hj)
      subst hR0
      obtain ⟨c0, c1, c2, f0, f1, f2, -⟩ := blk3 HXA.out
      go_wp2_with fail
      exact cell_end Tryz.results38 (by kernel_rfl) ⟨_, Tryz.underlying80⟩ rfl rfl rfl c0 c1 c2 HXW.out (Nat.le_refl _) (fun W' h => ⟨rfl, h⟩)
end L07
end Go.Proofs.YtbpmokffhmiacaaGreatDoor
