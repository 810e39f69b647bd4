/- Layer 10: the tables, and the walks of the functions that hand them out. (Printed by wip/tools/mknames.py.) -/
import Derived.Deep.WholeRow
import Derived.Deep.DeepCutAuto
import Derived.Great.BuildSlice
import Derived.Test.YtojlpocpcakcbaaDoorApp
namespace Go.Proofs.YtojlpocpcakcbaaDoor
open Go.RowKit V
namespace L10
/-- a name with its number -/
abbrev Nm := List UInt8 × Nat
def bytes (s : ByteArray) : List UInt8 := s.data.toList
def str (l : List UInt8) : ByteArray := ⟨l.toArray⟩
theorem bytes_len (s : ByteArray) : (bytes s).length = s.size := rfl
theorem str_size (l : List UInt8) : (str l).size = l.length := rfl
theorem bytes_inj {s t : ByteArray} (h : bytes s = bytes t) : s = t := by
  cases s; cases t; simp only [bytes] at h; congr; exact Array.toList_inj.1 h
theorem bytes_str (l : List UInt8) : bytes (str l) = l := by simp [bytes, str]
theorem str_bytes (s : ByteArray) : str (bytes s) = s := bytes_inj (bytes_str _)
def encW (x : Nm) : List Value := [.string (str x.1), .int .u32 (x.2 : Int)]
def encQ (x : Nm) : List Value := [.string (str x.1), .int .u64 (x.2 : Int)]
theorem encW_len (x : Nm) : (encW x).length = 2 := rfl
theorem encQ_len (x : Nm) : (encQ x).length = 2 := rfl
def errT : List Nm := [([69, 80, 69, 82, 77], 1), ([69, 78, 79, 69, 78, 84], 2), ([69, 73, 79], 5), ([69, 66, 65, 68, 70], 9), ([69, 65, 71, 65, 73, 78], 11), ([69, 78, 79, 77, 69, 77], 12), ([69, 65, 67, 67, 69, 83], 13), ([69, 70, 65, 85, 76, 84], 14), ([69, 66, 85, 83, 89], 16), ([69, 78, 79, 68, 69, 86], 19), ([69, 73, 78, 86, 65, 76], 22), ([69, 78, 79, 83, 89, 83], 38), ([69, 79, 80, 78, 79, 84, 83, 85, 80, 80], 95), ([69, 65, 70, 78, 79, 83, 85, 80, 80, 79, 82, 84], 97), ([69, 84, 73, 77, 69, 68, 79, 85, 84], 110)]
def famT : List Nm := [([65, 70, 95, 85, 78, 73, 88], 1), ([65, 70, 95, 73, 78, 69, 84], 2), ([65, 70, 95, 73, 78, 69, 84, 54], 10), ([65, 70, 95, 78, 69, 84, 76, 73, 78, 75], 16), ([65, 70, 95, 80, 65, 67, 75, 69, 84], 17), ([65, 70, 95, 66, 76, 85, 69, 84, 79, 79, 84, 72], 31), ([65, 70, 95, 65, 76, 71], 38), ([65, 70, 95, 86, 83, 79, 67, 75], 40)]
def spT : List Nm := [([116, 105, 109, 101], 128), ([109, 110, 116], 131072), ([99, 103, 114, 111, 117, 112], 33554432), ([117, 116, 115], 67108864), ([105, 112, 99], 134217728), ([117, 115, 101, 114], 268435456), ([112, 105, 100], 536870912), ([110, 101, 116], 1073741824)]
def errnosV : Array Value := #[.string ⟨#[69, 80, 69, 82, 77]⟩, .int .u32 1, .string ⟨#[69, 78, 79, 69, 78, 84]⟩, .int .u32 2, .string ⟨#[69, 73, 79]⟩, .int .u32 5, .string ⟨#[69, 66, 65, 68, 70]⟩, .int .u32 9, .string ⟨#[69, 65, 71, 65, 73, 78]⟩, .int .u32 11, .string ⟨#[69, 78, 79, 77, 69, 77]⟩, .int .u32 12, .string ⟨#[69, 65, 67, 67, 69, 83]⟩, .int .u32 13, .string ⟨#[69, 70, 65, 85, 76, 84]⟩, .int .u32 14, .string ⟨#[69, 66, 85, 83, 89]⟩, .int .u32 16, .string ⟨#[69, 78, 79, 68, 69, 86]⟩, .int .u32 19, .string ⟨#[69, 73, 78, 86, 65, 76]⟩, .int .u32 22, .string ⟨#[69, 78, 79, 83, 89, 83]⟩, .int .u32 38, .string ⟨#[69, 79, 80, 78, 79, 84, 83, 85, 80, 80]⟩, .int .u32 95, .string ⟨#[69, 65, 70, 78, 79, 83, 85, 80, 80, 79, 82, 84]⟩, .int .u32 97, .string ⟨#[69, 84, 73, 77, 69, 68, 79, 85, 84]⟩, .int .u32 110]
set_option maxRecDepth 100000 in
theorem errnosV_eq : errnosV.toList = errT.flatMap encW := by rfl
set_option maxRecDepth 100000 in
set_option maxHeartbeats 1000000 in
theorem errnos_calls (w : World) : Calls Tryd.prog 32 #[] w fun e w' => e = .returned (.agg errnosV) ∧ Ext w w' := by
  go_enter Tryd.func32, Tryd.ntmps32
  go_upto_region 1 with fail
  apply wp_region_lit
  refine wpList_buildTo rfl 59 _ rfl (some 1) rfl #[.string ⟨#[69, 80, 69, 82, 77]⟩, .int .u32 1] (by as_aux_lemma => kernel_rfl) ?_
  refine wpList_buildTo rfl 59 _ rfl (some 2) rfl #[.string ⟨#[69, 78, 79, 69, 78, 84]⟩, .int .u32 2] (by as_aux_lemma => kernel_rfl) ?_
  refine wpList_buildTo rfl 59 _ rfl (some 3) rfl #[.string ⟨#[69, 73, 79]⟩, .int .u32 5] (by as_aux_lemma => kernel_rfl) ?_
  refine wpList_buildTo rfl 59 _ rfl (some 4) rfl #[.string ⟨#[69, 66, 65, 68, 70]⟩, .int .u32 9] (by as_aux_lemma => kernel_rfl) ?_
  refine wpList_buildTo rfl 59 _ rfl (some 5) rfl #[.string ⟨#[69, 65, 71, 65, 73, 78]⟩, .int .u32 11] (by as_aux_lemma => kernel_rfl) ?_
  refine wpList_buildTo rfl 59 _ rfl (some 6) rfl #[.string ⟨#[69, 78, 79, 77, 69, 77]⟩, .int .u32 12] (by as_aux_lemma => kernel_rfl) ?_
  refine wpList_buildTo rfl 59 _ rfl (some 7) rfl #[.string ⟨#[69, 65, 67, 67, 69, 83]⟩, .int .u32 13] (by as_aux_lemma => kernel_rfl) ?_
  refine wpList_buildTo rfl 59 _ rfl (some 8) rfl #[.string ⟨#[69, 70, 65, 85, 76, 84]⟩, .int .u32 14] (by as_aux_lemma => kernel_rfl) ?_
  refine wpList_buildTo rfl 59 _ rfl (some 9) rfl #[.string ⟨#[69, 66, 85, 83, 89]⟩, .int .u32 16] (by as_aux_lemma => kernel_rfl) ?_
  refine wpList_buildTo rfl 59 _ rfl (some 10) rfl #[.string ⟨#[69, 78, 79, 68, 69, 86]⟩, .int .u32 19] (by as_aux_lemma => kernel_rfl) ?_
  refine wpList_buildTo rfl 59 _ rfl (some 11) rfl #[.string ⟨#[69, 73, 78, 86, 65, 76]⟩, .int .u32 22] (by as_aux_lemma => kernel_rfl) ?_
  refine wpList_buildTo rfl 59 _ rfl (some 12) rfl #[.string ⟨#[69, 78, 79, 83, 89, 83]⟩, .int .u32 38] (by as_aux_lemma => kernel_rfl) ?_
  refine wpList_buildTo rfl 59 _ rfl (some 13) rfl #[.string ⟨#[69, 79, 80, 78, 79, 84, 83, 85, 80, 80]⟩, .int .u32 95] (by as_aux_lemma => kernel_rfl) ?_
  refine wpList_buildTo rfl 59 _ rfl (some 14) rfl #[.string ⟨#[69, 65, 70, 78, 79, 83, 85, 80, 80, 79, 82, 84]⟩, .int .u32 97] (by as_aux_lemma => kernel_rfl) ?_
  refine wpList_buildTo rfl 59 _ rfl (some 15) rfl #[.string ⟨#[69, 84, 73, 77, 69, 68, 79, 85, 84]⟩, .int .u32 110] (by as_aux_lemma => kernel_rfl) ?_
  refine wpList_buildTo rfl 60 _ rfl (some 16) rfl errnosV (by as_aux_lemma => kernel_rfl) ?_
  refine wpList_store_rowTo rfl 60 _ _ rfl rfl w.heap.size errnosV (by as_aux_lemma => kernel_rfl) (by as_aux_lemma => kernel_rfl) 60 _ (heap_alloc_last w _) (by kernel_rfl) (by kernel_rfl) (by kernel_rfl) ?_
  rw [World.setRow_alloc_new]
  apply wpList_nil
  rename_i hK
  refine hK _ _ ?_
  have key : ∀ A : Act, A.tmps.getD 0 undef = .pointer (some ⟨w.heap.size, 0, none⟩) → A.defers = [] → Code.wp Tryd.prog Code.ret (bodyPost Tryd.prog Tryd.f32 fun e w' => e = .returned (.agg errnosV) ∧ Ext w w') A (w.alloc (.cells errnosV 60)) := by
    intro A h0 hd
    go_wp2_with fail
    exact bodyPost_ret (v := .agg errnosV) (results_cell_row Tryd.results32 _ _ _ _ _ _ _ h0 (heap_alloc_last w _) Tryd.underlying60 rfl (by kernel_rfl)) hd ⟨rfl, (Ext.refl _).alloc _⟩
  exact key _ (by as_aux_lemma => kernel_rfl) (by as_aux_lemma => kernel_rfl)
def familiesV : Array Value := #[.string ⟨#[65, 70, 95, 85, 78, 73, 88]⟩, .int .u32 1, .string ⟨#[65, 70, 95, 73, 78, 69, 84]⟩, .int .u32 2, .string ⟨#[65, 70, 95, 73, 78, 69, 84, 54]⟩, .int .u32 10, .string ⟨#[65, 70, 95, 78, 69, 84, 76, 73, 78, 75]⟩, .int .u32 16, .string ⟨#[65, 70, 95, 80, 65, 67, 75, 69, 84]⟩, .int .u32 17, .string ⟨#[65, 70, 95, 66, 76, 85, 69, 84, 79, 79, 84, 72]⟩, .int .u32 31, .string ⟨#[65, 70, 95, 65, 76, 71]⟩, .int .u32 38, .string ⟨#[65, 70, 95, 86, 83, 79, 67, 75]⟩, .int .u32 40]
set_option maxRecDepth 100000 in
theorem familiesV_eq : familiesV.toList = famT.flatMap encW := by rfl
set_option maxRecDepth 100000 in
set_option maxHeartbeats 1000000 in
theorem families_calls (w : World) : Calls Tryd.prog 34 #[] w fun e w' => e = .returned (.agg familiesV) ∧ Ext w w' := by
  go_enter Tryd.func34, Tryd.ntmps34
  go_upto_region 1 with fail
  apply wp_region_lit
  refine wpList_buildTo rfl 59 _ rfl (some 1) rfl #[.string ⟨#[65, 70, 95, 85, 78, 73, 88]⟩, .int .u32 1] (by as_aux_lemma => kernel_rfl) ?_
  refine wpList_buildTo rfl 59 _ rfl (some 2) rfl #[.string ⟨#[65, 70, 95, 73, 78, 69, 84]⟩, .int .u32 2] (by as_aux_lemma => kernel_rfl) ?_
  refine wpList_buildTo rfl 59 _ rfl (some 3) rfl #[.string ⟨#[65, 70, 95, 73, 78, 69, 84, 54]⟩, .int .u32 10] (by as_aux_lemma => kernel_rfl) ?_
  refine wpList_buildTo rfl 59 _ rfl (some 4) rfl #[.string ⟨#[65, 70, 95, 78, 69, 84, 76, 73, 78, 75]⟩, .int .u32 16] (by as_aux_lemma => kernel_rfl) ?_
  refine wpList_buildTo rfl 59 _ rfl (some 5) rfl #[.string ⟨#[65, 70, 95, 80, 65, 67, 75, 69, 84]⟩, .int .u32 17] (by as_aux_lemma => kernel_rfl) ?_
  refine wpList_buildTo rfl 59 _ rfl (some 6) rfl #[.string ⟨#[65, 70, 95, 66, 76, 85, 69, 84, 79, 79, 84, 72]⟩, .int .u32 31] (by as_aux_lemma => kernel_rfl) ?_
  refine wpList_buildTo rfl 59 _ rfl (some 7) rfl #[.string ⟨#[65, 70, 95, 65, 76, 71]⟩, .int .u32 38] (by as_aux_lemma => kernel_rfl) ?_
  refine wpList_buildTo rfl 59 _ rfl (some 8) rfl #[.string ⟨#[65, 70, 95, 86, 83, 79, 67, 75]⟩, .int .u32 40] (by as_aux_lemma => kernel_rfl) ?_
  refine wpList_buildTo rfl 65 _ rfl (some 9) rfl familiesV (by as_aux_lemma => kernel_rfl) ?_
  refine wpList_store_rowTo rfl 65 _ _ rfl rfl w.heap.size familiesV (by as_aux_lemma => kernel_rfl) (by as_aux_lemma => kernel_rfl) 65 _ (heap_alloc_last w _) (by kernel_rfl) (by kernel_rfl) (by kernel_rfl) ?_
  rw [World.setRow_alloc_new]
  apply wpList_nil
  rename_i hK
  refine hK _ _ ?_
  have key : ∀ A : Act, A.tmps.getD 0 undef = .pointer (some ⟨w.heap.size, 0, none⟩) → A.defers = [] → Code.wp Tryd.prog Code.ret (bodyPost Tryd.prog Tryd.f34 fun e w' => e = .returned (.agg familiesV) ∧ Ext w w') A (w.alloc (.cells familiesV 65)) := by
    intro A h0 hd
    go_wp2_with fail
    exact bodyPost_ret (v := .agg familiesV) (results_cell_row Tryd.results34 _ _ _ _ _ _ _ h0 (heap_alloc_last w _) Tryd.underlying65 rfl (by kernel_rfl)) hd ⟨rfl, (Ext.refl _).alloc _⟩
  exact key _ (by as_aux_lemma => kernel_rfl) (by as_aux_lemma => kernel_rfl)
def spacesV : Array Value := #[.string ⟨#[116, 105, 109, 101]⟩, .int .u64 128, .string ⟨#[109, 110, 116]⟩, .int .u64 131072, .string ⟨#[99, 103, 114, 111, 117, 112]⟩, .int .u64 33554432, .string ⟨#[117, 116, 115]⟩, .int .u64 67108864, .string ⟨#[105, 112, 99]⟩, .int .u64 134217728, .string ⟨#[117, 115, 101, 114]⟩, .int .u64 268435456, .string ⟨#[112, 105, 100]⟩, .int .u64 536870912, .string ⟨#[110, 101, 116]⟩, .int .u64 1073741824]
set_option maxRecDepth 100000 in
theorem spacesV_eq : spacesV.toList = spT.flatMap encQ := by rfl
set_option maxRecDepth 100000 in
set_option maxHeartbeats 1000000 in
theorem spaces_calls (w : World) : Calls Tryd.prog 35 #[] w fun e w' => e = .returned (.agg spacesV) ∧ Ext w w' := by
  go_enter Tryd.func35, Tryd.ntmps35
  go_upto_region 1 with fail
  apply wp_region_lit
  refine wpList_buildTo rfl 68 _ rfl (some 1) rfl #[.string ⟨#[116, 105, 109, 101]⟩, .int .u64 128] (by as_aux_lemma => kernel_rfl) ?_
  refine wpList_buildTo rfl 68 _ rfl (some 2) rfl #[.string ⟨#[109, 110, 116]⟩, .int .u64 131072] (by as_aux_lemma => kernel_rfl) ?_
  refine wpList_buildTo rfl 68 _ rfl (some 3) rfl #[.string ⟨#[99, 103, 114, 111, 117, 112]⟩, .int .u64 33554432] (by as_aux_lemma => kernel_rfl) ?_
  refine wpList_buildTo rfl 68 _ rfl (some 4) rfl #[.string ⟨#[117, 116, 115]⟩, .int .u64 67108864] (by as_aux_lemma => kernel_rfl) ?_
  refine wpList_buildTo rfl 68 _ rfl (some 5) rfl #[.string ⟨#[105, 112, 99]⟩, .int .u64 134217728] (by as_aux_lemma => kernel_rfl) ?_
  refine wpList_buildTo rfl 68 _ rfl (some 6) rfl #[.string ⟨#[117, 115, 101, 114]⟩, .int .u64 268435456] (by as_aux_lemma => kernel_rfl) ?_
  refine wpList_buildTo rfl 68 _ rfl (some 7) rfl #[.string ⟨#[112, 105, 100]⟩, .int .u64 536870912] (by as_aux_lemma => kernel_rfl) ?_
  refine wpList_buildTo rfl 68 _ rfl (some 8) rfl #[.string ⟨#[110, 101, 116]⟩, .int .u64 1073741824] (by as_aux_lemma => kernel_rfl) ?_
  refine wpList_buildTo rfl 69 _ rfl (some 9) rfl spacesV (by as_aux_lemma => kernel_rfl) ?_
  refine wpList_store_rowTo rfl 69 _ _ rfl rfl w.heap.size spacesV (by as_aux_lemma => kernel_rfl) (by as_aux_lemma => kernel_rfl) 69 _ (heap_alloc_last w _) (by kernel_rfl) (by kernel_rfl) (by kernel_rfl) ?_
  rw [World.setRow_alloc_new]
  apply wpList_nil
  rename_i hK
  refine hK _ _ ?_
  have key : ∀ A : Act, A.tmps.getD 0 undef = .pointer (some ⟨w.heap.size, 0, none⟩) → A.defers = [] → Code.wp Tryd.prog Code.ret (bodyPost Tryd.prog Tryd.f35 fun e w' => e = .returned (.agg spacesV) ∧ Ext w w') A (w.alloc (.cells spacesV 69)) := by
    intro A h0 hd
    go_wp2_with fail
    exact bodyPost_ret (v := .agg spacesV) (results_cell_row Tryd.results35 _ _ _ _ _ _ _ h0 (heap_alloc_last w _) Tryd.underlying69 rfl (by kernel_rfl)) hd ⟨rfl, (Ext.refl _).alloc _⟩
  exact key _ (by as_aux_lemma => kernel_rfl) (by as_aux_lemma => kernel_rfl)
set_option maxRecDepth 100000 in
set_option maxHeartbeats 1000000 in
theorem rErrnos_calls (w : World) : Calls Tryd.prog 37 #[] w fun e w' => ∃ a c, e = .returned (.slice a errT.length c) ∧ Ext w w' ∧ Rd w' 2 encQ (.slice a errT.length c) errT := by
  go_enter Tryd.func37, Tryd.ntmps37
  go_wp2_with fail
  go_ret
  exact ⟨_, _, rfl, (Ext.refl _).alloc _, rd_lit encQ_len w errT _ _ rfl⟩
set_option maxRecDepth 100000 in
set_option maxHeartbeats 1000000 in
theorem rFamilies_calls (w : World) : Calls Tryd.prog 14 #[] w fun e w' => ∃ a c, e = .returned (.slice a famT.length c) ∧ Ext w w' ∧ Rd w' 2 encQ (.slice a famT.length c) famT := by
  go_enter Tryd.func14, Tryd.ntmps14
  go_wp2_with fail
  go_ret
  exact ⟨_, _, rfl, (Ext.refl _).alloc _, rd_lit encQ_len w famT _ _ rfl⟩
set_option maxRecDepth 100000 in
set_option maxHeartbeats 1000000 in
theorem rSpaces_calls (w : World) : Calls Tryd.prog 15 #[] w fun e w' => ∃ a c, e = .returned (.slice a spT.length c) ∧ Ext w w' ∧ Rd w' 2 encQ (.slice a spT.length c) spT := by
  go_enter Tryd.func15, Tryd.ntmps15
  go_wp2_with fail
  go_ret
  exact ⟨_, _, rfl, (Ext.refl _).alloc _, rd_lit encQ_len w spT _ _ rfl⟩
end L10
end Go.Proofs.YtojlpocpcakcbaaDoor
