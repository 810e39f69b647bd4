/- Layer 10: the walks of Family, FamilyName, Space, SpaceName. (Printed by wip/tools/mknamec.py.) -/
import Derived.Test.YtojlpocpcakcbaaDoorNameB
namespace Go.Proofs.YtojlpocpcakcbaaDoor
open Go.RowKit V
attribute [local go_sem] Oper.semAt_some
namespace L10
theorem rd_newV {W : World} {t : TypeId} {n : Nat} {enc : Nm → List Value} (henc : ∀ x, (enc x).length = n) {c : Array Value} {l : List Nm} (h : c.toList = l.flatMap enc) : Rd (W.alloc (.cells c t)) n enc (.slice (some ⟨W.heap.size, 0, none⟩) l.length l.length) l := by
  have := rd_lit henc W l t W.heap.size rfl
  rw [← h] at this
  simpa using this
theorem errnosSt (W : World) : (storeCells ⟨W.heap.size, 0, none⟩ errnosV.toList 0).run Tryd.prog (W.alloc (.cells #[.string ⟨#[]⟩, .int .u32 0, .string ⟨#[]⟩, .int .u32 0, .string ⟨#[]⟩, .int .u32 0, .string ⟨#[]⟩, .int .u32 0, .string ⟨#[]⟩, .int .u32 0, .string ⟨#[]⟩, .int .u32 0, .string ⟨#[]⟩, .int .u32 0, .string ⟨#[]⟩, .int .u32 0, .string ⟨#[]⟩, .int .u32 0, .string ⟨#[]⟩, .int .u32 0, .string ⟨#[]⟩, .int .u32 0, .string ⟨#[]⟩, .int .u32 0, .string ⟨#[]⟩, .int .u32 0, .string ⟨#[]⟩, .int .u32 0, .string ⟨#[]⟩, .int .u32 0] 60)) = .ok () (W.alloc (.cells errnosV 60)) := run_storeCells_new (P := Tryd.prog) W _ _ _ (by kernel_rfl) (by kernel_rfl) (by kernel_rfl)
theorem familiesSt (W : World) : (storeCells ⟨W.heap.size, 0, none⟩ familiesV.toList 0).run Tryd.prog (W.alloc (.cells #[.string ⟨#[]⟩, .int .u32 0, .string ⟨#[]⟩, .int .u32 0, .string ⟨#[]⟩, .int .u32 0, .string ⟨#[]⟩, .int .u32 0, .string ⟨#[]⟩, .int .u32 0, .string ⟨#[]⟩, .int .u32 0, .string ⟨#[]⟩, .int .u32 0, .string ⟨#[]⟩, .int .u32 0] 65)) = .ok () (W.alloc (.cells familiesV 65)) := run_storeCells_new (P := Tryd.prog) W _ _ _ (by kernel_rfl) (by kernel_rfl) (by kernel_rfl)
theorem spacesSt (W : World) : (storeCells ⟨W.heap.size, 0, none⟩ spacesV.toList 0).run Tryd.prog (W.alloc (.cells #[.string ⟨#[]⟩, .int .u64 0, .string ⟨#[]⟩, .int .u64 0, .string ⟨#[]⟩, .int .u64 0, .string ⟨#[]⟩, .int .u64 0, .string ⟨#[]⟩, .int .u64 0, .string ⟨#[]⟩, .int .u64 0, .string ⟨#[]⟩, .int .u64 0, .string ⟨#[]⟩, .int .u64 0] 69)) = .ok () (W.alloc (.cells spacesV 69)) := run_storeCells_new (P := Tryd.prog) W _ _ _ (by kernel_rfl) (by kernel_rfl) (by kernel_rfl)
set_option maxRecDepth 100000 in
set_option maxHeartbeats 1000000 in
theorem Family_calls (s : ByteArray) (w : World) : Calls Tryd.prog 10 #[.string s] w fun e w' => e = .returned (.tuple #[.int .u32 ((findL famT (bytes s) 180).1 : Int), .int .i64 (findL famT (bytes s) 180).2]) ∧ Ext w w' := by
  have hT := fun W => families_calls W
  have hF := fun v W (h : Rd W 2 encW v famT) => find32_calls famT v s 180 W h (by decide)
  have hst := familiesSt
  generalize findL famT (bytes s) 180 = R at *
  have HhT := Lib.hid hT
  clear hT
  have HhF := Lib.hid hF
  clear hF
  go_enter Tryd.func10, Tryd.ntmps10
  go_wp2_with fail
  refine (HhT.out _).mono ?_
  rintro e w1 ⟨rfl, hx1⟩
  go_wp2_with fail
  refine (HhF.out _ _ (rd_newV encW_len familiesV_eq)).mono ?_
  rintro e w2 ⟨rfl, hx2⟩
  go_wp2_with fail
  go_ret2
  exact ⟨rfl, (hx1.alloc _).trans hx2⟩
set_option maxRecDepth 100000 in
set_option maxHeartbeats 1000000 in
theorem Space_calls (s : ByteArray) (w : World) : Calls Tryd.prog 11 #[.string s] w fun e w' => e = .returned (.tuple #[.int .u64 ((findL spT (bytes s) 181).1 : Int), .int .i64 (findL spT (bytes s) 181).2]) ∧ Ext w w' := by
  have hT := fun W => spaces_calls W
  have hF := fun v W (h : Rd W 2 encQ v spT) => find64_calls spT v s 181 W h (by decide)
  have hst := spacesSt
  generalize findL spT (bytes s) 181 = R at *
  have HhT := Lib.hid hT
  clear hT
  have HhF := Lib.hid hF
  clear hF
  go_enter Tryd.func11, Tryd.ntmps11
  go_wp2_with fail
  refine (HhT.out _).mono ?_
  rintro e w1 ⟨rfl, hx1⟩
  go_wp2_with fail
  refine (HhF.out _ _ (rd_newV encQ_len spacesV_eq)).mono ?_
  rintro e w2 ⟨rfl, hx2⟩
  go_wp2_with fail
  go_ret2
  exact ⟨rfl, (hx1.alloc _).trans hx2⟩
set_option maxRecDepth 100000 in
set_option maxHeartbeats 1000000 in
theorem FamilyName_calls (n : Nat) (w : World) : Calls Tryd.prog 18 #[.int .u32 (n : Int)] w fun e w' => e = .returned (.string (str (ofL famT n))) ∧ Ext w w' := by
  have hT := fun W => families_calls W
  have hF := fun v W (h : Rd W 2 encW v famT) => of32_calls famT v n W h (by decide)
  have hst := familiesSt
  generalize str (ofL famT n) = R at *
  have HhT := Lib.hid hT
  clear hT
  have HhF := Lib.hid hF
  clear hF
  go_enter Tryd.func18, Tryd.ntmps18
  go_wp2_with fail
  refine (HhT.out _).mono ?_
  rintro e w1 ⟨rfl, hx1⟩
  go_wp2_with fail
  refine (HhF.out _ _ (rd_newV encW_len familiesV_eq)).mono ?_
  rintro e w2 ⟨rfl, hx2⟩
  go_wp2_with fail
  go_ret
  exact ⟨rfl, (hx1.alloc _).trans hx2⟩
set_option maxRecDepth 100000 in
set_option maxHeartbeats 1000000 in
theorem SpaceName_calls (n : Nat) (w : World) : Calls Tryd.prog 19 #[.int .u64 (n : Int)] w fun e w' => e = .returned (.string (str (ofL spT n))) ∧ Ext w w' := by
  have hT := fun W => spaces_calls W
  have hF := fun v W (h : Rd W 2 encQ v spT) => of64_calls spT v n W h (by decide)
  have hst := spacesSt
  generalize str (ofL spT n) = R at *
  have HhT := Lib.hid hT
  clear hT
  have HhF := Lib.hid hF
  clear hF
  go_enter Tryd.func19, Tryd.ntmps19
  go_wp2_with fail
  refine (HhT.out _).mono ?_
  rintro e w1 ⟨rfl, hx1⟩
  go_wp2_with fail
  refine (HhF.out _ _ (rd_newV encQ_len spacesV_eq)).mono ?_
  rintro e w2 ⟨rfl, hx2⟩
  go_wp2_with fail
  go_ret
  exact ⟨rfl, (hx1.alloc _).trans hx2⟩
end L10
end Go.Proofs.YtojlpocpcakcbaaDoor
