/- Layer 21: the walks of small, call and awake: the chapter's examples hold. -/
import Derived.Test.YtkmhfjnjfghnjaaIsA
import Derived.Test.YtkmhfjnjfghnjaaIrW
import Derived.Test.YtkmhfjnjfghnjaaIrC
import Derived.Test.YtkmhfjnjfghnjaaIsB
namespace Go.Proofs.Ytkmhfjnjfghnjaa
open Go.RowKit V
namespace L21
open L25 (Dat datV OkD)
def tS : Test := ⟨0, 255, 10, 2147418112⟩
def fS (ts : List Test) : Filter := ⟨0, [⟨41, tS :: ts, 327777⟩], 2147418112⟩
set_option maxRecDepth 100000 in
set_option maxHeartbeats 400000 in
theorem small_calls (v : Value) (ts : List Test) (hl : ts.length ≤ 1000) (w : World) (hv : Rd w 4 encT v ts) :
    Calls Try.prog 56 #[v] w fun e w' => ∃ g : Nat, e = .returned (.agg #[.int .i64 0, .slice (some ⟨g, 0, none⟩) 1 1, .int .u32 2147418112]) ∧ RdR w' 3 (IsR w') (.slice (some ⟨g, 0, none⟩) 1 1) (fS ts).rules ∧ Ext w w' := by
  have HV := Lib.hid hv
  obtain ⟨av, cv, rfl, -, -⟩ := rdT_cell hv
  have hl1 : [tS].length + ts.length = (tS :: ts).length := by simp; omega
  have Hhl1 := Lib.hid hl1
  clear hl1
  clear hv
  go_enter Try.func56, Try.ntmps56
  obtain ⟨w1, hw1⟩ : ∃ w1, w1 = w.alloc (.cells #[.int .i64 0, .slice none 0 0, .int .u32 0] 25) := ⟨_, rfl⟩
  have hx1 : Ext w w1 := by rw [hw1]; exact (Ext.refl _).alloc _
  have y0 : w1.cell? ⟨w.heap.size, 0, none⟩ = some (.int .i64 0) := by rw [hw1]; simp [go_sem]
  have y1 : w1.cell? ⟨w.heap.size, 1, none⟩ = some (.slice none 0 0) := by rw [hw1]; simp [go_sem]
  have y2 : w1.cell? ⟨w.heap.size, 2, none⟩ = some (.int .u32 0) := by rw [hw1]; simp [go_sem]
  have fy : ∀ j, w1.frozen? ⟨w.heap.size, j, none⟩ = false := fun j => by rw [hw1]; simp [go_sem]
  have HW1 := Lib.hid hw1
  have HSZ : Hid (w.heap.size + 1 = w1.heap.size) := Lib.hid (by rw [hw1]; simp)
  clear hw1
  go_wp2_with (at_builtin; rw [← HW1.out]; refine wpList_app_rd rfl (.tmp 6) (.tmp 7) _ rfl Try.underlying32 infoT9 rfl (by decide) encT_len encT_one w1 _ _ [tS] ts rfl rfl (own_lit encT_len w1 [tS] _ _ w1.heap.size HSZ.out (Nat.le_refl _) (by unfold maxLen; simp)) (HV.out.ext ((hx1).alloc _)) (by simp; omega) (by decide) ((Ext.refl _).alloc _) ?_; intro au2 cu2 w2 ho2 hx2; rw [Hhl1.out] at ho2 ⊢; replace y0 := hx2.cell y0; replace y1 := hx2.cell y1; replace y2 := hx2.cell y2; have fy2 : ∀ j, w2.frozen? ⟨w.heap.size, j, none⟩ = false := fun j => (World.frozen?_of_block (a := ⟨w.heap.size, j, none⟩) (hx2.block (by have := HSZ.out; dsimp only; omega))).trans (fy j); have fy20 := fy2 0; have fy21 := fy2 1; have fy22 := fy2 2; have HO2 := Lib.hid (own_base (b' := w.heap.size + 1) ho2 (by have := HSZ.out; omega)); have HX2 := Lib.hid (hx1.trans hx2); have hb2 := World.block_lt_of_cell? _ _ y1; clear ho2 hx1 hx2 fy fy2)
  have hne : ¬ w.heap.size = w2.heap.size := by omega
  refine bodyPost_ret (v := .agg #[.int .i64 0, .slice (some ⟨w2.heap.size, 0, none⟩) 1 1, .int .u32 2147418112]) (by first | (simp [results, Try.results56, go_sem, World.cell?_alloc_old, hne, y0, y1, y2]; done) | (simp [results, Try.results56, go_sem, World.cell?_alloc_old, hne, y0, y1, y2]; rfl)) rfl ⟨_, rfl, ?_, ?_⟩
  · have g1 := good_of_own (n := 41) (x := 327777) HO2.out
    have g2 := good_set g1.1 g1.2 (q := ⟨w.heap.size, 0, none⟩) (by simp) (.int .i64 0)
    have g3 := good_set g2.1 g2.2 (q := ⟨w.heap.size, 1, none⟩) (by simp) (.slice (some ⟨w2.heap.size, 0, none⟩) 1 1)
    have g4 := good_set g3.1 g3.2 (q := ⟨w.heap.size, 2, none⟩) (by simp) (.int .u32 2147418112)
    have h1 := rd_lit encP_len (((w2.setCell ⟨w.heap.size, 0, none⟩ (.int .i64 0)).setCell ⟨w.heap.size, 1, none⟩ (.slice (some ⟨w2.heap.size, 0, none⟩) 1 1)).setCell ⟨w.heap.size, 2, none⟩ (.int .u32 2147418112)) [(⟨⟨41, tS :: ts, 327777⟩, au2, cu2⟩ : PR)] 34 w2.heap.size (by simp)
    exact rdRR_of h1 (fun p hp => by rw [List.mem_singleton] at hp; subst hp; exact g4.1.ext ((Ext.refl _).alloc _))
  · repeat (first | exact HX2.out | refine Ext.alloc ?_ _ | refine Ext.setCell ?_ (by first | (simp; done) | (simp; omega)) _)
set_option maxRecDepth 100000 in
theorem call_calls (T N X : Int) (w : World) :
    Calls Try.prog 57 #[.int .u32 T, .int .u32 N, .int .u64 X] w fun e w' => e = .returned (.agg #[.int .u32 N, .int .u32 T, .int .u64 0, .int .u64 X, .int .u64 0, .int .u64 0, .int .u64 0, .int .u64 0, .int .u64 0]) ∧ Ext w w' := by
  go_enter Try.func57, Try.ntmps57
  go_wp2
  refine bodyPost_ret (v := .agg #[.int .u32 N, .int .u32 T, .int .u64 0, .int .u64 X, .int .u64 0, .int .u64 0, .int .u64 0, .int .u64 0, .int .u64 0]) (by first | (simp [results, Try.results57, go_sem]; done) | (simp [results, Try.results57, go_sem]; rfl)) rfl ⟨rfl, ?_⟩
  repeat (first | exact Ext.refl _ | refine Ext.alloc ?_ _ | refine Ext.setCell ?_ (by first | (simp; done) | (simp; omega)) _)
end L21
end Go.Proofs.Ytkmhfjnjfghnjaa
