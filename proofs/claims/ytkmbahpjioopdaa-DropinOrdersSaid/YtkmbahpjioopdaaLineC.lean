/- Layer 12: the walk of Count. -/
import Derived.Test.YtkmbahpjioopdaaLineB
namespace Go.Proofs.Ytkmbahpjioopdaa
open Go.RowKit Go.Shelf V
attribute [local go_sem] Oper.semAt_some
namespace L12
set_option maxRecDepth 100000 in
set_option maxHeartbeats 1000000 in
theorem Count_calls (v : Value) (bs : List UInt8) (hl : bs.length ≤ 1000000) (w : World) (hv : Rd w 1 encB v bs) :
    Calls Try.prog 48 #[v] w fun e w' => e = .returned (.int .i64 ((linesL bs).length : Int)) ∧ Ext w w' := by
  have hvR := hv
  obtain ⟨a, c, rfl, -⟩ := hv
  have hll := linesL_len bs.length bs (Nat.le_refl _)
  have bR := Boxed.new w 3 (.int .i64 0)
  have bN := Boxed.new (w.alloc (.cells #[.int .i64 0] 3)) 22 (.slice a bs.length c)
  rw [World.size_alloc] at bN
  have hE0 : Ext w ((w.alloc (.cells #[.int .i64 0] 3)).alloc (.cells #[.slice a bs.length c] 22)) := ((Ext.refl w).alloc _).alloc _
  refine (callsIn_wide (n := 4)).1 ?_
  refine callsIn_of_wp_marks Try.func48 rfl trivial ?_ rfl
  simp only [Try.ntmps48, List.size_toArray, List.length_cons, List.length_nil, Nat.reduceAdd, Nat.reduceSub, Array.replicate_succ, Array.replicate_zero, List.push_toArray, List.append_toArray, List.nil_append, List.cons_append]
  gi_wp2_with (refine ⟨trivial, ?_⟩; gi_at_call 51; refine (callsIn_wide.2 (lines_calls _ _ _ _)).mono ?_; rintro e w' ⟨rfl, rfl⟩)
  have h1 : 1 ≤ 4 := by omega
  refine wpIn_rangeFunc_ownF rfl h1 (gf := 70) (lb := #[.pointer (some ⟨w.heap.size + 1, 0, none⟩)]) rfl trivial (enters_of Try.func70 (by kernel_rfl) rfl)
    (lines_stops (w.heap.size + 1) w.heap.size _ bs hl _ (by simp; omega) bN.cell (hvR.ext hE0)) belowK_t (belowK_b (by simp; omega)) (Below.refl _ _) (fun _ => rfl)
    (fun pre W => (W.cell? ⟨w.heap.size, 0, none⟩ = some (.int .i64 (pre.length : Int)) ∧ W.frozen? ⟨w.heap.size, 0, none⟩ = false) ∧ Below w.heap.size w W)
    (fun _ _ _ => False)
    (OwnFrom.and (Own.from (fun s A B row hs hg hr => ⟨cell_kept hs.1 hg hr, (frozen_kept hs.1 hg hr).trans hs.2⟩) _) (ownFrom_below (Nat.le_refl _) (by simp; omega)))
    (fun _ _ _ _ _ hs _ _ => hs)
    ⟨⟨(bR.alloc _).cell, (bR.alloc _).frozen⟩, hE0⟩
    (fun x => { tmps := #[.slice a bs.length c, undef, .int .i64 0, .pointer (some ⟨w.heap.size, 0, none⟩), .slice a bs.length c, .func (.func 70) #[] #[.pointer (some ⟨w.heap.size + 1, 0, none⟩)], .int .i64 (x.1.1 : Int), .string (str x.1.2), undef, undef, undef], defers := [] }) ?assign ?body ?done ?stop
  case assign =>
    intro l x W K hK
    gi_wp2
    simp
    exact hK
  case body =>
    rintro l pre x W ⟨⟨hc, hf⟩, hB⟩ hlt
    have hb1 : pre.length ≤ 1000000 := by omega
    gi_wp2
    refine ⟨KeepsOthers.setCell _ _ _, (Below.refl w.heap.size W).setCell (p := ⟨w.heap.size, 0, none⟩) (Nat.le_refl _) _, ⟨?_, by rw [World.frozen?_setCell]; exact hf⟩, hB.setCell (p := ⟨w.heap.size, 0, none⟩) (Nat.le_refl _) _⟩
    rw [List.length_append]
    exact World.cell?_setCell_same' _ _ _ (by rw [hc]; rfl)
  case done =>
    rintro D ys W hD hys ⟨⟨hc, _⟩, hB⟩ hK
    have hyl : ys.length = (linesL bs).length := by rw [← List.length_map (f := Subtype.val), hys, numF_len]
    rw [hyl] at hc
    have HY := Lib.hid hys
    clear hys hyl
    gi_wp2
    refine ⟨by simp, .inl ⟨_, _, rfl, run_takeDeferred hK, ?_⟩⟩
    exact ⟨_, results_tmp rfl _ _ _, rfl, hB.trans (belowK_b (w := w) (Nat.le_refl _) W D _ _ (by simp at hD; omega) hK rfl rfl)⟩
  case stop =>
    rintro D c pre W _ _ h _
    exact h.elim
end L12
end Go.Proofs.Ytkmbahpjioopdaa
