/- Layer 23: the walk of the closure that puts one span behind the others. -/
import Derived.RangeFuncBox
import Derived.RangeFuncNested
import Derived.RangeFuncBound
import Derived.RangeFuncCalls
import Derived.RangeFuncLeaves
import Derived.Shelf.Abstract
import Derived.Shelf.RegionOpen
import Derived.OwnWalkIn
import Derived.TacticsInMore
import Derived.LoopNIn
import Derived.LoopIn
import Derived.Test.YtaclndhenhjjaaaSpanD
namespace Go.Proofs.Ytaclndhenhjjaaa
open Go.RowKit Go.Shelf V
attribute [local go_sem] Oper.semAt_some
namespace L23
theorem put_step {w W w1 : World} {Bo base t : Nat} {u v : Value} (hB : Bo < base) (hbs : base ≤ w.heap.size) (hE : Ext w W) (hbx : Boxed w Bo t v) (hlo : ∀ k, u.ownBlock = some k → base ≤ k ∧ k < w.heap.size) (hg : W.grownBy w1 u.ownBlock) :
    Boxed w1 Bo t v ∧ (∀ x, Keep (fun k => k < base ∧ k ≠ Bo) w (w1.setCell ⟨Bo, 0, none⟩ x)) ∧ (KeepsOthers w W → (∀ (j : Nat) (o : Obj), u.ownBlock = some j → W.heap[j]? = some o → o.isCells = true) → KeepsOthers w w1) := by
  have hsz := hE.size
  have hne : ∀ k, k < base → some k ≠ u.ownBlock := fun k hk e => by have := (hlo k e.symm).1; omega
  refine ⟨(hg.block Bo (by omega) (hne Bo hB)).trans ((hE.block (by omega)).trans hbx), fun x => ⟨hg.os.trans hE.os, hg.tape.trans hE.tape, hg.output.trans hE.output, ?_, fun k hk => ?_⟩, fun h1 h2 => h1.trans (KeepsOthers.of_grownBy hg h2)⟩
  · rw [World.size_setCell]; exact Nat.le_trans hsz hg.size
  · rw [Below.heap_setCell _ _ _ _ hk.2]
    exact (hg.block k (by omega) (hne k hk.1)).trans (hE.block (by omega))
theorem own_isCells {W : World} {base : Nat} {u : Value} {out : List Span} (h : Own W base u out) : ∀ (j : Nat) (o : Obj), u.ownBlock = some j → W.heap[j]? = some o → o.isCells = true := by
  intro j o hj ho
  rcases h.2 with ⟨rfl, _⟩ | ⟨g, cap, cur, rfl, _, hh, _⟩
  · simp [Value.ownBlock] at hj
  · simp only [Value.ownBlock, Option.some.injEq] at hj
    subst hj
    rw [hh] at ho
    cases ho
    rfl
theorem koDrewN (w : World) (n : Nat) : KeepsOthers w (w.drewN n) := ⟨Nat.le_refl _, fun _ _ h _ => h⟩
set_option maxRecDepth 100000 in
set_option maxHeartbeats 2000000 in
theorem put_calls (Bo base : Nat) (u : Value) (out : List Span) (s : Span) (hl : out.length ≤ 1000000) (w : World) (hB : Bo < base) (hbs : base ≤ w.heap.size) (hbx : Boxed w Bo 24 u) (hown : Own w base u out) :
    Calls Try.prog 40 #[.agg #[.int .u32 (s.lo : Int), .int .u32 (s.hi : Int), .int .i64 s.way], .pointer (some ⟨Bo, 0, none⟩)] w fun e w' =>
      e = .returned (.tuple #[]) ∧ ∃ u', Boxed w' Bo 24 u' ∧ Own w' base u' (put out s) ∧ Keep (fun k => k < base ∧ k ≠ Bo) w w' ∧ KeepsOthers w w' := by
  obtain ⟨i0, hi, hz0, hz1, hz2⟩ := info_parts infoS
  have hlo := hown.lt
  obtain ⟨ao, co, rfl, hco, hcells⟩ := rdS_cell hown.rd
  obtain ⟨lo, hi', wy'⟩ := s
  dsimp only
  have hcb := hbx.cell
  have hfb := hbx.frozen
  have hltb : Bo < w.heap.size := by omega
  by_cases h0 : out.length = 0
  · have hd : decide ((0 : Int) < (out.length : Int)) = false := decide_eq_false (by omega)
    have hd2 : decide (0 < out.length) = false := decide_eq_false (by omega)
    have hput : put out ⟨lo, hi', wy'⟩ = out ++ [⟨lo, hi', wy'⟩] := by rw [List.eq_nil_of_length_eq_zero h0]; rfl
    have Hhput := Lib.hid hput
    clear hput
    have Hh0 := Lib.hid h0
    clear h0
    have Hhlo := Lib.hid hlo
    clear hlo
    have Hhown := Lib.hid hown
    clear hown
    have Hhbx := Lib.hid hbx
    clear hcells
    go_enter Try.func40, Try.ntmps40
    go_wp2_with (first
          | (go_quiet (fail))
          | (at_builtin; refine wpList_append_own _ rfl _ _ 24 rfl base 33 i0 (.agg #[.int .u32 0, .int .u32 0, .int .i64 0]) 3 16 Try.underlying24 hi hz0 hz1 hz2 rfl (by decide) _ out.length (out.flatMap encS) rfl (by first | exact (Hhown.out.alloc _).alloc _ | exact ((Hhown.out.alloc _).drewN _).alloc _) _ 1 1 (encS ⟨lo, hi', wy'⟩) rfl rfl (cells_new' _ _ _ _ (by simp)) (encS_one _) (by unfold maxLen; omega) (by omega) (by simp; omega) ?_; intro u' w1 hown' hg' _; obtain ⟨g', cap', rfl⟩ := ownsRow_succ hown'; have hE1 : Ext w _ := (((Ext.refl w).alloc (.cells #[.int .u32 (lo : Int), .int .u32 (hi' : Int), .int .i64 wy'] 33)).drewN nq).alloc (.cells #[.int .u32 (lo : Int), .int .u32 (hi' : Int), .int .i64 wy'] 33); obtain ⟨hbx1, hkp1, hko1⟩ := put_step hB hbs hE1 Hhbx.out Hhlo.out hg'; have hcb1 := hbx1.cell; have hfb1 := hbx1.frozen; have HO' := Lib.hid hown'; clear hown'))
    go_end0
    exact ⟨rfl, _, hbx1.set _, ownsRow_setCell_below HO'.out hB _ |> fun h => by unfold Own; rw [Hhput.out]; simpa using h, hkp1 _, (hko1 (((KeepsOthers.alloc _ _).trans (koDrewN _ _)).trans (KeepsOthers.alloc _ _)) (own_isCells (((Hhown.out.alloc _).drewN _).alloc _))).trans (KeepsOthers.setCell _ _ _)⟩
  · have hpos : 0 < out.length := by omega
    obtain ⟨q, hq⟩ : ∃ q, q = out.length - 1 := ⟨_, rfl⟩
    have hql : q < out.length := by omega
    have hd4 : ((out.length : Int) - 1) = (q : Int) := by omega
    obtain ⟨g, og, rfl, g1, g2, g3⟩ := hcells q hql
    have hd : decide ((0 : Int) < (out.length : Int)) = true := decide_eq_true (by omega)
    have hd2 : decide (0 < out.length) = true := decide_eq_true (by omega)
    obtain ⟨g', c', e', hgb, hgs, hfz⟩ := own_parts hown hpos
    simp only [Value.slice.injEq, Option.some.injEq, Addr.mk.injEq, and_true, true_and] at e'
    obtain ⟨⟨rfl, rfl⟩, rfl⟩ := e'
    rw [Nat.zero_add] at g1 g2 g3
    have hfz1 := hfz (q * 3 + 1)
    clear hcells hfz
    by_cases hw : out[q].way = wy'
    · have hput : put out ⟨lo, hi', wy'⟩ = out.set q ⟨out[q].lo, hi', out[q].way⟩ := by subst hq; exact put_same hpos hw
      have Hhput := Lib.hid hput
      clear hput
      have Hhq := Lib.hid hq
      clear hq
      have Hhlo := Lib.hid hlo
      clear hlo
      have Hhown := Lib.hid hown
      clear hown
      have Hhbx := Lib.hid hbx
      clear hbx
      generalize hov : out[q] = ov at *
      have Hhov := Lib.hid hov
      clear hov
      obtain ⟨vlo, vhi, vwy⟩ := ov
      dsimp only at *
      subst hw
      go_enter Try.func40, Try.ntmps40
      go_wp2_with (go_quiet (fail))
      have hst := own_store (e := 33) encS_len (Own.drewN (Hhown.out.alloc (.cells #[.int .u32 (lo : Int), .int .u32 (hi' : Int), .int .i64 vwy] 33)) nq) q 1 (.int .u32 (hi' : Int)) ⟨vlo, hi', vwy⟩ hql (by decide) (by rw [Hhov.out]; rfl)
      have hkp : Keep (fun k => k < base ∧ k ≠ Bo) w ((w.alloc (.cells #[.int .u32 (lo : Int), .int .u32 (hi' : Int), .int .i64 vwy] 33)).drewN nq) := Keep.of_below (((Ext.refl w).alloc _).drewN _) (fun k hk => by omega)
      refine bodyPost_ret (results_none rfl _ _ _) rfl ⟨rfl, .slice (some ⟨g, 0, none⟩) out.length co, ?_, ?_, hkp.trans (Keep.setCell _ (by simp only; omega) _), ((KeepsOthers.alloc _ _).trans (koDrewN _ _)).trans (KeepsOthers.setCell _ _ _)⟩
      · unfold Boxed
        rw [Below.heap_setCell _ _ _ _ (by simp only; omega)]
        exact (Ext.block (((Ext.refl w).alloc _).drewN nq) (by omega)).trans Hhbx.out
      · rw [Hhput.out]; unfold Own; rw [List.length_set]; exact hst.1
    · have hput : put out ⟨lo, hi', wy'⟩ = out ++ [⟨lo, hi', wy'⟩] := by subst hq; exact put_other hpos hw
      have Hhput := Lib.hid hput
      clear hput
      have Hhq := Lib.hid hq
      clear hq
      have Hhlo := Lib.hid hlo
      clear hlo
      have Hhown := Lib.hid hown
      clear hown
      have Hhbx := Lib.hid hbx
      have hne : (out[q].way == wy') = false := by simp [hw]
      have Hhw := Lib.hid hw
      clear hw
      generalize out[q] = ov at *
      obtain ⟨vlo, vhi, vwy⟩ := ov
      dsimp only at *
      go_enter Try.func40, Try.ntmps40
      go_wp2_with (first
          | (go_quiet (fail))
          | (at_builtin; refine wpList_append_own _ rfl _ _ 24 rfl base 33 i0 (.agg #[.int .u32 0, .int .u32 0, .int .i64 0]) 3 16 Try.underlying24 hi hz0 hz1 hz2 rfl (by decide) _ out.length (out.flatMap encS) rfl (by first | exact (Hhown.out.alloc _).alloc _ | exact ((Hhown.out.alloc _).drewN _).alloc _) _ 1 1 (encS ⟨lo, hi', wy'⟩) rfl rfl (cells_new' _ _ _ _ (by simp)) (encS_one _) (by unfold maxLen; omega) (by omega) (by simp; omega) ?_; intro u' w1 hown' hg' _; obtain ⟨g', cap', rfl⟩ := ownsRow_succ hown'; have hE1 : Ext w _ := (((Ext.refl w).alloc (.cells #[.int .u32 (lo : Int), .int .u32 (hi' : Int), .int .i64 wy'] 33)).drewN nq).alloc (.cells #[.int .u32 (lo : Int), .int .u32 (hi' : Int), .int .i64 wy'] 33); obtain ⟨hbx1, hkp1, hko1⟩ := put_step hB hbs hE1 Hhbx.out Hhlo.out hg'; have hcb1 := hbx1.cell; have hfb1 := hbx1.frozen; have HO' := Lib.hid hown'; clear hown'))
      go_end0
      exact ⟨rfl, _, hbx1.set _, ownsRow_setCell_below HO'.out hB _ |> fun h => by unfold Own; rw [Hhput.out]; simpa using h, hkp1 _, (hko1 (((KeepsOthers.alloc _ _).trans (koDrewN _ _)).trans (KeepsOthers.alloc _ _)) (own_isCells (((Hhown.out.alloc _).drewN _).alloc _))).trans (KeepsOthers.setCell _ _ _)⟩
end L23
end Go.Proofs.Ytaclndhenhjjaaa
