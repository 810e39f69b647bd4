/- Layer 14: a copy of a file; the order of names. -/
import Derived.Lib.SmallJoins
import Derived.Test.YtkmbahpjioopdaaDropD
namespace Go.Proofs.Ytkmbahpjioopdaa
open Go.RowKit V
attribute [local go_sem] Oper.semAt_some Option.isSome_some
namespace L12
theorem ownX_ext {W W' : World} {b e n k : Nat} {u : Value} {z : List Value} (h : W.ownsRow b e n u k z) (hx : Ext W W') : W'.ownsRow b e n u k z :=
  ownsRow_keep (S := fun b => b < W.heap.size) h (Keep.of_below hx (fun _ h => h)) (fun b hb => (h.lt b hb).2)
theorem OwnB.ext {W W' : World} {base : Nat} {p : PF} (h : OwnB W base p) (hx : Ext W W') : OwnB W' base p := ownX_ext h hx
theorem OwnB.base {W : World} {b b' : Nat} {p : PF} (h : OwnB W b p) (hb : b' ≤ b) : OwnB W b' p := own_base h hb
set_option maxRecDepth 100000 in
theorem isNil_none (W : World) : (binOp .eql 22 (.slice none 0 0) (.slice none 0 0)).run Try.prog W = .ok (.bool true) W := by rfl
set_option maxRecDepth 100000 in
theorem isNil_some (W : World) (p : Addr) (n c : Nat) : (binOp .eql 22 (.slice (some p) n c) (.slice none 0 0)).run Try.prog W = .ok (.bool false) W := by rfl
set_option maxRecDepth 100000 in
set_option maxHeartbeats 2000000 in
theorem Clone_calls (a : Option Addr) (c : Nat) (bs : List UInt8) (hl : bs.length ≤ 1000000) (w : World) (hv : Rd w 1 encB (.slice a bs.length c) bs) :
    Calls Try.prog 38 #[.slice a bs.length c] w fun e w' => ∃ a' c', e = .returned (.slice a' bs.length c') ∧ Ext w w' ∧ w'.ownsRow w.heap.size 5 1 (.slice a' bs.length c') bs.length (bs.flatMap encB) := by
  cases a with
  | none =>
    obtain ⟨a1, c1, e1, h1, h2, h3⟩ := hv
    simp only [Value.slice.injEq, true_and] at e1
    obtain ⟨rfl, rfl⟩ := e1
    obtain rfl := h2 rfl
    have hb : bs = [] := List.eq_nil_of_length_eq_zero (by omega)
    subst hb
    simp only [List.length_nil, List.flatMap_nil] at *
    go_enter Try.func38, Try.ntmps38
    have hn := isNil_none
    go_wp2_with fail
    go_ret
    exact ⟨none, 0, rfl, Ext.refl _, ⟨rfl, .inl (by simp)⟩⟩
  | some p =>
    have hn := fun W => isNil_some W p bs.length c
    have HV := Lib.hid hv
    have HB0 := Lib.hid (own_lit encB_len w ([] : List UInt8) 5 w.heap.size w.heap.size rfl (Nat.le_refl _) (by unfold maxLen; simp))
    clear hv
    go_enter Try.func38, Try.ntmps38
    go_wp2_with (at_builtin
                 refine wpList_app_rd rfl (.tmp 5) (.tmp 6) _ rfl Try.underlying22 infoB rfl (by decide) encB_len encB_one w _ _ [] bs rfl rfl HB0.out (HV.out.ext ((Ext.refl w).alloc _)) (by simp; omega) (by decide) ((Ext.refl w).alloc _) ?_
                 intro au5 cu5 w5 ho5 hx5
                 have HO5 := Lib.hid ho5
                 have HX5 := Lib.hid hx5
                 clear ho5 hx5)
    go_ret
    refine ⟨au5, cu5, by simp, HX5.out, ?_⟩
    simpa using HO5.out
set_option maxRecDepth 100000 in
set_option maxHeartbeats 2000000 in
theorem copied_calls (p : PF) (hl : p.bs.length ≤ 1000000) (w : World) (hv : Good w p) :
    Calls Try.prog 23 #[fV p] w fun e w' => ∃ q : PF, e = .returned (fV q) ∧ q.f = p.f ∧ OwnB w' w.heap.size q ∧ Ext w w' := by
  have hC := fun W (hx : Ext w W) => Clone_calls p.a p.c p.bs hl W (hv.ext hx)
  have hnew := heap_alloc_new w (.cells #[.string (str p.nm), .int .i64 p.dir, .slice p.a p.bs.length p.c] 24)
  obtain ⟨W1, hW1⟩ : ∃ W1, W1 = w.alloc (.cells #[.string (str p.nm), .int .i64 p.dir, .slice p.a p.bs.length p.c] 24) := ⟨_, rfl⟩
  have hx1 : Ext w W1 := by rw [hW1]; exact (Ext.refl _).alloc _
  have hs1 : W1.heap.size = w.heap.size + 1 := by rw [hW1]; simp
  rw [← hW1] at hnew
  have hnew2 := heap_alloc_new W1 (.cells #[.string ⟨#[]⟩, .int .i64 0, .slice none 0 0] 24)
  obtain ⟨W2, hW2⟩ : ∃ W2, W2 = W1.alloc (.cells #[.string ⟨#[]⟩, .int .i64 0, .slice none 0 0] 24) := ⟨_, rfl⟩
  have hx2 : Ext W1 W2 := by rw [hW2]; exact (Ext.refl _).alloc _
  rw [← hW2, hs1] at hnew2
  replace hnew := blk_ext hnew hx2
  have c0 := blk_cell hnew 0
  have c1 := blk_cell hnew 1
  have c2 := blk_cell hnew 2
  simp at c0 c1 c2
  have HW1 := Lib.hid hW1
  have HW2 := Lib.hid hW2
  have HS1 := Lib.hid hs1
  have HX2 := Lib.hid (hx1.trans hx2)
  have HN1 := Lib.hid hnew
  have HN2 := Lib.hid hnew2
  clear hW1 hW2 hs1 hx1 hx2 hnew hnew2 hv
  unfold fV
  have HhC := Lib.hid hC
  clear hC
  go_enter Try.func23, Try.ntmps23
  go_upto_region 1 with fail
  rw [← HW1.out, ← HW2.out]
  have hcc := c2
  go_wp2_with fail
  refine (HhC.out _ HX2.out).mono ?_
  rintro e w3 ⟨a', c', rfl, hx3, ho3⟩
  have HX3 := Lib.hid hx3
  have HO3 := Lib.hid ho3
  replace c0 := hx3.cell c0; replace c1 := hx3.cell c1
  have hb1 := blk_ext HN1.out hx3
  have hb2 := blk_ext HN2.out hx3
  have HB1 := Lib.hid hb1
  have HB2 := Lib.hid hb2
  clear c2 hcc ho3 hb1 hb2
  have c2 := blk_cell HB1.out 2
  have d0 := blk_cell HB2.out 0
  have d1 := blk_cell HB2.out 1
  have d2 := blk_cell HB2.out 2
  simp at c2 d0 d1 d2
  have f0 : w3.frozen? ⟨w.heap.size + 1, 0, none⟩ = false := by simp [World.frozen?, HB2.out]
  have f1 : w3.frozen? ⟨w.heap.size + 1, 1, none⟩ = false := by simp [World.frozen?, HB2.out]
  have f2 : w3.frozen? ⟨w.heap.size + 1, 2, none⟩ = false := by simp [World.frozen?, HB2.out]
  have f3 : w3.frozen? ⟨w.heap.size, 2, none⟩ = false := by simp [World.frozen?, HB1.out]
  go_wp2_with fail
  have hs2 : W2.heap.size = w.heap.size + 2 := by rw [HW2.out, World.size_alloc, HS1.out]
  have ho4 := HO3.out
  rw [hs2] at ho4
  have hbl : ((((w3.setCell ⟨w.heap.size, 2, none⟩ (.slice a' p.bs.length c')).setCell ⟨w.heap.size + 1, 0, none⟩ (.string (str p.nm))).setCell ⟨w.heap.size + 1, 1, none⟩ (.int .i64 p.dir)).setCell ⟨w.heap.size + 1, 2, none⟩ (.slice a' p.bs.length c')).heap[w.heap.size + 1]? = some (.cells #[.string (str p.nm), .int .i64 p.dir, .slice a' p.bs.length c'] 24 (0, 0)) :=
    Go.Joins.block_setCell (Go.Joins.block_setCell (Go.Joins.block_setCell ((heap_setCell_other w3 ⟨w.heap.size, 2, none⟩ (w.heap.size + 1) _ (by simp)).trans HB2.out) _) _) _
  have hxx : Ext w ((((w3.setCell ⟨w.heap.size, 2, none⟩ (.slice a' p.bs.length c')).setCell ⟨w.heap.size + 1, 0, none⟩ (.string (str p.nm))).setCell ⟨w.heap.size + 1, 1, none⟩ (.int .i64 p.dir)).setCell ⟨w.heap.size + 1, 2, none⟩ (.slice a' p.bs.length c')) :=
    ((((HX2.out.trans HX3.out).setCell (p := ⟨w.heap.size, 2, none⟩) (by simp) _).setCell (p := ⟨w.heap.size + 1, 0, none⟩) (by simp) _).setCell (p := ⟨w.heap.size + 1, 1, none⟩) (by simp) _).setCell (p := ⟨w.heap.size + 1, 2, none⟩) (by simp) _
  have hoo : ((((w3.setCell ⟨w.heap.size, 2, none⟩ (.slice a' p.bs.length c')).setCell ⟨w.heap.size + 1, 0, none⟩ (.string (str p.nm))).setCell ⟨w.heap.size + 1, 1, none⟩ (.int .i64 p.dir)).setCell ⟨w.heap.size + 1, 2, none⟩ (.slice a' p.bs.length c')).ownsRow (w.heap.size + 2) 5 1 (.slice a' p.bs.length c') p.bs.length (p.bs.flatMap encB) :=
    ownsRow_setCell_below (ownsRow_setCell_below (ownsRow_setCell_below (ownsRow_setCell_below ho4 (by show w.heap.size < _; omega) _) (by show w.heap.size + 1 < _; omega) _) (by show w.heap.size + 1 < _; omega) _) (by show w.heap.size + 1 < _; omega) _
  exact bodyPost_ret (v := .agg #[.string (str p.nm), .int .i64 p.dir, .slice a' p.bs.length c']) (results_cell_row Try.results23 _ _ _ _ _ _ _ rfl hbl Try.underlying24 rfl (by kernel_rfl)) rfl ⟨⟨p.nm, p.dir, p.bs, a', c'⟩, rfl, rfl, own_base hoo (by omega), hxx⟩
end L12
end Go.Proofs.Ytkmbahpjioopdaa
