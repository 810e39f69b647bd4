import Derived.Test.YtkmhfjnjfghnjaaMq14
/- Layer 25: the walk of the writer's jump. -/
namespace Go.Proofs.Ytkmhfjnjfghnjaa
open Go.RowKit V
namespace L25W
open L25 (Sy encY encY_len encY_one)
open L21 (own_set own_ext own_typed set_ne)
theorem rows_ne' {W : World} {B t base e n k : Nat} {v u : Value} {zs : List Value} (hb : Boxed W B t u) (h : W.ownsRow base e n v k zs) (he : t ≠ e) : some B ≠ v.ownBlock := fun hg => by
  obtain ⟨cur, h0⟩ := own_typed h B hg.symm
  have := Option.some.inj (h0.symm.trans hb)
  simp only [Obj.cells.injEq] at this
  exact he this.2.1.symm
set_option maxRecDepth 100000 in
set_option maxHeartbeats 1000000 in
theorem jump_calls {w0 W : World} {B : Nat} {v v2 : Value} {ls : List Sy} {js : List Jm} (h : WS w0 B v v2 ls js W) (hl : ls.length ≤ 100000) (hj : js.length ≤ 100000) (code k th : Nat) (el : Option Nat) :
    Calls Try.prog 68 #[pv B, .int .u16 (code : Int), .int .u32 (k : Int), pv th, .pointer (el.map fun b => ⟨b, 0, none⟩)] W fun e w' => e = .returned (.tuple #[]) ∧
      ∃ v' v2' j, WS w0 B v' v2' (ls ++ [⟨code, k, 0, 0⟩]) (js ++ [j]) w' ∧ WK (fun _ => False) W w' ∧ j.at_ = ls.length ∧ j.code = code ∧ j.th = th ∧ j.el = el := by
  have HS := Lib.hid h
  have b0 := h.b0
  have hbb := h.lt
  obtain ⟨au, cu, rfl⟩ := own_form h.own
  obtain ⟨au2, cu2, rfl⟩ := own_form h.late
  obtain ⟨q, hq⟩ : ∃ q : Option Addr, q = el.map fun b => ⟨b, 0, none⟩ := ⟨_, rfl⟩
  rw [← hq]
  have HQ := Lib.hid hq
  clear h hq
  have b0x := fun o1 o2 o3 o4 => (((((Ext.refl W).alloc o1).alloc o2).alloc o3).alloc o4).cell b0
  clear b0
  unfold pv
  go_enter Try.func68, Try.ntmps68
  go_wp2_with fail
  obtain ⟨W1, hW1⟩ : ∃ W1, W1 = W.alloc (.cells #[.pointer (some ⟨B, 0, none⟩)] 92) := ⟨_, rfl⟩
  obtain ⟨W2, hW2⟩ : ∃ W2, W2 = W1.alloc (.cells #[.int .u16 (code : Int)] 68) := ⟨_, rfl⟩
  obtain ⟨W3, hW3⟩ : ∃ W3, W3 = W2.alloc (.cells #[.pointer (some ⟨th, 0, none⟩)] 96) := ⟨_, rfl⟩
  obtain ⟨W4, hW4⟩ : ∃ W4, W4 = W3.alloc (.cells #[.pointer q] 96) := ⟨_, rfl⟩
  obtain ⟨W5, hW5⟩ : ∃ W5, W5 = W4.alloc (.cells #[.int .i64 (ls.length : Int)] 3) := ⟨_, rfl⟩
  rw [← hW1, ← hW2, ← hW3, ← hW4, ← hW5]
  have s1 : W1.heap.size = W.heap.size + 1 := by rw [hW1]; simp
  have s2 : W2.heap.size = W.heap.size + 2 := by rw [hW2]; simp [s1]
  have s3 : W3.heap.size = W.heap.size + 3 := by rw [hW3]; simp [s2]
  have s4 : W4.heap.size = W.heap.size + 4 := by rw [hW4]; simp [s3]
  have s5 : W5.heap.size = W.heap.size + 5 := by rw [hW5]; simp [s4]
  have e1 : Ext W W1 := by rw [hW1]; exact (Ext.refl _).alloc _
  have e2 : Ext W1 W2 := by rw [hW2]; exact (Ext.refl _).alloc _
  have e3 : Ext W2 W3 := by rw [hW3]; exact (Ext.refl _).alloc _
  have e4 : Ext W3 W4 := by rw [hW4]; exact (Ext.refl _).alloc _
  have e5 : Ext W4 W5 := by rw [hW5]; exact (Ext.refl _).alloc _
  have x1 : Boxed W1 W.heap.size 92 (pv B) := by rw [hW1]; exact Boxed.new _ _ _
  have x2 : Boxed W2 (W.heap.size + 1) 68 (.int .u16 (code : Int)) := by rw [hW2, ← s1]; exact Boxed.new _ _ _
  have x3 : Boxed W3 (W.heap.size + 2) 96 (pv th) := by rw [hW3, ← s2]; exact Boxed.new _ _ _
  have x4 : Boxed W4 (W.heap.size + 3) 96 (.pointer q) := by rw [hW4, ← s3]; exact Boxed.new _ _ _
  have x5 : Boxed W5 (W.heap.size + 4) 3 (.int .i64 (ls.length : Int)) := by rw [hW5, ← s4]; exact Boxed.new _ _ _
  have hkp : ∀ {a b : World} {k t : Nat} {v : Value}, Ext a b → Boxed a k t v → Boxed b k t v := fun hx hb => (hx.block hb.lt).trans hb
  have HJ5 : Hid (JOk W5 B ⟨ls.length, code, th, el, W.heap.size + 2, W.heap.size, W.heap.size + 4, W.heap.size + 1, W.heap.size + 3⟩) :=
    Lib.hid ⟨hkp (e4.trans e5) x3, hkp (e2.trans (e3.trans (e4.trans e5))) x1, x5, hkp (e3.trans (e4.trans e5)) x2, by rw [← HQ.out]; exact hkp e5 x4⟩
  have HX5 := Lib.hid (e1.trans (e2.trans (e3.trans (e4.trans e5))))
  have HS5 := Lib.hid (HS.out.kept HX5.out)
  have HN5 := Lib.hid s5
  clear hW1 hW2 hW3 hW4 hW5 s1 s2 s3 s4 s5 e1 e2 e3 e4 e5 x1 x2 x3 x4 x5 hkp b0x
  refine (put_calls (ys := [⟨code, k, 0, 0⟩]) (HS5.out.kept ((Ext.refl W5).alloc _)) (rd_litY W5 [⟨code, k, 0, 0⟩] _ _ HN5.out.symm) (by simp; omega)).mono ?_
  rintro e w6 ⟨rfl, v6, hs6, hk6⟩
  have hk56 := WK.after _ hk6
  have hj6 := HJ5.out.kept hk56 (fun k hk => hk.elim)
  have b1 := hs6.b1
  have c0 := hj6.w.cell
  have hbb6 := hs6.lt
  dsimp only at c0
  unfold pv at c0
  have HS6 := Lib.hid hs6
  have HJ6 := Lib.hid hj6
  have HK6 := Lib.hid ((WK.ext HX5.out).trans hk56)
  have b1x := xwc b1
  clear hs6 hj6 hk6 hk56
  go_wp2_with fail
  have c0o := fun o => ((Ext.refl w6).alloc o).cell c0
  have b1o := fun o => ((Ext.refl w6).alloc o).cell b1
  (go_region_law
    ((refine step_app_g rfl (.tmp 26) (.tmp 28) _ rfl Try.underlying93 infoJ9 rfl (by decide) encJ_len encJ_one (B + 1) _ _ js [⟨ls.length, code, th, el, W.heap.size + 2, W.heap.size, W.heap.size + 4, W.heap.size + 1, W.heap.size + 3⟩] (by rfl) (by rfl) (by exact World.ownsRow.alloc HS6.out.late _) (Rd.ext ((Ext.refl _).drew) (rd_lit encJ_len w6 [⟨ls.length, code, th, el, W.heap.size + 2, W.heap.size, W.heap.size + 4, W.heap.size + 1, W.heap.size + 3⟩] _ _ rfl)) (by simp; omega) (by decide) (by simp; omega) ?_; intro au7 cu7 w7 ho7 hg7
      have HS7 := Lib.hid (HS6.out.kept (((Ext.refl w6).alloc (.cells #[Jm.val ⟨ls.length, code, th, el, W.heap.size + 2, W.heap.size, W.heap.size + 4, W.heap.size + 1, W.heap.size + 3⟩] 1)).drew))
      have HJ7 := Lib.hid (HJ6.out.kept (WK.ext (X := fun _ => False) (((Ext.refl w6).alloc (.cells #[Jm.val ⟨ls.length, code, th, el, W.heap.size + 2, W.heap.size, W.heap.size + 4, W.heap.size + 1, W.heap.size + 3⟩] 1)).drew)) (fun _ hk => hk.elim))
      have HR7 := Lib.hid (HS7.out.later hg7 HJ7.out (by dsimp only; simp) ho7)
      have c7 : w7.cell? ⟨W.heap.size, 0, none⟩ = some (.pointer (some ⟨B, 0, none⟩)) := hg7.cell (HJ7.out.w.cell) (rows_ne' HJ7.out.w HS7.out.late (by decide))
      have d7 : w7.cell? ⟨B, 1, none⟩ = some (.slice au2 js.length cu2) := hg7.cell HS7.out.b1 (fun e => by have := (HS7.out.late.lt _ e.symm).1; dsimp only at this; omega)
      have f7 : w7.frozen? ⟨B, 1, none⟩ = false := (World.frozen?_of_block (a := ⟨B, 1, none⟩) (hg7.block B HS7.out.lt (fun e => by have := (HS7.out.late.lt _ e.symm).1; omega))).trans (HS7.out.f 1)
      have hb7 := World.block_lt_of_cell? _ _ d7
      clear ho7 hg7)))
  all_goals
    go_wp2
    go_end0
    exact ⟨rfl, _, _, _, HR7.out.1, HK6.out.trans ((WK.ext (((Ext.refl w6).alloc (.cells #[Jm.val ⟨ls.length, code, th, el, W.heap.size + 2, W.heap.size, W.heap.size + 4, W.heap.size + 1, W.heap.size + 3⟩] 1)).drew)).trans HR7.out.2), rfl, rfl, rfl, rfl⟩
end L25W
end Go.Proofs.Ytkmhfjnjfghnjaa

