/- Layer 7: the walks of the reference's plain, digits, Line. -/
import Derived.Test.YtbpmokffhmiacaaGreatDoorAsmO
namespace Go.Proofs.YtbpmokffhmiacaaGreatDoor
open Go.RowKit Go.Shelf Go.Sort V
attribute [local go_sem] Oper.semAt_some
namespace L07
theorem plain_flat (i : In) : plainI i = (known i.c && ((shape i.c == 1 || (shape i.c == 2 || (shape i.c == 3 || i.k == 0))) && (decide (2 < shape i.c) || (i.jt == 0 && i.jf == 0)))) := by
  obtain ⟨h1, h2, h3⟩ := uses_eq i.c
  unfold plainI
  rw [h1, h2, h3]
  generalize known i.c = a
  generalize (shape i.c == 1) = b
  generalize (shape i.c == 2) = c
  generalize (shape i.c == 3) = d
  generalize (i.k == 0) = e
  generalize (decide (2 < shape i.c) || (i.jt == 0 && i.jf == 0)) = f
  cases a <;> cases b <;> cases c <;> cases d <;> cases e <;> cases f <;> rfl
set_option maxRecDepth 100000 in
set_option maxHeartbeats 8000000 in
theorem rplain_calls (i : In) (w : World) : Calls Tryz.prog 8 #[inV i] w fun r w' => r = .returned (.bool (plainI i)) ∧ Ext w w' := by
  have hS := fun W => rshape_calls i.c W
  have hK := fun W => rKnown_calls i.c W
  have hE := plain_flat i
  have hsl := shape_le i.c
  rw [hE]
  clear hE
  unfold inV
  obtain ⟨c, jt, jf, k⟩ := i
  dsimp only at *
  obtain ⟨q1, r1⟩ := ne_nat jt 0
  obtain ⟨q2, r2⟩ := ne_nat jf 0
  obtain ⟨q3, r3⟩ := ne_nat k 0
  simp only [Int.cast_ofNat_Int] at q1 q2 q3 r1 r2 r3
  generalize (jt == 0) = bj at *
  generalize (jf == 0) = bf at *
  generalize (k == 0) = bk at *
  generalize shape c = s at *
  generalize known c = kn at *
  obtain ⟨W0, hW0⟩ : ∃ W0, w.alloc (.cells #[.int .u16 (c : Int), .int .u8 (jt : Int), .int .u8 (jf : Int), .int .u32 (k : Int)] 34) = W0 := ⟨_, rfl⟩
  have hci : W0.heap[w.heap.size]? = some (.cells #[.int .u16 (c : Int), .int .u8 (jt : Int), .int .u8 (jf : Int), .int .u32 (k : Int)] 34 (0, 0)) := by rw [← hW0]; exact heap_alloc_new _ _
  have hXW0 : Ext w W0 := by rw [← hW0]; exact (Ext.refl w).alloc _
  obtain ⟨e0, e1, e2, e3⟩ := blk4 hci
  have Hhci := Lib.hid hci
  clear hci
  have HhS := Lib.hid hS
  clear hS
  have HhK := Lib.hid hK
  clear hK
  have HhXW0 := Lib.hid hXW0
  clear hXW0
  have hgo : s = 0 ∨ s = 1 ∨ s = 2 ∨ s = 3 ∨ s = 4 := by omega
  clear hsl
  cases kn
  · clear q1 r1 q2 r2 q3 r3
    go_enter Tryz.func8, Tryz.ntmps8
    go_wp2_with (first
      | (go_at_call 7; refine (HhS.out _).mono ?_; rintro r w1 ⟨rfl, hx1⟩; replace e0 := hx1.cell e0; have HX1 := Lib.hid hx1; clear hx1)
      | (go_at_call 19; refine (HhK.out _).mono ?_; rintro r w2 ⟨rfl, hx2⟩; have HX2 := Lib.hid hx2; clear hx2))
    all_goals
      go_ret
      exact ⟨by simp, HhXW0.out.trans (HX1.out.trans HX2.out)⟩
  cases bj <;> cases bf <;> cases bk <;> rcases hgo with rfl | rfl | rfl | rfl | rfl
  all_goals
    go_enter Tryz.func8, Tryz.ntmps8
    go_wp2_with (first
      | (go_at_call 7; refine (HhS.out _).mono ?_; rintro r w1 ⟨rfl, hx1⟩; replace e0 := hx1.cell e0; replace e1 := hx1.cell e1; replace e2 := hx1.cell e2; replace e3 := hx1.cell e3; have HX1 := Lib.hid hx1; clear hx1)
      | (go_at_call 19; refine (HhK.out _).mono ?_; rintro r w2 ⟨rfl, hx2⟩; replace e1 := hx2.cell e1; replace e2 := hx2.cell e2; replace e3 := hx2.cell e3; have HX2 := Lib.hid hx2; clear hx2))
    go_ret
    exact ⟨by simp, HhXW0.out.trans (HX1.out.trans HX2.out)⟩
end L07
end Go.Proofs.YtbpmokffhmiacaaGreatDoor
