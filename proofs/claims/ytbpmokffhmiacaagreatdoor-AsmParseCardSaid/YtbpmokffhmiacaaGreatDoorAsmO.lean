/- Layer 7: the walks of the reference's shape and plain. -/
import Derived.Test.YtbpmokffhmiacaaGreatDoorAsmN
namespace Go.Proofs.YtbpmokffhmiacaaGreatDoor
open Go.RowKit Go.Shelf Go.Sort V
attribute [local go_sem] Oper.semAt_some
namespace L07
theorem shape_flat (code : Nat) : shape code = if decide ((entry code).nm = [108, 100, 108, 101, 110]) = true then 0 else if decide ((entry code).nm = [108, 100, 120, 108, 101, 110]) = true then 0 else if decide ((entry code).nm = [110, 101, 103]) = true then 0 else if decide ((entry code).nm = [114, 101, 116, 97]) = true then 0
    else if decide ((entry code).nm = [106, 97]) = true then 2 else if (entry code).cl = 1 then 1 else if (entry code).cl = 2 then 1 else if (entry code).cl = 5 then 1 else if (entry code).cl = 3 then (if wx code = true then 0 else 1) else if (entry code).cl = 4 then (if wx code = true then 4 else 3) else 0 := by
  rw [← shape_eq]
  unfold shapeR
  rw [wxR_eq]
  simp only [decide_eq_true_eq]
  by_cases h1 : (entry code).nm = [108, 100, 108, 101, 110]
  · rw [if_pos (.inl h1), if_pos h1]
  by_cases h2 : (entry code).nm = [108, 100, 120, 108, 101, 110]
  · rw [if_pos (.inr (.inl h2)), if_neg h1, if_pos h2]
  by_cases h3 : (entry code).nm = [110, 101, 103]
  · rw [if_pos (.inr (.inr (.inl h3))), if_neg h1, if_neg h2, if_pos h3]
  by_cases h4 : (entry code).nm = [114, 101, 116, 97]
  · rw [if_pos (.inr (.inr (.inr h4))), if_neg h1, if_neg h2, if_neg h3, if_pos h4]
  rw [if_neg (by simp [h1, h2, h3, h4]), if_neg h1, if_neg h2, if_neg h3, if_neg h4]
  by_cases h5 : (entry code).nm = [106, 97]
  · rw [if_pos h5, if_pos h5]
  rw [if_neg h5, if_neg h5]
  (repeat' split) <;> first | rfl | omega
set_option maxRecDepth 100000 in
set_option maxHeartbeats 8000000 in
theorem rshape_calls (code : Nat) (w : World) : Calls Tryz.prog 7 #[.int .u16 (code : Int)] w fun r w' => r = .returned (.int .i64 (shape code : Int)) ∧ Ext w w' := by
  have hO := fun W => rOf_calls code W
  have hX := fun W => rWithX_calls code W
  have hE := shape_flat code
  have hcl := cls_le code
  unfold clsW at hcl
  unfold enE at hO
  rw [hE]
  clear hE
  have b1 := beq_dec (entry code).nm [108, 100, 108, 101, 110]
  have b2 := beq_dec (entry code).nm [108, 100, 120, 108, 101, 110]
  have b3 := beq_dec (entry code).nm [110, 101, 103]
  have b4 := beq_dec (entry code).nm [114, 101, 116, 97]
  have b5 := beq_dec (entry code).nm [106, 97]
  generalize decide ((entry code).nm = [108, 100, 108, 101, 110]) = c1 at *
  generalize decide ((entry code).nm = [108, 100, 120, 108, 101, 110]) = c2 at *
  generalize decide ((entry code).nm = [110, 101, 103]) = c3 at *
  generalize decide ((entry code).nm = [114, 101, 116, 97]) = c4 at *
  generalize decide ((entry code).nm = [106, 97]) = c5 at *
  generalize entry code = e at *
  obtain ⟨c, nm, cl⟩ := e
  dsimp only at *
  generalize str nm = sn at *
  generalize wx code = x at *
  have HhO := Lib.hid hO
  clear hO
  have HhX := Lib.hid hX
  clear hX
  cases c1
  rotate_left
  · clear b2 b3 b4 b5
    go_enter Tryz.func7, Tryz.ntmps7
    go_wp2_with fail
    refine (HhO.out _).mono ?_
    rintro r w1 ⟨rfl, hx1⟩
    go_wp2_with fail
    go_ret
    exact ⟨rfl, hx1.alloc _⟩
  cases c2
  rotate_left
  · clear b3 b4 b5
    go_enter Tryz.func7, Tryz.ntmps7
    go_wp2_with fail
    refine (HhO.out _).mono ?_
    rintro r w1 ⟨rfl, hx1⟩
    go_wp2_with fail
    go_ret
    exact ⟨rfl, hx1.alloc _⟩
  cases c3
  rotate_left
  · clear b4 b5
    go_enter Tryz.func7, Tryz.ntmps7
    go_wp2_with fail
    refine (HhO.out _).mono ?_
    rintro r w1 ⟨rfl, hx1⟩
    go_wp2_with fail
    go_ret
    exact ⟨rfl, hx1.alloc _⟩
  cases c4
  rotate_left
  · clear b5
    go_enter Tryz.func7, Tryz.ntmps7
    go_wp2_with fail
    refine (HhO.out _).mono ?_
    rintro r w1 ⟨rfl, hx1⟩
    go_wp2_with fail
    go_ret
    exact ⟨rfl, hx1.alloc _⟩
  cases c5
  rotate_left
  · go_enter Tryz.func7, Tryz.ntmps7
    go_wp2_with fail
    refine (HhO.out _).mono ?_
    rintro r w1 ⟨rfl, hx1⟩
    go_wp2_with fail
    go_ret
    exact ⟨rfl, hx1.alloc _⟩
  obtain rfl | rfl | rfl | rfl | rfl | rfl | rfl : cl = 0 ∨ cl = 1 ∨ cl = 2 ∨ cl = 5 ∨ cl = 6 ∨ cl = 3 ∨ cl = 4 := by omega
  iterate 5
    · go_enter Tryz.func7, Tryz.ntmps7
      go_wp2_with fail
      refine (HhO.out _).mono ?_
      rintro r w1 ⟨rfl, hx1⟩
      go_wp2_with fail
      refine (HhX.out _).mono ?_
      rintro r w2 ⟨rfl, hx2⟩
      obtain ⟨-, -, cl2, -⟩ := blk3 hx2
      go_wp2_with fail
      go_ret
      exact ⟨rfl, (hx1.alloc _).trans hx2⟩
  all_goals
    cases x
    all_goals
      go_enter Tryz.func7, Tryz.ntmps7
      go_wp2_with fail
      refine (HhO.out _).mono ?_
      rintro r w1 ⟨rfl, hx1⟩
      go_wp2_with fail
      refine (HhX.out _).mono ?_
      rintro r w2 ⟨rfl, hx2⟩
      obtain ⟨-, -, cl2, -⟩ := blk3 hx2
      go_wp2_with fail
      go_ret
      exact ⟨rfl, (hx1.alloc _).trans hx2⟩
end L07
end Go.Proofs.YtbpmokffhmiacaaGreatDoor
