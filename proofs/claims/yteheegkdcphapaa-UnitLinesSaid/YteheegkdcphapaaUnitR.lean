/- Layer 13: the walk of the law UnitLines. -/
import Derived.Test.YteheegkdcphapaaUnitN
import Derived.Test.YteheegkdcphapaaUnitQ
namespace Go.Proofs.Yteheegkdcphapaa
open Go.RowKit Go.Shelf V
attribute [local go_sem] Oper.semAt_some Option.isSome_some
namespace L12
set_option maxRecDepth 100000 in
set_option maxHeartbeats 2000000 in
theorem UnitLines_calls (s : ByteArray) (w : World) : Calls Try.prog 9 #[.string s] w fun e w' => e = .returned (.bool true) ∧ Ext w w' := by
  have hA := fun W => awake13_calls W
  by_cases hl : 2000 < s.size
  · have h1 : decide (2000 < s.size) = true := decide_eq_true hl
    have h2 : decide ((2000 : Int) < (s.size : Int)) = true := decide_eq_true (by omega)
    have HhA := Lib.hid hA
    clear hA
    have Hhl := Lib.hid hl
    clear hl
    go_enter Try.func9, Try.ntmps9
    go_wp2_with fail
    go_ret
    exact ⟨rfl, Ext.refl _⟩
  · have h1 : decide (2000 < s.size) = false := decide_eq_false hl
    have h2 : decide ((2000 : Int) < (s.size : Int)) = false := decide_eq_false (by omega)
    have hS := fun W => Section_calls s (by omega) W
    have hS2 := fun W => refSection_calls s (by omega) W
    have hG := fun W => Assignment_calls s (by omega) W
    have hG2 := fun W => refAssignment_calls s (by omega) W
    unfold secV at hS hS2
    unfold asgV at hG hG2
    generalize sectionL (bytes s) = sc at *
    generalize assignL (bytes s) = ag at *
    obtain ⟨s1, s2⟩ := sc
    obtain ⟨a1, a2, a3⟩ := ag
    dsimp only at hS hS2 hG hG2
    generalize str s1 = b1 at *
    generalize str a1 = b2 at *
    generalize str a2 = b3 at *
    have HhA := Lib.hid hA
    clear hA
    have HhS := Lib.hid hS
    clear hS
    have HhS2 := Lib.hid hS2
    clear hS2
    have HhG := Lib.hid hG
    clear hG
    have HhG2 := Lib.hid hG2
    clear hG2
    go_enter Try.func9, Try.ntmps9
    go_wp2_with fail
    refine (HhS.out _).mono ?_
    rintro e w1 ⟨rfl, hx1⟩
    go_wp2_with fail
    refine (HhS2.out _).mono ?_
    rintro e w2 ⟨rfl, rfl⟩
    go_wp2_with fail
    refine (HhG.out _).mono ?_
    rintro e w3 ⟨rfl, hx3⟩
    go_wp2_with fail
    refine (HhG2.out _).mono ?_
    rintro e w4 ⟨rfl, hx4⟩
    go_wp2_with fail
    refine (HhA.out _).mono ?_
    rintro e w5 ⟨rfl, hx5⟩
    go_wp2_with fail
    go_ret
    exact ⟨rfl, hx1.trans (hx3.trans (hx4.trans hx5))⟩
end L12
end Go.Proofs.Yteheegkdcphapaa
