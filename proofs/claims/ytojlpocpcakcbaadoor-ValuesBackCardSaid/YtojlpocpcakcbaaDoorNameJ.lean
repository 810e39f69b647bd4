/- Layer 10: the walk of the law NamesNumbers. -/
import Derived.Test.YtojlpocpcakcbaaDoorNameG
import Derived.Test.YtojlpocpcakcbaaDoorNameI
namespace Go.Proofs.YtojlpocpcakcbaaDoor
open Go.RowKit Go.Shelf Go.Sort V
attribute [local go_sem] Oper.semAt_some
namespace L10
theorem findF_lt (s : List UInt8) (no : Int) : (findL famT s no).1 < 4294967296 := by
  have h : ∀ x ∈ famT, x.2 < 4294967296 := by decide
  unfold findL
  split
  · rename_i x hx
    exact h x (List.mem_of_find?_eq_some hx)
  · show 0 < 4294967296; omega
set_option maxRecDepth 100000 in
set_option maxHeartbeats 4000000 in
theorem NamesNumbers_calls (s : ByteArray) (w : World) (ht : Tab w) : Calls Tryd.prog 3 #[.string s] w fun e w' => e = .returned (.bool true) ∧ Ext w w' := by
  by_cases hl : 200 < s.size
  · have h1 : decide (200 < s.size) = true := decide_eq_true hl
    have h2 : decide ((200 : Int) < (s.size : Int)) = true := decide_eq_true (by omega)
    have Hht := Lib.hid ht
    clear ht
    go_enter Tryd.func3, Tryd.ntmps3
    go_wp2_with fail
    go_ret
    exact ⟨rfl, Ext.refl _⟩
  · have h1 : decide (200 < s.size) = false := decide_eq_false hl
    have h2 : decide ((200 : Int) < (s.size : Int)) = false := decide_eq_false (by omega)
    have hE := fun W => Errno_calls s (by omega) W
    have hR := fun W => rErrno_calls s (by omega) W
    have hF := fun W => Family_calls s W
    have hS := fun W => Space_calls s W
    have hrF := fun W => rFamilies_calls W
    have hrS := fun W => rSpaces_calls W
    have hf1 := fun v W (h : Rd W 2 encQ v famT) => rFind_calls famT v s 180 W h (by decide)
    have hf2 := fun v W (h : Rd W 2 encQ v spT) => rFind_calls spT v s 181 W h (by decide)
    have hA := fun W (h : Tab W) => awake10_calls W h
    have hlt := findF_lt (bytes s) 180
    generalize findL famT (bytes s) 180 = R1 at *
    generalize findL spT (bytes s) 181 = R2 at *
    generalize errnoL (bytes s) = R3 at *
    obtain ⟨r1, q1⟩ := R1
    obtain ⟨r2, q2⟩ := R2
    obtain ⟨r3, q3⟩ := R3
    dsimp only at *
    have hwr : IntKind.u64.wrap (r1 : Int) = (r1 : Int) := by simp [IntKind.wrap, IntKind.signed, IntKind.bits]; omega
    have Hht := Lib.hid ht
    clear ht
    have HhE := Lib.hid hE
    clear hE
    have HhR := Lib.hid hR
    clear hR
    have HhF := Lib.hid hF
    clear hF
    have HhS := Lib.hid hS
    clear hS
    have HhrF := Lib.hid hrF
    clear hrF
    have HhrS := Lib.hid hrS
    clear hrS
    have Hhf1 := Lib.hid hf1
    clear hf1
    have Hhf2 := Lib.hid hf2
    clear hf2
    have HhA := Lib.hid hA
    clear hA
    go_enter Tryd.func3, Tryd.ntmps3
    go_wp2_with fail
    refine (HhE.out _).mono ?_
    rintro e w1 ⟨rfl, hx1⟩
    go_wp2_with fail
    refine (HhF.out _).mono ?_
    rintro e w2 ⟨rfl, hx2⟩
    go_wp2_with fail
    refine (HhS.out _).mono ?_
    rintro e w3 ⟨rfl, hx3⟩
    go_wp2_with fail
    refine (HhR.out _).mono ?_
    rintro e w4 ⟨rfl, hx4⟩
    have HX4 := Lib.hid (hx1.trans (hx2.trans (hx3.trans hx4)))
    clear hx1 hx2 hx3 hx4
    go_wp2_with fail
    refine (HhrF.out _).mono ?_
    rintro e w5 ⟨a5, c5, rfl, hx5, hr5⟩
    go_wp2_with fail
    refine (Hhf1.out _ _ hr5).mono ?_
    rintro e w6 ⟨rfl, hx6⟩
    have HX6 := Lib.hid (HX4.out.trans (hx5.trans hx6))
    clear hx5 hx6 hr5
    go_wp2_with fail
    refine (HhrS.out _).mono ?_
    rintro e w7 ⟨a7, c7, rfl, hx7, hr7⟩
    go_wp2_with fail
    refine (Hhf2.out _ _ hr7).mono ?_
    rintro e w8 ⟨rfl, hx8⟩
    have HX8 := Lib.hid (HX6.out.trans (hx7.trans hx8))
    clear hx7 hx8 hr7
    go_wp2_with fail
    refine (HhA.out _ (Hht.out.ext HX8.out)).mono ?_
    rintro e w9 ⟨rfl, hx9⟩
    go_wp2_with fail
    go_ret
    exact ⟨rfl, HX8.out.trans hx9⟩
end L10
end Go.Proofs.YtojlpocpcakcbaaDoor
