/- Layer 12: the walk of the law LinesTrims; what the seat's program has laid out. -/
import Derived.Test.YteheegkdcphapaaLineG
import Derived.Test.YteheegkdcphapaaLineJ
import Derived.Test.YteheegkdcphapaaLift
namespace Go.Proofs.Yteheegkdcphapaa
open Go.RowKit Go.ChangeShapes Go.WideShapes Go.ChangeAt V
theorem Try.own : ownKnob Try.prog.godebug = none := by kernel_rfl
theorem Try.laidOut : laidOutB Try.prog = true := by kernel_rfl
namespace L12
theorem wf_u8 {x : Int} (h : (Lit.int .u8 x).wf = true) : ∃ c : UInt8, x = (c.toNat : Int) := by
  simp [Lit.wf, IntKind.min, IntKind.max, IntKind.signed, IntKind.bits] at h
  refine ⟨UInt8.ofNat x.toNat, ?_⟩
  rw [UInt8.toNat_ofNat']
  omega
section
variable {H : Type} {enc : TypeId × Value → H} {W : World}
theorem dec_B (fuel : Nat) (cs : List Value) (y : DataW H × List MemPlace) (h : DataW.trod enc Try.prog W 0 (fun _ => true) true fuel 5 cs = some y) : ∃ n : UInt8, cs = encB n ∧ True := by
  obtain ⟨a, e0, _, wa⟩ := DataW.trod_int Try.underlying5 h
  obtain ⟨c, rfl⟩ := wf_u8 wa
  exact ⟨c, e0, trivial⟩
theorem dec_S1 (fuel : Nat) (cs : List Value) (y : DataW H × List MemPlace) (h : DataW.trod enc Try.prog W 0 (fun _ => true) true fuel 9 cs = some y) : ∃ n : List UInt8, cs = encS1 n ∧ n.length ≤ maxLen := by
  obtain ⟨s, e0, _, hs⟩ := DataW.trod_string Try.underlying9 h
  exact ⟨bytes s, by rw [e0]; unfold encS1; rw [str_bytes], by rw [bytes_len]; exact hs⟩
end
set_option maxRecDepth 100000 in
set_option maxHeartbeats 1000000 in
theorem LinesTrims_calls (s : ByteArray) (hs : s.size ≤ maxLen) (w : World) : Calls Try.prog 4 #[.string s] w fun e w' => e = .returned (.bool true) ∧ Ext w w' := by
  have hA := fun W => awake_calls W
  unfold maxLen at hs
  by_cases hl : 2000 < s.size
  · have h1 : decide (2000 < s.size) = true := decide_eq_true hl
    have h2 : decide ((2000 : Int) < (s.size : Int)) = true := decide_eq_true (by omega)
    have HhA := Lib.hid hA
    clear hA
    have Hhl := Lib.hid hl
    clear hl
    go_enter Try.func4, Try.ntmps4
    go_wp2_with fail
    go_ret
    exact ⟨rfl, Ext.refl _⟩
  · have h1 : decide (2000 < s.size) = false := decide_eq_false hl
    have h2 : decide ((2000 : Int) < (s.size : Int)) = false := decide_eq_false (by omega)
    have hT := fun W => Trim_calls s (by unfold maxLen; omega) W
    have hT2 := fun W => rTrim_calls s (by omega) W
    have hC := fun W => Comment_calls s (by unfold maxLen; omega) W
    have hC2 := fun W => rComment_calls s (by omega) W
    generalize str (trimL (bytes s)) = t at *
    generalize commentL (bytes s) = cb at *
    have HhA := Lib.hid hA
    clear hA
    have HhT := Lib.hid hT
    clear hT
    have HhT2 := Lib.hid hT2
    clear hT2
    have HhC := Lib.hid hC
    clear hC
    have HhC2 := Lib.hid hC2
    clear hC2
    go_enter Try.func4, Try.ntmps4
    go_wp2_with fail
    refine (HhT.out _).mono ?_
    rintro e w1 ⟨rfl, rfl⟩
    go_wp2_with fail
    refine (HhT2.out _).mono ?_
    rintro e w1 ⟨rfl, rfl⟩
    go_wp2_with fail
    refine (HhC.out _).mono ?_
    rintro e w1 ⟨rfl, rfl⟩
    go_wp2_with fail
    refine (HhC2.out _).mono ?_
    rintro e w1 ⟨rfl, rfl⟩
    go_wp2_with fail
    refine (HhA.out _).mono ?_
    rintro e w1 ⟨rfl, hx⟩
    go_wp2_with fail
    go_ret
    exact ⟨rfl, hx⟩
end L12
end Go.Proofs.Yteheegkdcphapaa
