/- Layer 7: the walks of asm's uses and plain. -/
import Derived.Test.YtbpmokffhmiacaaGreatDoorAsmD
namespace Go.Proofs.YtbpmokffhmiacaaGreatDoor
open Go.RowKit V
attribute [local go_sem] Oper.semAt_some
namespace L07
theorem cls_le (c : Nat) : clsW c ≤ 6 := by
  unfold clsW
  rcases entry_of c with ⟨e, he, -, h, -⟩ | ⟨-, h, -⟩
  · rw [h]; exact (names_full e he).2.2.2.1
  · rw [h]; decide
theorem ne_nat (c n : Nat) : ((c : Int) == (n : Int)) = (c == n) ∧ ((c : Int) != (n : Int)) = !(c == n) := by
  have h : ((c : Int) == (n : Int)) = (c == n) := by rw [Bool.eq_iff_iff]; simp; omega
  exact ⟨h, by rw [bne, h]⟩
set_option maxRecDepth 100000 in
set_option maxHeartbeats 4000000 in
theorem uses_calls (c : Nat) (hc : c < 65536) (w : World) :
    Calls Tryz.prog 26 #[.int .u16 (c : Int)] w fun r w' => r = .returned (.tuple #[.bool (kU c), .bool (oneU c), .bool (twoU c)]) ∧ Ext w w' := by
  have hO := fun W => Of_calls c W
  have hX := fun W => WithX_calls c hc W
  have hcl := cls_le c
  have hk : kU c = (if clsW c = 1 then !(c == 128) && !(c == 129) else if clsW c = 2 then true else if clsW c = 3 then !(c == 132) && !wx c else if clsW c = 4 then !(c == 5) && !wx c else if clsW c = 5 then c == 6 else false) := rfl
  have h1 : oneU c = (clsW c == 4 && c == 5) := rfl
  have h2 : twoU c = (clsW c == 4 && !(c == 5)) := rfl
  rw [hk, h1, h2]
  clear hk h1 h2
  obtain ⟨q1, r1⟩ := ne_nat c 128
  obtain ⟨q2, r2⟩ := ne_nat c 129
  obtain ⟨q3, r3⟩ := ne_nat c 132
  obtain ⟨q4, r4⟩ := ne_nat c 5
  obtain ⟨q5, r5⟩ := ne_nat c 6
  generalize (c == 128) = b1 at *
  generalize (c == 129) = b2 at *
  generalize (c == 132) = b3 at *
  generalize (c == 5) = b4 at *
  generalize (c == 6) = b5 at *
  generalize clsW c = cl at *
  generalize wx c = x at *
  simp only [Int.cast_ofNat_Int] at q1 q2 q3 q4 q5 r1 r2 r3 r4 r5
  have HhX := Lib.hid hX
  clear hX
  have HhO := Lib.hid hO
  clear hO
  obtain rfl | rfl | rfl | rfl | rfl | rfl | rfl : cl = 0 ∨ cl = 1 ∨ cl = 2 ∨ cl = 3 ∨ cl = 4 ∨ cl = 5 ∨ cl = 6 := by omega
  · clear q1 q2 q3 q4 q5 r1 r2 r3 r4 r5
    go_enter Tryz.func26, Tryz.ntmps26
    go_wp2_with fail
    refine (HhO.out _).mono ?_
    rintro r w1 ⟨rfl, hx1⟩
    go_wp2_with fail
    go_ret3
    exact ⟨rfl, hx1⟩
  · clear q3 q4 q5 r3 r4 r5
    cases b1 <;> cases b2
    all_goals
      go_enter Tryz.func26, Tryz.ntmps26
      go_wp2_with fail
      refine (HhO.out _).mono ?_
      rintro r w1 ⟨rfl, hx1⟩
      go_wp2_with fail
      go_ret3
      exact ⟨rfl, hx1⟩
  · clear q1 q2 q3 q4 q5 r1 r2 r3 r4 r5
    go_enter Tryz.func26, Tryz.ntmps26
    go_wp2_with fail
    refine (HhO.out _).mono ?_
    rintro r w1 ⟨rfl, hx1⟩
    go_wp2_with fail
    go_ret3
    exact ⟨rfl, hx1⟩
  · clear q1 q2 q4 q5 r1 r2 r4 r5
    cases b3 <;> cases x
    all_goals
      go_enter Tryz.func26, Tryz.ntmps26
      go_wp2_with fail
      refine (HhO.out _).mono ?_
      rintro r w1 ⟨rfl, hx1⟩
      go_wp2_with fail
      first
        | (refine (HhX.out _).mono ?_; rintro r w2 ⟨rfl, hx2⟩; go_wp2_with fail; go_ret3; exact ⟨rfl, hx1.trans hx2⟩)
        | (go_ret3; exact ⟨rfl, hx1⟩)
  · clear q1 q2 q3 q5 r1 r2 r3 r5
    cases b4 <;> cases x
    all_goals
      go_enter Tryz.func26, Tryz.ntmps26
      go_wp2_with fail
      refine (HhO.out _).mono ?_
      rintro r w1 ⟨rfl, hx1⟩
      go_wp2_with fail
      first
        | (refine (HhX.out _).mono ?_; rintro r w2 ⟨rfl, hx2⟩; go_wp2_with fail; go_ret3; exact ⟨rfl, hx1.trans hx2⟩)
        | (go_ret3; exact ⟨rfl, hx1⟩)
  · clear q1 q2 q3 q4 r1 r2 r3 r4
    cases b5
    all_goals
      go_enter Tryz.func26, Tryz.ntmps26
      go_wp2_with fail
      refine (HhO.out _).mono ?_
      rintro r w1 ⟨rfl, hx1⟩
      go_wp2_with fail
      go_ret3
      exact ⟨rfl, hx1⟩
  · clear q1 q2 q3 q4 q5 r1 r2 r3 r4 r5
    go_enter Tryz.func26, Tryz.ntmps26
    go_wp2_with fail
    refine (HhO.out _).mono ?_
    rintro r w1 ⟨rfl, hx1⟩
    go_wp2_with fail
    go_ret3
    exact ⟨rfl, hx1⟩
/-- an instruction as a value; its cells -/
def inV (i : In) : Value := .agg #[.int .u16 (i.c : Int), .int .u8 (i.jt : Int), .int .u8 (i.jf : Int), .int .u32 (i.k : Int)]
def encN (i : In) : List Value := [.int .u16 (i.c : Int), .int .u8 (i.jt : Int), .int .u8 (i.jf : Int), .int .u32 (i.k : Int)]
theorem encN_len (i : In) : (encN i).length = 4 := rfl
theorem encN_one (i : In) : ∀ u ∈ encN i, u.oneCell' = true := by intro u hu; simp [encN] at hu; rcases hu with rfl | rfl | rfl | rfl <;> rfl
set_option maxRecDepth 100000 in
set_option maxHeartbeats 8000000 in
theorem plain_calls (i : In) (hN : OkN i) (w : World) :
    Calls Tryz.prog 45 #[inV i] w fun r w' => r = .returned (.bool (plainI i)) ∧ Ext w w' := by
  have hU := fun W => uses_calls i.c hN.c W
  have hK := fun W => Known_calls i.c W
  have hE : plainI i = ((known i.c && (kU i.c || (oneU i.c || i.k == 0))) && (twoU i.c || (i.jt == 0 && i.jf == 0))) := rfl
  rw [hE]
  unfold inV
  obtain ⟨c, jt, jf, k⟩ := i
  dsimp only at *
  clear hE hN
  obtain ⟨q1, -⟩ := ne_nat jt 0
  obtain ⟨q2, -⟩ := ne_nat jf 0
  obtain ⟨q3, -⟩ := ne_nat k 0
  simp only [Int.cast_ofNat_Int] at q1 q2 q3
  generalize (jt == 0) = b1 at *
  generalize (jf == 0) = b2 at *
  generalize (k == 0) = b3 at *
  generalize known c = kn at *
  generalize kU c = ku at *
  generalize oneU c = on at *
  generalize twoU c = tw at *
  have hn1 := heap_alloc_new w (.cells #[.int .u16 (c : Int), .int .u8 (jt : Int), .int .u8 (jf : Int), .int .u32 (k : Int)] 34)
  have HN1 := Lib.hid hn1
  clear hn1
  have HhU := Lib.hid hU
  clear hU
  have HhK := Lib.hid hK
  clear hK
  cases kn <;> cases ku <;> cases on <;> cases tw
  all_goals
    go_enter Tryz.func45, Tryz.ntmps45
    go_wp2_with fail
    refine (HhU.out _).mono ?_
    rintro r w1 ⟨rfl, hx1⟩
    have hb : w1.heap[w.heap.size]? = some (.cells #[.int .u16 (c : Int), .int .u8 (jt : Int), .int .u8 (jf : Int), .int .u32 (k : Int)] 34 (0, 0)) := (hx1.block (by simp)).trans HN1.out
    have c0 : w1.cell? ⟨w.heap.size, 0, none⟩ = some (.int .u16 (c : Int)) := by simp [World.cell?, hb]
    have c1 : w1.cell? ⟨w.heap.size, 1, none⟩ = some (.int .u8 (jt : Int)) := by simp [World.cell?, hb]
    have c2 : w1.cell? ⟨w.heap.size, 2, none⟩ = some (.int .u8 (jf : Int)) := by simp [World.cell?, hb]
    have c3 : w1.cell? ⟨w.heap.size, 3, none⟩ = some (.int .u32 (k : Int)) := by simp [World.cell?, hb]
    have HX1 := Lib.hid (((Ext.refl w).alloc _).trans hx1)
    clear hx1 hb
    go_wp2_with fail
    refine (HhK.out _).mono ?_
    rintro r w2 ⟨rfl, hx2⟩
    replace c1 := hx2.cell c1
    replace c2 := hx2.cell c2
    replace c3 := hx2.cell c3
    have HX2 := Lib.hid (HX1.out.trans hx2)
    clear hx2 c0
    cases b1 <;> cases b2 <;> cases b3 <;> (go_wp2_with fail; go_ret; exact ⟨rfl, HX2.out⟩)
end L07
end Go.Proofs.YtbpmokffhmiacaaGreatDoor
