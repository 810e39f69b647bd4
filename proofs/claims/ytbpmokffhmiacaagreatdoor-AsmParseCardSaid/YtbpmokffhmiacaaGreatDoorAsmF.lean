/- Layer 7: the iterator leads: the places that an instruction jumps to. -/
import Derived.RangeFuncBox
import Derived.RangeFuncNested
import Derived.RangeFuncBound
import Derived.RangeFuncCalls
import Derived.RangeFuncLeaves
import Derived.Shelf.Abstract
import Derived.Shelf.RegionOpen
import Derived.WalkKit
import Derived.OwnWalkIn
import Derived.TacticsInMore
import Derived.LoopNIn
import Derived.LoopIn
import Derived.Test.YtbpmokffhmiacaaGreatDoorAsmE
namespace Go.Proofs.YtbpmokffhmiacaaGreatDoor
open Go.RowKit Go.Shelf V
attribute [local go_sem] Oper.semAt_some
namespace L07
/-- a place, bounded -/
abbrev Pl := { n : Nat // n ≤ 2000000000000 }
theorem blk4 {w1 : World} {B : Nat} {a b c d : Value} {t : TypeId} (hb : w1.heap[B]? = some (.cells #[a, b, c, d] t (0, 0))) :
    w1.cell? ⟨B, 0, none⟩ = some a ∧ w1.cell? ⟨B, 1, none⟩ = some b ∧ w1.cell? ⟨B, 2, none⟩ = some c ∧ w1.cell? ⟨B, 3, none⟩ = some d :=
  ⟨by simp [World.cell?, hb], by simp [World.cell?, hb], by simp [World.cell?, hb], by simp [World.cell?, hb]⟩
theorem blk_ext4 {w w1 : World} {B : Nat} {cs : Array Value} {t : TypeId} (hb : w.heap[B]? = some (.cells cs t (0, 0))) (hx : Ext w w1) : w1.heap[B]? = some (.cells cs t (0, 0)) :=
  (hx.block (Array.getElem?_eq_some_iff.1 hb).1).trans hb
set_option maxRecDepth 100000 in
set_option maxHeartbeats 4000000 in
theorem leads1_in (l bi ba : Nat) (S : Nat → Prop) (i : In) (p : Nat) (hN : OkN i) (hp : p ≤ 1099511627776) (J Jx : List Pl → World → Prop) (W : World)
    (hJa : ∀ q A B, J q A → Ext A B → J q B)
    (hY : ∀ pre (x : Pl) W, J pre W → pre.length < (leadsL i p).length → YieldAt Fence.wide 2 Tryz.prog l (#[.int .i64 (x.1 : Int)]) W fun e W' =>
      (e = .returned (.bool true) ∧ J (pre ++ [x]) W' ∧ Keep S W W') ∨ (e = .returned (.bool false) ∧ Jx (pre ++ [x]) W'))
    (hbi : S bi) (hba : S ba)
    (hci : W.heap[bi]? = some (.cells #[.int .u16 (i.c : Int), .int .u8 (i.jt : Int), .int .u8 (i.jf : Int), .int .u32 (i.k : Int)] 34 (0, 0)))
    (hca : W.cell? ⟨ba, 0, none⟩ = some (.int .i64 (p : Int))) (h0 : J [] W) :
    CallsIn Fence.wide 3 Tryz.prog 63 #[.func (.yield l) #[] #[], .pointer (some ⟨bi, 0, none⟩), .pointer (some ⟨ba, 0, none⟩)] W fun e W' => (∃ v, e = .returned v) ∧
      ((∃ ys : List Pl, ys.map Subtype.val = leadsL i p ∧ J ys W') ∨ (∃ pre : List Pl, pre.map Subtype.val <+: leadsL i p ∧ Jx pre W')) := by
  have hU := fun W => uses_calls i.c hN.c W
  obtain ⟨e0, e1, e2, e3⟩ := blk4 hci
  have hbd : ∀ n, n ∈ leadsL i p → n ≤ 2000000000000 := fun n hn => by have := leads_bd hN hn; omega
  have hL : leadsL i p = if oneU i.c = true then [p + 1 + i.k] else if twoU i.c = true then [p + 1 + i.jt, p + 1 + i.jf] else [] := rfl
  obtain ⟨-, hjt, hjf, hk⟩ := hN
  generalize hLe : leadsL i p = L at *
  obtain ⟨c, jt, jf, k⟩ := i
  dsimp only at *
  generalize oneU c = on at *
  generalize twoU c = tw at *
  generalize kU c = ku at *
  have hw1 : IntKind.i64.wrap ((p : Int) + 1) = (p : Int) + 1 := IntWalk.i64_in _ (by omega)
  have hw2 : IntKind.i64.wrap ((p : Int) + 1 + (k : Int)) = (p : Int) + 1 + (k : Int) := IntWalk.i64_in _ (by omega)
  have hw3 : IntKind.i64.wrap ((p : Int) + 1 + (jt : Int)) = (p : Int) + 1 + (jt : Int) := IntWalk.i64_in _ (by omega)
  have hw4 : IntKind.i64.wrap ((p : Int) + 1 + (jf : Int)) = (p : Int) + 1 + (jf : Int) := IntWalk.i64_in _ (by omega)
  have hw5 : IntKind.i64.wrap (k : Int) = (k : Int) := IntWalk.i64_in _ (by omega)
  have hw6 : IntKind.i64.wrap (jt : Int) = (jt : Int) := IntWalk.i64_in _ (by omega)
  have hw7 : IntKind.i64.wrap (jf : Int) = (jf : Int) := IntWalk.i64_in _ (by omega)
  obtain ⟨xk, hxk⟩ : ∃ x : Pl, x.1 = p + 1 + k := ⟨⟨p + 1 + k, by omega⟩, rfl⟩
  obtain ⟨xt, hxt⟩ : ∃ x : Pl, x.1 = p + 1 + jt := ⟨⟨p + 1 + jt, by omega⟩, rfl⟩
  obtain ⟨xf, hxf⟩ : ∃ x : Pl, x.1 = p + 1 + jf := ⟨⟨p + 1 + jf, by omega⟩, rfl⟩
  have HhU := Lib.hid hU
  clear hU
  have Hhci := Lib.hid hci
  clear hci
  clear hjt hjf hk hLe hbd
  refine callsIn_of_wp Tryz.func63 rfl trivial ?_ rfl
  simp only [Tryz.ntmps63, List.size_toArray, List.length_cons, List.length_nil, Nat.reduceAdd, Nat.reduceSub, Array.replicate_succ, Array.replicate_zero, List.push_toArray, List.append_toArray, List.nil_append, List.cons_append]
  cases on
  · cases tw
    · have hL2 : L = [] := hL
      subst hL2
      clear hY hxk hxt hxf hL
      gi_wp2_with (refine ⟨trivial, ?_⟩; gi_at_call 26; refine (callsIn_wide.2 (HhU.out _)).mono ?_; rintro e w1 ⟨rfl, hx1⟩; have hJ1 := hJa _ _ _ h0 hx1)
      go_end0
      exact ⟨⟨_, rfl⟩, .inl ⟨[], rfl, hJ1⟩⟩
    · have hL2 : L = [p + 1 + jt, p + 1 + jf] := hL
      clear hL
      have hlen0 : ([] : List Pl).length < L.length := by rw [hL2]; simp
      have hlen1 : ([xt] : List Pl).length < L.length := by rw [hL2]; simp
      have hend : ([xt, xf] : List Pl).map Subtype.val = L := by rw [hL2]; simp [hxt, hxf]
      have hpre : ([xt] : List Pl).map Subtype.val <+: L := by rw [hL2]; exact ⟨[p + 1 + jf], by simp [hxt]⟩
      clear hL2
      have Hhend := Lib.hid hend
      clear hend
      have Hhpre := Lib.hid hpre
      clear hpre
      have Hhxt := Lib.hid hxt
      clear hxt
      have Hhxf := Lib.hid hxf
      clear hxf
      have Hhlen0 := Lib.hid hlen0
      clear hlen0
      have Hhlen1 := Lib.hid hlen1
      clear hlen1
      gi_wp2_with (refine ⟨trivial, ?_⟩; gi_at_call 26; refine (callsIn_wide.2 (HhU.out _)).mono ?_; rintro e w1 ⟨rfl, hx1⟩; replace e1 := hx1.cell e1; replace e2 := hx1.cell e2; replace hca := hx1.cell hca; have HB1 := Lib.hid (blk_ext4 Hhci.out hx1); have hJ1 := hJa _ _ _ h0 hx1; clear e0 e3 h0; obtain ⟨fn, tmps, assign, body, hy, hR⟩ := hY [] xt w1 hJ1 Hhlen0.out; rw [Hhxt.out] at hy; simp only [Int.natCast_add, Int.natCast_one] at hy)
      refine hR.mono ?_
      rintro e W3 (⟨rfl, hJ3, hk3⟩ | ⟨rfl, hJx3⟩)
      · obtain ⟨fn, tmps, assign, body, hy2, hR2⟩ := hY [xt] xf W3 hJ3 Hhlen1.out
        rw [Hhxf.out] at hy2
        simp only [Int.natCast_add, Int.natCast_one] at hy2
        have hJc := hk3.cell (p := ⟨bi, 2, none⟩) hbi
        have hJd := hk3.cell (p := ⟨ba, 0, none⟩) hba
        have ⟨_, _, e2', _⟩ := blk4 HB1.out
        rw [e2'] at hJc
        rw [hca] at hJd
        clear hR hy e1 e2 hca
        gi_wp2
        refine hR2.mono ?_
        rintro e W4 (⟨rfl, hJ4, hk4⟩ | ⟨rfl, hJx4⟩)
        · gi_wp2
          go_end0
          exact ⟨⟨_, rfl⟩, .inl ⟨[xt, xf], Hhend.out, hJ4⟩⟩
        · gi_wp2
          go_end0
          exact ⟨⟨_, rfl⟩, .inr ⟨[xt, xf], ⟨[], by rw [List.append_nil]; exact Hhend.out⟩, hJx4⟩⟩
      · gi_wp2
        refine ⟨fun _ h => (by cases h), ?_⟩
        gi_wp2
        go_end0
        exact ⟨⟨_, rfl⟩, .inr ⟨[xt], Hhpre.out, hJx3⟩⟩
  · have hL2 : L = [p + 1 + k] := hL
    clear hL
    have hlen0 : ([] : List Pl).length < L.length := by rw [hL2]; simp
    have hend : ([xk] : List Pl).map Subtype.val = L := by rw [hL2]; simp [hxk]
    clear hL2
    have Hhend := Lib.hid hend
    clear hend
    have Hhxk := Lib.hid hxk
    clear hxk
    have Hhlen0 := Lib.hid hlen0
    clear hlen0
    gi_wp2_with (refine ⟨trivial, ?_⟩; gi_at_call 26; refine (callsIn_wide.2 (HhU.out _)).mono ?_; rintro e w1 ⟨rfl, hx1⟩; replace e3 := hx1.cell e3; replace hca := hx1.cell hca; have HB1 := Lib.hid (blk_ext4 Hhci.out hx1); have hJ1 := hJa _ _ _ h0 hx1; clear e0 e1 e2 h0; obtain ⟨fn, tmps, assign, body, hy, hR⟩ := hY [] xk w1 hJ1 Hhlen0.out; rw [Hhxk.out] at hy; simp only [Int.natCast_add, Int.natCast_one] at hy)
    refine hR.mono ?_
    rintro e W3 (⟨rfl, hJ3, hk3⟩ | ⟨rfl, hJx3⟩)
    · gi_wp2
      go_end0
      exact ⟨⟨_, rfl⟩, .inl ⟨[xk], Hhend.out, hJ3⟩⟩
    · gi_wp2
      go_end0
      exact ⟨⟨_, rfl⟩, .inr ⟨[xk], ⟨[], by rw [Hhend.out]; simp⟩, hJx3⟩⟩
theorem leads_calls (i : In) (p : Int) (w : World) :
    Calls Tryz.prog 46 #[inV i, .int .i64 p] w fun e w' => e = .returned (.func (.func 63) #[] #[.pointer (some ⟨w.heap.size, 0, none⟩), .pointer (some ⟨w.heap.size + 1, 0, none⟩)]) ∧
      (w.alloc (.cells #[.int .u16 (i.c : Int), .int .u8 (i.jt : Int), .int .u8 (i.jf : Int), .int .u32 (i.k : Int)] 34)).alloc (.cells #[.int .i64 p] 3) = w' := by
  unfold inV
  go_enter Tryz.func46, Tryz.ntmps46
  go_wp2
  go_ret
  exact ⟨rfl, rfl⟩
theorem leads_stops (bi ba : Nat) (S : Nat → Prop) (i : In) (p : Nat) (hN : OkN i) (hp : p ≤ 1099511627776) (w : World) (hbi : S bi) (hba : S ba)
    (hci : w.heap[bi]? = some (.cells #[.int .u16 (i.c : Int), .int .u8 (i.jt : Int), .int .u8 (i.jf : Int), .int .u32 (i.k : Int)] 34 (0, 0)))
    (hca : w.cell? ⟨ba, 0, none⟩ = some (.int .i64 (p : Int))) :
    SeqStopsK Fence.wide 3 Tryz.prog 63 #[.pointer (some ⟨bi, 0, none⟩), .pointer (some ⟨ba, 0, none⟩)] (fun x : Pl => #[.int .i64 (x.1 : Int)]) (Keep S) (fun ys => ys.map Subtype.val = leadsL i p) (fun pre => pre.map Subtype.val <+: leadsL i p) (leadsL i p).length w := fun l J Jx W hW hJ _ hY h0 => by
  have hE : Ext w W := hW
  exact leads1_in l bi ba S i p hN hp J Jx W (fun p A B h hx => hJ p A B none h ⟨hx.os, hx.tape, hx.output, hx.size, fun k hk _ => hx.block hk⟩ (fun r e => by cases e)) hY hbi hba (blk_ext4 hci hE) (hE.cell hca) h0
end L07
end Go.Proofs.YtbpmokffhmiacaaGreatDoor
