/- Layer 13: the walk of the reader's step. -/
import Derived.StillTailTactics
import Derived.Deep.RegionLaw
import Derived.Test.YtkmbahpjioopdaaUnitD
namespace Go.Proofs.Ytkmbahpjioopdaa
open Go.RowKit Go.Shelf V
attribute [local go_sem] Oper.semAt_some Option.isSome_some
namespace L12
def stepU (st : US) (x : LN) : US :=
  if (sectionL x.2).2 = true then ⟨(sectionL x.2).1, true, st.al, st.nl⟩
  else if (assignL x.2).2.2 = true ∧ st.inn = true then ⟨st.sec, st.inn, st.al ++ [(x.1, st.sec, (assignL x.2).1, (assignL x.2).2.1)], st.nl⟩
  else ⟨st.sec, st.inn, st.al, st.nl ++ [(x.1, 130, x.2.take 60)]⟩
def lineV (x : LN) : Value := .agg #[.int .i64 (x.1 : Int), .string (str x.2)]
set_option maxRecDepth 100000 in
set_option maxHeartbeats 4000000 in
theorem line_calls {w0 W : World} {F N R B0 : Nat} {fn : ByteArray} {st : US} {u1 u2 : Value} (h : S13 w0 F N R B0 fn st u1 u2 W) (x : LN) (hx : x.2.length ≤ 2000000000) (hn : st.nl.length ≤ 1000000) (ha : st.al.length ≤ 1000000) :
    Calls Try.prog 35 #[.pointer (some ⟨R, 0, none⟩), lineV x] W fun e w' => e = .returned (.tuple #[]) ∧ ∃ u1' u2', S13 w0 F N R B0 fn (stepU st x) u1' u2' w' ∧ K13 N R B0 W w' := by
  have hSc := fun W => Section_calls (str x.2) (by rw [str_size]; exact hx) W
  have hAs := fun W => Assignment_calls (str x.2) (by rw [str_size]; exact hx) W
  rw [show bytes (str x.2) = x.2 from by simp [bytes]] at hSc hAs
  obtain ⟨n, t⟩ := x
  obtain ⟨sc, hsc⟩ : ∃ sc, sc = sectionL t := ⟨_, rfl⟩
  obtain ⟨ag, hag⟩ : ∃ ag, ag = assignL t := ⟨_, rfl⟩
  have hst : stepU st (n, t) = if sc.2 = true then ⟨sc.1, true, st.al, st.nl⟩ else if ag.2.2 = true ∧ st.inn = true then ⟨st.sec, st.inn, st.al ++ [(n, st.sec, ag.1, ag.2.1)], st.nl⟩ else ⟨st.sec, st.inn, st.al, st.nl ++ [(n, 130, t.take 60)]⟩ := by rw [hsc, hag]; rfl
  rw [hst]
  dsimp only at hSc hAs hx
  rw [← hsc] at hSc
  rw [← hag] at hAs
  unfold secV at hSc
  unfold asgV at hAs
  obtain ⟨s1, s2⟩ := sc
  obtain ⟨a1, a2, a3⟩ := ag
  obtain ⟨sec, inn, al, nl⟩ := st
  dsimp only at *
  unfold lineV
  have hbx : Boxed (W.alloc (.cells #[.int .i64 (n : Int), .string (str t)] 90)) W.heap.size 90 (.int .i64 (n : Int)) ∨ True := .inr trivial
  clear hbx
  have q0 : (W.alloc (.cells #[.int .i64 (n : Int), .string (str t)] 90)).cell? ⟨W.heap.size, 0, none⟩ = some (.int .i64 (n : Int)) := cells_new W [.int .i64 (n : Int), .string (str t)] _ 0 _ rfl
  have q1 : (W.alloc (.cells #[.int .i64 (n : Int), .string (str t)] 90)).cell? ⟨W.heap.size, 1, none⟩ = some (.string (str t)) := cells_new W [.int .i64 (n : Int), .string (str t)] _ 1 _ rfl
  have hS := h.ext' ((Ext.refl W).alloc (.cells #[.int .i64 (n : Int), .string (str t)] 90))
  have hKA : K13 N R B0 W _ := K13.ext h.bs ((Ext.refl W).alloc (.cells #[.int .i64 (n : Int), .string (str t)] 90))
  have HKA := Lib.hid hKA
  have HS := Lib.hid hS
  clear hS hKA hsc hag hst h
  have HhSc := Lib.hid hSc
  clear hSc
  have HhAs := Lib.hid hAs
  clear hAs
  go_enter Try.func35, Try.ntmps35
  go_wp2_with fail
  generalize hW1 : W.alloc (.cells #[.int .i64 (n : Int), .string (str t)] 90) = W1 at *
  clear hW1
  generalize W.heap.size = lb at *
  refine (HhSc.out _).mono ?_
  rintro e w2 ⟨rfl, hx2⟩
  have q02 := hx2.cell q0
  have q12 := hx2.cell q1
  have HX2 := Lib.hid hx2
  have HS2 := Lib.hid (HS.out.ext' hx2)
  have HK2 := Lib.hid (HKA.out.trans (K13.ext HS.out.bs hx2))
  clear hx2 q0 q1
  cases s2
  case true =>
    have hr1 := HS2.out.setR 1 (.string (str s1)) s1 inn rfl
    have hr2 := hr1.1.setR 2 (.bool true) s1 true rfl
    have HR := Lib.hid (And.intro hr2.1 (HK2.out.trans (hr1.2.trans hr2.2)))
    obtain ⟨r0, r1, r2, r3, r4⟩ := HS2.out.c
    have rf1 := HS2.out.f 1
    have rf2 := HS2.out.f 2
    have rlt := HS2.out.lt
    clear hr1 hr2
    go_wp2_with fail
    refine bodyPost_ret (results_none rfl _ _ _) rfl ?_
    exact ⟨rfl, ⟨_, _, HR.out.1⟩, HR.out.2⟩
  case false =>
    go_wp2_with fail
    refine (HhAs.out _).mono ?_
    rintro e w3 ⟨rfl, hx3⟩
    have q03 := hx3.cell q02
    have q13 := hx3.cell q12
    have HX3 := Lib.hid hx3
    have HS3 := Lib.hid (HS2.out.ext' hx3)
    have HK3 := Lib.hid (HK2.out.trans (K13.ext HS2.out.bs hx3))
    clear hx3 q02 q12
    obtain ⟨r0, r1, r2, r3, r4⟩ := HS3.out.c
    have rf3 := HS3.out.f 3
    have rlt := HS3.out.lt
    dsimp only at r1 r2
    unfold wrongV at r4
    obtain ⟨k, hk⟩ : ∃ k, k = min t.length 60 := ⟨_, rfl⟩
    have hmz : min (t.length : Int) 60 = (k : Int) := by omega
    have hkl : k ≤ t.length := by omega
    have hkz : (k : Int) ≤ (t.length : Int) := by omega
    have hex : (str t).extract 0 k = str (t.take 60) := bytes_inj (by
      rw [bytes_ext, List.drop_zero, Nat.sub_zero, show bytes (str t) = t from by simp [bytes], show bytes (str (t.take 60)) = t.take 60 from by simp [bytes], hk]
      by_cases hh : t.length ≤ 60
      · rw [Nat.min_eq_left hh, List.take_of_length_le (Nat.le_refl _), List.take_of_length_le hh]
      · rw [Nat.min_eq_right (by omega)])
    have Hhk := Lib.hid hk
    clear hk
    cases a3 <;> cases inn
    case true.true =>
      obtain ⟨au2, cu2, rfl⟩ := own_form HS3.out.own2
      dsimp only at r3
      have r3o := fun o => ((Ext.refl w3).alloc o).cell r3
      have hlo2 := HS3.out.own2.lt
      obtain ⟨o, ho⟩ : ∃ o, o = Obj.cells #[.string fn, .int .i64 (n : Int), .string (str sec), .string (str a1), .string (str a2)] 64 := ⟨_, rfl⟩
      have HSA := Lib.hid (HS3.out.ext' (((Ext.refl w3).alloc o).drew))
      have HKA2 := Lib.hid (HK3.out.trans (K13.ext HS3.out.bs (((Ext.refl w3).alloc o).drew)))
      subst ho
      have Hhlo2 := Lib.hid hlo2
      clear hlo2
      clear r4
      go_wp2_with fail
      (go_region_law
        ((refine step_app_g rfl (.tmp 57) (.tmp 71) _ rfl Try.underlying37 infoAs rfl (by decide) (encAs_len fn) (encAs_one fn) B0 _ _ al [(n, sec, a1, a2)] (by rfl) (by rfl) (by exact HSA.out.own2) (Rd.ext ((Ext.refl _).drew) (rd_lit (encAs_len fn) w3 [(n, sec, a1, a2)] _ _ rfl)) (by simp; omega) (by decide) (by exact HSA.out.bs) ?_; intro au7 cu7 w7 ho7 hg7
          have HR7 := Lib.hid (HSA.out.more (x := (n, sec, a1, a2)) hg7 (by rw [List.length_append]; exact ho7))
          have hnr7 : (some R : Option Nat) ≠ Value.ownBlock (.slice au2 al.length cu2) := fun e => by have := (Hhlo2.out R e.symm).1; have := HSA.out.rb; omega
          have c7 : w7.cell? ⟨R, 3, none⟩ = some (.slice au2 al.length cu2) := hg7.cell HSA.out.c.2.2.2.1 hnr7
          have f7 : w7.frozen? ⟨R, 3, none⟩ = false := (World.frozen?_of_block (a := ⟨R, 3, none⟩) (hg7.block R HSA.out.lt hnr7)).trans (HSA.out.f 3)
          have hb7 := World.block_lt_of_cell? _ _ c7
          clear ho7 hg7 hnr7)))
      all_goals
        go_wp2_with fail
        go_end0
        exact ⟨rfl, ⟨_, _, HR7.out.1⟩, HKA2.out.trans HR7.out.2⟩
    all_goals
      go_wp2_with fail
      go_still_tail 13, (by kernel_rfl)
      change wpList _ _ _ _ _ w3.drew
      have HS4 := Lib.hid (HS3.out.ext' ((Ext.refl w3).drew))
      have HK4 := Lib.hid (HK3.out.trans (K13.ext HS3.out.bs ((Ext.refl w3).drew)))
      generalize w3.drew = w4 at *
      clear r0 r1 r2 r3 r4 rf3 rlt q03 q13
      go_wp2_with fail
      refine (wrong_calls n 130 (t.take 60) HS4.out.notes HS4.out.file HS4.out.own1 HS4.out.nb HS4.out.bs hn).mono ?_
      rintro e w5 ⟨rfl, u1', hk5, hb5, ho5⟩
      have HR := Lib.hid (HS4.out.note hk5 hb5 ho5)
      clear hk5 hb5 ho5
      go_wp2_with fail
      refine bodyPost_ret (results_none rfl _ _ _) rfl ?_
      exact ⟨rfl, ⟨_, _, HR.out.1⟩, HK4.out.trans HR.out.2⟩
end L12
end Go.Proofs.Ytkmbahpjioopdaa
