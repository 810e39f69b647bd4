/- Layer 13: the walk of Parse. -/
import Derived.Test.YtkmbahpjioopdaaLineG
import Derived.Test.YtkmbahpjioopdaaUnitF
import Derived.Test.YtkmbahpjioopdaaUnitG
namespace Go.Proofs.Ytkmbahpjioopdaa
open Go.RowKit Go.Shelf V
attribute [local go_sem] Oper.semAt_some Option.isSome_some
namespace L12
def foldU (bs : List UInt8) : US := (splitA bs).1.foldl stepU ⟨[], false, [], []⟩
def parseL (bs : List UInt8) : List As × List Nt :=
  if (splitA bs).2 ≠ 0 then ([], [(0, (splitA bs).2.toNat, [])])
  else if (foldU bs).nl ≠ [] then ([], (foldU bs).nl)
  else ((foldU bs).al, [])
def fileV (fn : ByteArray) (d : Int) (v : Value) : Value := .agg #[.string fn, .int .i64 d, v]
set_option maxRecDepth 100000 in
set_option maxHeartbeats 4000000 in
theorem Parse_calls (fn : ByteArray) (d : Int) (v : Value) (bs : List UInt8) (hl : bs.length ≤ 1000000) (w : World) (hv : Rd w 1 encB v bs) :
    Calls Try.prog 20 #[fileV fn d v] w fun e w' => ∃ ua un, e = .returned (.tuple #[ua, un]) ∧ Ext w w' ∧
      w'.ownsRow w.heap.size 64 5 ua (parseL bs).1.length ((parseL bs).1.flatMap (encAs fn)) ∧ w'.ownsRow w.heap.size 47 4 un (parseL bs).2.length ((parseL bs).2.flatMap (encNt fn)) := by
  obtain ⟨av, cv, hvs, -⟩ := rdB_cell hv
  have hP : parseL bs = if (splitA bs).2 ≠ 0 then ([], [(0, (splitA bs).2.toNat, [])]) else if (foldU bs).nl ≠ [] then ([], (foldU bs).nl) else ((foldU bs).al, []) := rfl
  have hfl := foldU_len (splitA bs).1 ⟨[], false, [], []⟩
  have hU : foldU bs = (splitA bs).1.foldl stepU ⟨[], false, [], []⟩ := rfl
  rw [← hU] at hfl
  have hsl := splitA_len bs
  have her := splitA_err bs
  have htx := splitA_texts bs
  have hSp := fun W (h : Rd W 1 encB v bs) => Split_calls v bs hl W h
  rw [hP]
  clear hP
  generalize foldU bs = fu at *
  generalize (splitA bs).1 = zs at *
  generalize (splitA bs).2 = er at *
  obtain ⟨pr, hpr⟩ : ∃ pr : List As × List Nt, pr = if er ≠ 0 then ([], [(0, er.toNat, [])]) else if fu.nl ≠ [] then ([], fu.nl) else (fu.al, []) := ⟨_, rfl⟩
  rw [← hpr]
  subst hvs
  unfold fileV
  obtain ⟨W2, hW2⟩ : ∃ W2, W2 = (w.alloc (.cells #[.string fn, .int .i64 d, .slice av bs.length cv] 24)).alloc (.cells #[.slice none 0 0] 38) := ⟨_, rfl⟩
  have s2 : W2.heap.size = w.heap.size + 2 := by rw [hW2]; simp
  have e2 : Ext w W2 := by rw [hW2]; exact ((Ext.refl w).alloc _).alloc _
  have q0 : W2.cell? ⟨w.heap.size, 0, none⟩ = some (.string fn) := by rw [hW2]; exact ((Ext.refl _).alloc _).cell (cells_new w [.string fn, .int .i64 d, .slice av bs.length cv] _ 0 _ rfl)
  have q2 : W2.cell? ⟨w.heap.size, 2, none⟩ = some (.slice av bs.length cv) := by rw [hW2]; exact ((Ext.refl _).alloc _).cell (cells_new w [.string fn, .int .i64 d, .slice av bs.length cv] _ 2 _ rfl)
  have bN : Boxed W2 (w.heap.size + 1) 38 (.slice none 0 0) := by
    have := Boxed.new (w.alloc (.cells #[.string fn, .int .i64 d, .slice av bs.length cv] 24)) 38 (.slice none 0 0)
    rw [World.size_alloc, ← hW2] at this
    exact this
  have hv2 := hv.ext e2
  have HE2 := Lib.hid e2
  have HB := Lib.hid bN
  have HS2 := Lib.hid s2
  have HV2 := Lib.hid hv2
  have HW := Lib.hid hW2
  have HhSp := Lib.hid hSp
  clear hSp
  have Hhtx := Lib.hid htx
  clear htx
  have HhU := Lib.hid hU
  clear hU
  have Hhfl := Lib.hid hfl
  clear hfl
  clear hv hv2 e2 s2 bN hW2
  go_enter Try.func20, Try.ntmps20
  go_wp2_with fail
  rw [← HW.out]
  refine (HhSp.out _ HV2.out).mono ?_
  rintro e w3 ⟨u, rfl, hx3, ho3⟩
  have c0 := hx3.cell q0
  have bN3 : Boxed w3 (w.heap.size + 1) 38 (.slice none 0 0) := (hx3.block HB.out.lt).trans HB.out
  have HB3 := Lib.hid bN3
  have HX3 := Lib.hid hx3
  have HO3 := Lib.hid ho3
  clear hx3 ho3 bN3 q0 q2
  by_cases h0 : er = 0
  · subst h0
    rw [if_neg (by simp)] at hpr
    have Hhpr := Lib.hid hpr
    clear hpr
    have hlo := HO3.out.lt
    have HLO := Lib.hid hlo
    clear hlo
    have hs2 := HS2.out
    have hsz3 := HX3.out.size
    have HSZ : Hid (w.heap.size + 2 ≤ w3.heap.size) := Lib.hid (by omega)
    clear hs2 hsz3
    obtain ⟨W4, hW4⟩ : ∃ W4, W4 = w3.alloc (.cells #[.string fn, .string ⟨#[]⟩, .bool false, .slice none 0 0, wrongV (w.heap.size + 1) w.heap.size] 71) := ⟨_, rfl⟩
    have hS4 : S13 w w.heap.size (w.heap.size + 1) w3.heap.size (w3.heap.size + 1) fn ⟨[], false, [], []⟩ (.slice none 0 0) (.slice none 0 0) W4 := by
      have hsz := HSZ.out
      have h4 : W4.heap.size = w3.heap.size + 1 := by rw [hW4]; simp
      have hx4 : Ext w3 W4 := by rw [hW4]; exact (Ext.refl _).alloc _
      exact ⟨(HE2.out.trans HX3.out).trans hx4, Nat.le_refl _, Nat.le_succ _, by omega, by omega, by omega, by omega, by omega, by omega, by omega, by omega, hx4.cell c0, (hx4.block HB3.out.lt).trans HB3.out, by rw [hW4]; exact heap_alloc_new _ _, World.ownsRow_nil _ _ _ _, World.ownsRow_nil _ _ _ _⟩
    have hO4 : W4.ownsRow W2.heap.size 90 2 u zs.length (zs.flatMap encN) := by rw [hW4]; exact World.ownsRow.alloc HO3.out _
    have hE4 := each_calls hS4 hO4 (fun b hb => by
      have h1 := HLO.out b hb
      have h2 := HS2.out
      exact ⟨by omega, by omega, by omega⟩) Hhtx.out (by omega) (by simp)
    rw [← HhU.out] at hE4
    unfold wrongV at hW4
    have HhE4 := Lib.hid hE4
    clear hE4
    have HhW4 := Lib.hid hW4
    clear hW4
    clear hS4 hO4
    go_wp2_with fail
    rw [← HhW4.out]
    refine HhE4.out.mono ?_
    rintro e w5 ⟨rfl, u1', u2', hs5, hk5⟩
    have HS5 := Lib.hid hs5
    have c5 := hs5.notes.cell
    obtain ⟨r0, r1, r2, r3, r4⟩ := hs5.c
    obtain ⟨au, cu, rfl⟩ := own_form hs5.own1
    obtain ⟨aw, cw, rfl⟩ := own_form hs5.own2
    clear hs5 hk5
    have hb1 : w.heap.size ≤ w3.heap.size + 1 := by have := HSZ.out; omega
    have HB1 := Lib.hid hb1
    clear hb1
    by_cases hnl : fu.nl = []
    · have hz : fu.nl.length = 0 := by rw [hnl]; rfl
      have hp := Hhpr.out
      rw [if_neg (by simpa using hnl)] at hp
      have Hhp := Lib.hid hp
      clear hp
      rw [hz] at c5
      go_wp2_with fail
      go_ret2
      exact ⟨_, _, rfl, HS5.out.ext, by rw [Hhp.out]; exact own_base HS5.out.own2 HB1.out, by rw [Hhp.out]; exact World.ownsRow_nil _ _ _ _⟩
    · have hz : (0 : Int) < (fu.nl.length : Int) := by have := List.length_pos_iff.2 hnl; omega
      have hp := Hhpr.out
      rw [if_pos hnl] at hp
      have Hhp := Lib.hid hp
      clear hp
      go_wp2_with (go_quiet (fail))
      go_ret2
      exact ⟨_, _, rfl, HS5.out.ext.drewN _, by rw [Hhp.out]; exact World.ownsRow_nil _ _ _ _, by rw [Hhp.out]; exact ownsRow_drewN (own_base HS5.out.own1 HB1.out) _⟩
  · have hne : (er == 0) = false := by simpa using h0
    obtain ⟨en, hen⟩ : ∃ en : Nat, er = (en : Int) := ⟨er.toNat, by omega⟩
    subst hen
    rw [if_pos h0, show ((en : Int)).toNat = en by omega] at hpr
    have Hhpr := Lib.hid hpr
    clear hpr
    have hsz : w.heap.size + 1 < w3.heap.size := by
      have := HB3.out.lt
      exact this
    have HSZ := Lib.hid hsz
    clear hsz
    go_wp2_with fail
    refine (wrong_calls (W := w3) (N := w.heap.size + 1) (F := w.heap.size) (B := w3.heap.size) (ns := []) (fn := fn) 0 en [] HB3.out c0 (World.ownsRow_nil _ _ _ _) HSZ.out (Nat.le_refl _) (by simp)).mono ?_
    rintro e w4 ⟨rfl, u1', hk4, hb4, ho4⟩
    have c4 := hb4.cell
    have HK4 := Lib.hid hk4
    have HO4 := Lib.hid ho4
    obtain ⟨au, cu, rfl⟩ := own_form ho4
    clear hk4 hb4 ho4
    have HX4 : Hid (Ext w w4) := Lib.hid (Below.trans (HE2.out.trans HX3.out) (HK4.out.below (fun k hk => ⟨by have := HSZ.out; omega, by omega, fun e => by cases e⟩)))
    have HB1 : Hid (w.heap.size ≤ w3.heap.size) := Lib.hid (by have := HSZ.out; omega)
    go_wp2_with (go_quiet (fail))
    go_ret2
    exact ⟨_, _, rfl, HX4.out.drewN _, by rw [Hhpr.out]; exact World.ownsRow_nil _ _ _ _, by rw [Hhpr.out]; exact ownsRow_drewN (own_base HO4.out HB1.out) _⟩
end L12
end Go.Proofs.Ytkmbahpjioopdaa
