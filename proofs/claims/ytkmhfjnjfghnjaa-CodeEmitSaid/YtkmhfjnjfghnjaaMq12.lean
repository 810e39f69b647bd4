import Derived.Test.YtkmhfjnjfghnjaaMq11
import Derived.Test.YtkmhfjnjfghnjaaMq9
/- Layer 21: the walk of the closure that asks whether a test holds of data, and of the search by it. -/
namespace Go.Proofs.Ytkmhfjnjfghnjaa
open Go.RowKit V
namespace L21
open L25 (Dat datV OkD)
/-- nine cells of data -/
structure Cda (w : World) (B : Nat) (d : Dat) : Prop where
  c0 : w.cell? ⟨B, 0, none⟩ = some (.int .u32 (d.nr : Int))
  c1 : w.cell? ⟨B, 1, none⟩ = some (.int .u32 (d.ar : Int))
  c2 : w.cell? ⟨B, 2, none⟩ = some (.int .u64 (d.ip : Int))
  c3 : w.cell? ⟨B, 3, none⟩ = some (.int .u64 (d.a0 : Int))
  c4 : w.cell? ⟨B, 4, none⟩ = some (.int .u64 (d.a1 : Int))
  c5 : w.cell? ⟨B, 5, none⟩ = some (.int .u64 (d.a2 : Int))
  c6 : w.cell? ⟨B, 6, none⟩ = some (.int .u64 (d.a3 : Int))
  c7 : w.cell? ⟨B, 7, none⟩ = some (.int .u64 (d.a4 : Int))
  c8 : w.cell? ⟨B, 8, none⟩ = some (.int .u64 (d.a5 : Int))
theorem Cda.ext {a w : World} (h : Ext a w) {B : Nat} {d : Dat} (hc : Cda a B d) : Cda w B d :=
  ⟨h.cell hc.c0, h.cell hc.c1, h.cell hc.c2, h.cell hc.c3, h.cell hc.c4, h.cell hc.c5, h.cell hc.c6, h.cell hc.c7, h.cell hc.c8⟩
def holdP (d : Dat) (t : Test) : Bool := holdsA t d
set_option maxRecDepth 100000 in
set_option maxHeartbeats 1000000 in
theorem holdP_calls (t : Test) (ht : OkT t) (d : Dat) (hd : OkD d) (B : Nat) (w : World) (hB : Cda w B d) :
    Calls Try.prog 54 #[.agg #[.int .i64 t.arg, .int .u64 (t.mask : Int), .int .u64 (t.value : Int), .int .u32 (t.action : Int)], .pointer (some ⟨B, 0, none⟩)] w fun e w' => e = .returned (.bool (holdP d t)) ∧ Ext w w' := by
  have hH := fun W => Holds_calls t ht d hd W
  unfold datV at hH
  unfold holdP
  generalize holdsA t d = hb at *
  have hq := fun o => hB.ext ((Ext.refl w).alloc o)
  have q0 := fun o => (hq o).c0
  have q1 := fun o => (hq o).c1
  have q2 := fun o => (hq o).c2
  have q3 := fun o => (hq o).c3
  have q4 := fun o => (hq o).c4
  have q5 := fun o => (hq o).c5
  have q6 := fun o => (hq o).c6
  have q7 := fun o => (hq o).c7
  have q8 := fun o => (hq o).c8
  have HhH := Lib.hid hH
  clear hH
  have HhB := Lib.hid hB
  clear hB
  clear hq
  go_enter Try.func54, Try.ntmps54
  go_wp2_with fail
  refine (HhH.out _).mono ?_
  rintro e w1 ⟨rfl, hx1⟩
  go_wp2_with fail
  go_ret
  exact ⟨rfl, ((Ext.refl _).alloc _).trans hx1⟩
set_option maxRecDepth 100000 in
set_option maxHeartbeats 400000 in
theorem idxHold_calls (d : Dat) (hd : OkD d) (B : Nat) (v : Value) (ts : List Test) (hl : ts.length ≤ 140737488351232) (hok : ∀ t ∈ ts, OkT t) (w : World) (hB : Cda w B d) (hv : Rd w 4 encT v ts) :
    Calls Try.prog 78 #[v, .func (.func 54) #[] #[.pointer (some ⟨B, 0, none⟩)]] w fun e w' => e = .returned (.int .i64 (idxA (holdP d) ts 0)) ∧ Ext w w' := by
  obtain ⟨a, c, rfl, hac, hca⟩ := rdT_cell hv
  clear hv
  have HhB := Lib.hid hB
  clear hB
  have Hhok := Lib.hid hok
  clear hok
  have Hhca := Lib.hid hca
  clear hca
  go_enter Try.func78, Try.ntmps78
  go_wp2
  go_loopw [8] (fun i wr => ∃ k : Nat, k ≤ ts.length ∧ i = .int .i64 k ∧ Ext w wr ∧ idxA (holdP d) ts 0 = idxA (holdP d) (ts.drop k) k) (fun i _ => ts.length - (intOf i).toNat)
  case atStart => exact ⟨0, by omega, rfl, Ext.refl _, rfl⟩
  case round =>
    obtain ⟨k, hk, rfl, hx, heq⟩ := hrel
    have HX := Lib.hid hx
    by_cases hlt : k < ts.length
    · obtain ⟨b, o, rfl, h1, h2, h3, h4⟩ := Hhca.out k hlt
      replace h1 := hx.cell h1; replace h2 := hx.cell h2; replace h3 := hx.cell h3; replace h4 := hx.cell h4
      rw [idxA_step hlt] at heq
      have hC := fun W h => holdP_calls (ts[k]'hlt) (Hhok.out _ (List.getElem_mem hlt)) d hd B W h
      have HBr := Lib.hid (HhB.out.ext hx)
      clear hx
      generalize ts[k]'hlt = t at *
      cases hp : holdP d t
      all_goals
        rw [hp] at hC heq
        simp only [if_true, if_false, Bool.false_eq_true] at heq
        have HhC := Lib.hid hC
        clear hC
        have Hheq := Lib.hid heq
        clear heq
        have Hhp := Lib.hid hp
        clear hp
        go_wp2_with fail
        refine (HhC.out _ HBr.out).mono ?_
        rintro e w2 ⟨rfl, hx2⟩
        go_wp2_with fail
      · first
          | (go_roundw
             case rel => exact ⟨k + 1, by omega, by go_num, HX.out.trans hx2, Hheq.out⟩
             case measure => simp [intOf]; omega)
          | exact ⟨⟨k + 1, by omega, by go_num, HX.out.trans hx2, Hheq.out⟩, by simp [intOf]; omega⟩
      · go_ret
        exact ⟨by rw [Hheq.out]; rfl, HX.out.trans hx2⟩
    · obtain rfl : k = ts.length := by omega
      rw [idxA_end] at heq
      have Hheq := Lib.hid heq
      clear heq
      clear hx
      go_wp2
      go_ret
      exact ⟨by rw [Hheq.out]; rfl, HX.out⟩
end L21
end Go.Proofs.Ytkmhfjnjfghnjaa

