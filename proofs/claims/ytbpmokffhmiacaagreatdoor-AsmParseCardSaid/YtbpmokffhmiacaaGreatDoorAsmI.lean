/- Layer 7: the walks of Can, label, joined, FormatUint. -/
import Derived.Test.YtbpmokffhmiacaaGreatDoorAsmH
namespace Go.Proofs.YtbpmokffhmiacaaGreatDoor
open Go.RowKit Go.Shelf V
attribute [local go_sem] Oper.semAt_some
namespace L07
theorem all_take {α : Type} {p : α → Bool} {l : List α} {k : Nat} (h : k < l.length) (h1 : (l.take k).all p = true) (h2 : p l[k] = true) : (l.take (k + 1)).all p = true := by
  rw [List.take_succ_eq_append_getElem h, List.all_append, h1, Bool.true_and]
  simp [h2]
theorem all_not {α : Type} {p : α → Bool} {l : List α} {k : Nat} (h : k < l.length) (h2 : p l[k] = false) : l.all p = false := by
  rw [← Bool.not_eq_true]
  intro h3
  have := List.all_eq_true.1 h3 l[k] (List.getElem_mem _)
  rw [h2] at this; cases this
set_option maxRecDepth 100000 in
set_option maxHeartbeats 2000000 in
theorem Can_calls (P : List In) (v : Value) (hP : ∀ i ∈ P, OkN i) (hl : P.length ≤ 1000000) (w : World) (hv : Rd w 4 encN v P) :
    Calls Tryz.prog 29 #[v] w fun e w' => e = .returned (.bool (canL P)) ∧ Ext w w' := by
  have hvR := hv
  obtain ⟨a, c, rfl, -, hca⟩ := rdI_cell hv
  clear hv
  have hE : canL P = (decide (P.length ≤ 4096) && (P.all plainI && okT P)) := rfl
  by_cases hlong : 4096 < P.length
  · have d1 : decide (4096 < P.length) = true := decide_eq_true hlong
    have d2 : decide ((4096 : Int) < (P.length : Int)) = true := decide_eq_true (by omega)
    have hR : canL P = false := by rw [hE, decide_eq_false (by omega)]; rfl
    rw [hR]
    clear hE hR hca hP hvR
    go_enter Tryz.func29, Tryz.ntmps29
    go_wp2
    go_ret
    exact ⟨rfl, Ext.refl _⟩
  have d1 : decide (4096 < P.length) = false := decide_eq_false hlong
  have d2 : decide ((4096 : Int) < (P.length : Int)) = false := decide_eq_false (by omega)
  rw [decide_eq_true (show P.length ≤ 4096 by omega), Bool.true_and] at hE
  have hT := fun W (hx : Ext w W) => targets_calls P _ hP (by omega) W (hvR.ext hx)
  have HP := Lib.hid hP
  have HhT := Lib.hid hT
  clear hT
  have HhE := Lib.hid hE
  clear hE
  clear hP hvR
  go_enter Tryz.func29, Tryz.ntmps29
  go_wp2
  go_loopw [12] (fun i wr => ∃ k : Nat, k ≤ P.length ∧ i = .int .i64 k ∧ Ext w wr ∧ (P.take k).all plainI = true) (fun i _ => P.length - (intOf i).toNat)
  case atStart => exact ⟨0, by omega, rfl, Ext.refl _, rfl⟩
  case round =>
    obtain ⟨k, hk, rfl, hx, hall⟩ := hrel
    have HX := Lib.hid hx
    by_cases hlt : k < P.length
    · obtain ⟨b, o, rfl, h1, h2, h3, h4⟩ := hca k hlt
      replace h1 := hx.cell h1; replace h2 := hx.cell h2; replace h3 := hx.cell h3; replace h4 := hx.cell h4
      have hpl := fun W => plain_calls P[k] (HP.out _ (List.getElem_mem hlt)) W
      have ha1 := all_take hlt hall
      have ha2 := all_not (p := plainI) hlt
      clear hca hx hall
      unfold inV at hpl
      generalize plainI P[k] = pb at *
      generalize P[k] = i at *
      have Hhpl := Lib.hid hpl
      clear hpl
      have Hha1 := Lib.hid ha1
      clear ha1
      have Hha2 := Lib.hid ha2
      clear ha2
      cases pb
      · go_wp2_with fail
        refine (Hhpl.out _).mono ?_
        rintro e w1 ⟨rfl, hx1⟩
        have HX1 := Lib.hid hx1
        clear hx1
        go_wp2_with fail
        go_ret
        exact ⟨by rw [HhE.out, Hha2.out (by trivial)]; rfl, (HX.out.alloc _).trans HX1.out⟩
      · go_wp2_with fail
        refine (Hhpl.out _).mono ?_
        rintro e w1 ⟨rfl, hx1⟩
        have HX1 := Lib.hid hx1
        clear hx1
        go_wp2_with fail
        go_roundw
        case rel => exact ⟨k + 1, by omega, by go_num, (HX.out.alloc _).trans HX1.out, Hha1.out (by trivial)⟩
        case measure => simp [intOf]; omega
    · have hkk : k = P.length := by omega
      rw [hkk, List.take_length] at hall
      clear hca hx
      have Hhall := Lib.hid hall
      clear hall
      have Hhkk := Lib.hid hkk
      clear hkk
      go_wp2_with fail
      refine (HhT.out _ HX.out).mono ?_
      rintro e w1 ⟨hx1, (⟨ho, u, rfl, -⟩ | ⟨ho, rfl⟩)⟩
      · have HX1 := Lib.hid hx1
        clear hx1
        have Hho := Lib.hid ho
        clear ho
        go_wp2_with fail
        go_ret
        exact ⟨by rw [HhE.out, Hhall.out, Hho.out]; rfl, HX.out.trans HX1.out⟩
      · have HX1 := Lib.hid hx1
        clear hx1
        have Hho := Lib.hid ho
        clear ho
        go_wp2_with fail
        go_ret
        exact ⟨by rw [HhE.out, Hhall.out, Hho.out]; rfl, HX.out.trans HX1.out⟩
end L07
end Go.Proofs.YtbpmokffhmiacaaGreatDoor
