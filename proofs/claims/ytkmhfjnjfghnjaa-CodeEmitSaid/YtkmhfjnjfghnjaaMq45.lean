import Derived.Test.YtkmhfjnjfghnjaaMq15
/- Layer 25: the walk of the reference's May. -/
namespace Go.Proofs.Ytkmhfjnjfghnjaa
open Go.RowKit V
namespace L25
def Cy (w : World) (B : Nat) (s : Sy) : Prop := w.cell? ⟨B, 0, none⟩ = some (.int .u16 (s.c : Int)) ∧ w.cell? ⟨B, 1, none⟩ = some (.int .u32 (s.k : Int)) ∧ w.cell? ⟨B, 2, none⟩ = some (.int .i64 s.th) ∧ w.cell? ⟨B, 3, none⟩ = some (.int .i64 s.el)
theorem Cy.ext {a w : World} (h : Ext a w) {B : Nat} {s : Sy} (hc : Cy a B s) : Cy w B s := ⟨h.cell hc.1, h.cell hc.2.1, h.cell hc.2.2.1, h.cell hc.2.2.2⟩
set_option maxRecDepth 100000 in
set_option maxHeartbeats 8000000 in
theorem refMay_calls (v : Value) (xs : List Sy) (hl : xs.length ≤ 1000000) (w : World) (hv : Rd w 4 encY v xs) :
    Calls Try.prog 35 #[v] w fun e w' => e = .returned (.bool (mayA xs)) ∧ Ext w w' := by
  obtain ⟨a, c, rfl, hac, hca⟩ := rdY_cell hv
  clear hv
  by_cases p1 : 0 < xs.length
  case neg =>
    have hA := mayA_short p1
    have d1 : ((xs.length : Int) == 0) = true := beq_iff_eq.mpr (by omega)
    have d1' : (xs.length == 0) = true := beq_iff_eq.mpr (by omega)
    rw [hA]
    have HhA := Lib.hid hA
    clear hA
    have Hp1 := Lib.hid p1
    clear p1
    clear hca
    go_enter Try.func35, Try.ntmps35
    go_wp2
    go_ret
    exact ⟨rfl, Ext.refl _⟩
  have d1 : ((xs.length : Int) == 0) = false := beq_eq_false_iff_ne.mpr (by omega)
  have d1' : (xs.length == 0) = false := beq_eq_false_iff_ne.mpr (by omega)
  by_cases p2 : 131072 < xs.length
  · have hA := mayA_long p2
    have d2 : decide (131072 < (xs.length : Int)) = true := decide_eq_true (by omega)
    have d2' : decide (131072 < xs.length) = true := decide_eq_true (by omega)
    rw [hA]
    have HhA := Lib.hid hA
    clear hA
    have Hp1 := Lib.hid p1
    clear p1
    have Hp2 := Lib.hid p2
    clear p2
    clear hca
    go_enter Try.func35, Try.ntmps35
    go_wp2
    go_ret
    exact ⟨rfl, Ext.refl _⟩
  have d2 : decide (131072 < (xs.length : Int)) = false := decide_eq_false (by omega)
  have d2' : decide (131072 < xs.length) = false := decide_eq_false (by omega)
  obtain ⟨b, o, rfl, l1, -⟩ := hca (xs.length - 1) (by omega)
  rw [← lastc_get p1] at l1
  have hmid := fun h => mayA_mid p1 (by omega) h
  have hlst := mayA_lastc (l := xs)
  obtain ⟨n, hn⟩ : ∃ n : Nat, xs.length = n + 1 := ⟨xs.length - 1, by omega⟩
  have hs1 : (xs.length : Int) - 1 = (n : Int) := by omega
  have hn1 : xs.length - 1 = n := by omega
  rw [hn1] at l1
  have hnl : n < xs.length := by omega
  cases q : (lastc xs == 6)
  · have hA := hlst q
    have dq : ((lastc xs : Int) != 6) = true := by simp at q; simp; omega
    rw [hA]
    generalize lastc xs = lc at *
    have HhA := Lib.hid hA
    clear hA
    have Hp1 := Lib.hid p1
    clear p1
    have Hp2 := Lib.hid p2
    clear p2
    have Hhmid := Lib.hid hmid
    clear hmid
    have Hhlst := Lib.hid hlst
    clear hlst
    have Hq := Lib.hid q
    clear q
    have Hhn := Lib.hid hn
    clear hn
    have Hhn1 := Lib.hid hn1
    clear hn1
    clear hca
    go_enter Try.func35, Try.ntmps35
    go_wp2
    go_ret
    exact ⟨rfl, Ext.refl _⟩
  have hA := hmid q
  have dq : ((lastc xs : Int) != 6) = false := by simp at q; simp; omega
  rw [hA]
  have hca2 : ∀ i, (hi : i < xs.length) → w.cell? ⟨b, o + i * 4, none⟩ = some (.int .u16 (xs[i].c : Int)) ∧ w.cell? ⟨b, o + i * 4 + 1, none⟩ = some (.int .u32 (xs[i].k : Int)) ∧ w.cell? ⟨b, o + i * 4 + 2, none⟩ = some (.int .i64 xs[i].th) ∧ w.cell? ⟨b, o + i * 4 + 3, none⟩ = some (.int .i64 xs[i].el) := by
    intro i hi
    obtain ⟨b2, o2, e, h⟩ := hca i hi
    simp only [Option.some.injEq, Addr.mk.injEq] at e
    obtain ⟨rfl, rfl, -⟩ := e
    exact h
  generalize lastc xs = lc at *
  have HhA := Lib.hid hA
  clear hA
  have Hp1 := Lib.hid p1
  clear p1
  have Hp2 := Lib.hid p2
  clear p2
  have Hhmid := Lib.hid hmid
  clear hmid
  have Hhlst := Lib.hid hlst
  clear hlst
  have Hq := Lib.hid q
  clear q
  have Hhn := Lib.hid hn
  clear hn
  have Hhn1 := Lib.hid hn1
  clear hn1
  have Hhca2 := Lib.hid hca2
  clear hca2
  clear hca
  go_enter Try.func35, Try.ntmps35
  go_wp2
  go_loopw [3] (fun i wr => ∃ k : Nat, k ≤ xs.length ∧ i = .int .i64 k ∧ Ext w wr ∧ mayL xs.length xs 0 = mayL xs.length (xs.drop k) k) (fun i _ => xs.length - (intOf i).toNat)
  case atStart => exact ⟨0, by omega, rfl, Ext.refl _, rfl⟩
  case round =>
    obtain ⟨k, hk, rfl, hx, heq⟩ := hrel
    have HX := Lib.hid hx
    by_cases hlt : k < xs.length
    · obtain ⟨h1, h2, h3, h4⟩ := Hhca2.out k hlt
      replace h1 := hx.cell h1; replace h2 := hx.cell h2; replace h3 := hx.cell h3; replace h4 := hx.cell h4
      rw [mayL_step _ hlt] at heq
      clear hx dq l1
      generalize xs[k] = s at *
      have Hheq := Lib.hid heq
      clear heq
      have hbl : b < wr.heap.size := World.block_lt_of_cell? _ _ h1
      obtain ⟨c, kk, th, el⟩ := s
      dsimp only at *
      go_upto_region 7 with fail
      go_cut [5, 6] (fun x y wx => x = .bool (there xs.length k th) ∧ y = .bool (there xs.length k el) ∧ Ext w wx ∧ Cy wx wr.heap.size ⟨c, kk, th, el⟩)
      case first =>
        cases b1 : decide ((k : Int) < th)
        all_goals cases b3 : decide ((k : Int) < el)
        all_goals
          go_wp2_with (go_quiet (fail))
          go_wp2
          go_meet
          exact ⟨by unfold there; rw [b1]; rfl, by unfold there; rw [b3]; rfl, (by repeat (first | exact HX.out | apply Ext.drewN | apply Ext.alloc | apply Ext.drew)), by refine ⟨?_, ?_, ?_, ?_⟩ <;> simp [go_sem]⟩
      case rest =>
        obtain ⟨rfl, rfl, hx5, q0, q1, q2, q3⟩ := hcut
        dsimp only at q0 q1 q2 q3
        have HX5 := Lib.hid hx5
        clear hx5 h1 h2 h3 h4
        go_upto_region 8 with fail
        go_cut [7] (fun x wx => x = .bool (none_ ⟨c, kk, th, el⟩) ∧ Ext w wx ∧ Cy wx wr.heap.size ⟨c, kk, th, el⟩)
        case first =>
          cases b1 : (th == 0)
          all_goals
            go_wp2
            go_meet
            exact ⟨by unfold none_; dsimp only; rw [b1]; rfl, HX5.out, q0, q1, q2, q3⟩
        case rest =>
          obtain ⟨rfl, hx6, q0, q1, q2, q3⟩ := hcut
          dsimp only at q0 q1 q2 q3
          have HX6 := Lib.hid hx6
          clear hx6
          have hm : may1 xs.length k ⟨c, kk, th, el⟩ = if c = 32 then none_ ⟨c, kk, th, el⟩ && ((kk % 4 == 0) && decide (kk < 64)) else if c = 84 ∨ c = 6 then none_ ⟨c, kk, th, el⟩ else if c = 5 then (kk == 0) && ((el == 0) && there xs.length k th) else asksB c && (there xs.length k th && there xs.length k el) := rfl
          have e0 : ((kk : Int) == 0) = (kk == 0) := by rw [Bool.eq_iff_iff]; simp
          have e4 : ((kk : Int) % 4 == 0) = (kk % 4 == 0) := by rw [Bool.eq_iff_iff]; simp; omega
          have e6 : decide ((kk : Int) < 64) = decide (kk < 64) := by rw [Bool.eq_iff_iff]; simp; omega
          generalize none_ ⟨c, kk, th, el⟩ = nn at *
          generalize there xs.length k th = t5 at *
          generalize there xs.length k el = t6 at *
          generalize (kk == 0) = b0 at *
          generalize (kk % 4 == 0) = b4 at *
          generalize hb6 : decide (kk < 64) = b6 at *
          have Hhb6 := Lib.hid hb6
          clear hb6
          by_cases c1 : c = 32
          · subst c1
            rw [if_pos rfl] at hm
            cases nn
            · skip
              have Hhm := Lib.hid hm
              clear hm
              go_wp2
              first
                | (go_ret
                   exact ⟨by rw [Hheq.out, Hhm.out]; simp, HX6.out⟩)
                | (go_roundw
                   case rel => exact ⟨k + 1, by omega, by go_num, HX6.out, by rw [Hheq.out, Hhm.out]; simp⟩
                   case measure => simp [intOf]; omega)
                | exact ⟨⟨k + 1, by omega, by go_num, HX6.out, by rw [Hheq.out, Hhm.out]; simp⟩, by simp [intOf]; omega⟩
            · cases b4
              · skip
                have Hhm := Lib.hid hm
                clear hm
                go_wp2
                first
                  | (go_ret
                     exact ⟨by rw [Hheq.out, Hhm.out]; simp, HX6.out⟩)
                  | (go_roundw
                     case rel => exact ⟨k + 1, by omega, by go_num, HX6.out, by rw [Hheq.out, Hhm.out]; simp⟩
                     case measure => simp [intOf]; omega)
                  | exact ⟨⟨k + 1, by omega, by go_num, HX6.out, by rw [Hheq.out, Hhm.out]; simp⟩, by simp [intOf]; omega⟩
              · cases b6
                · skip
                  have Hhm := Lib.hid hm
                  clear hm
                  go_wp2
                  first
                    | (go_ret
                       exact ⟨by rw [Hheq.out, Hhm.out]; simp, HX6.out⟩)
                    | (go_roundw
                       case rel => exact ⟨k + 1, by omega, by go_num, HX6.out, by rw [Hheq.out, Hhm.out]; simp⟩
                       case measure => simp [intOf]; omega)
                    | exact ⟨⟨k + 1, by omega, by go_num, HX6.out, by rw [Hheq.out, Hhm.out]; simp⟩, by simp [intOf]; omega⟩
                · skip
                  have Hhm := Lib.hid hm
                  clear hm
                  go_wp2
                  first
                    | (go_ret
                       exact ⟨by rw [Hheq.out, Hhm.out]; simp, HX6.out⟩)
                    | (go_roundw
                       case rel => exact ⟨k + 1, by omega, by go_num, HX6.out, by rw [Hheq.out, Hhm.out]; simp⟩
                       case measure => simp [intOf]; omega)
                    | exact ⟨⟨k + 1, by omega, by go_num, HX6.out, by rw [Hheq.out, Hhm.out]; simp⟩, by simp [intOf]; omega⟩
          rw [if_neg c1] at hm
          by_cases c2 : c = 84
          · subst c2
            rw [if_pos (by omega)] at hm
            have Hc1 := Lib.hid c1
            clear c1
            cases nn
            · skip
              have Hhm := Lib.hid hm
              clear hm
              go_wp2
              first
                | (go_ret
                   exact ⟨by rw [Hheq.out, Hhm.out]; simp, HX6.out⟩)
                | (go_roundw
                   case rel => exact ⟨k + 1, by omega, by go_num, HX6.out, by rw [Hheq.out, Hhm.out]; simp⟩
                   case measure => simp [intOf]; omega)
                | exact ⟨⟨k + 1, by omega, by go_num, HX6.out, by rw [Hheq.out, Hhm.out]; simp⟩, by simp [intOf]; omega⟩
            · skip
              have Hhm := Lib.hid hm
              clear hm
              go_wp2
              first
                | (go_ret
                   exact ⟨by rw [Hheq.out, Hhm.out]; simp, HX6.out⟩)
                | (go_roundw
                   case rel => exact ⟨k + 1, by omega, by go_num, HX6.out, by rw [Hheq.out, Hhm.out]; simp⟩
                   case measure => simp [intOf]; omega)
                | exact ⟨⟨k + 1, by omega, by go_num, HX6.out, by rw [Hheq.out, Hhm.out]; simp⟩, by simp [intOf]; omega⟩
          by_cases c3 : c = 6
          · subst c3
            rw [if_pos (by omega)] at hm
            have Hc1 := Lib.hid c1
            clear c1
            have Hc2 := Lib.hid c2
            clear c2
            cases nn
            · skip
              have Hhm := Lib.hid hm
              clear hm
              go_wp2
              first
                | (go_ret
                   exact ⟨by rw [Hheq.out, Hhm.out]; simp, HX6.out⟩)
                | (go_roundw
                   case rel => exact ⟨k + 1, by omega, by go_num, HX6.out, by rw [Hheq.out, Hhm.out]; simp⟩
                   case measure => simp [intOf]; omega)
                | exact ⟨⟨k + 1, by omega, by go_num, HX6.out, by rw [Hheq.out, Hhm.out]; simp⟩, by simp [intOf]; omega⟩
            · skip
              have Hhm := Lib.hid hm
              clear hm
              go_wp2
              first
                | (go_ret
                   exact ⟨by rw [Hheq.out, Hhm.out]; simp, HX6.out⟩)
                | (go_roundw
                   case rel => exact ⟨k + 1, by omega, by go_num, HX6.out, by rw [Hheq.out, Hhm.out]; simp⟩
                   case measure => simp [intOf]; omega)
                | exact ⟨⟨k + 1, by omega, by go_num, HX6.out, by rw [Hheq.out, Hhm.out]; simp⟩, by simp [intOf]; omega⟩
          rw [if_neg (by omega)] at hm
          by_cases c4 : c = 5
          · subst c4
            rw [if_pos rfl] at hm
            have Hc1 := Lib.hid c1
            clear c1
            have Hc2 := Lib.hid c2
            clear c2
            have Hc3 := Lib.hid c3
            clear c3
            cases t5
            · skip
              have Hhm := Lib.hid hm
              clear hm
              go_wp2
              first
                | (go_ret
                   exact ⟨by rw [Hheq.out, Hhm.out]; simp, HX6.out⟩)
                | (go_roundw
                   case rel => exact ⟨k + 1, by omega, by go_num, HX6.out, by rw [Hheq.out, Hhm.out]; simp⟩
                   case measure => simp [intOf]; omega)
                | exact ⟨⟨k + 1, by omega, by go_num, HX6.out, by rw [Hheq.out, Hhm.out]; simp⟩, by simp [intOf]; omega⟩
            · cases b0
              · skip
                have Hhm := Lib.hid hm
                clear hm
                go_wp2
                first
                  | (go_ret
                     exact ⟨by rw [Hheq.out, Hhm.out]; simp, HX6.out⟩)
                  | (go_roundw
                     case rel => exact ⟨k + 1, by omega, by go_num, HX6.out, by rw [Hheq.out, Hhm.out]; simp⟩
                     case measure => simp [intOf]; omega)
                  | exact ⟨⟨k + 1, by omega, by go_num, HX6.out, by rw [Hheq.out, Hhm.out]; simp⟩, by simp [intOf]; omega⟩
              · cases be : (el == 0)
                · rw [be] at hm
                  have Hhm := Lib.hid hm
                  clear hm
                  go_wp2
                  first
                    | (go_ret
                       exact ⟨by rw [Hheq.out, Hhm.out]; simp, HX6.out⟩)
                    | (go_roundw
                       case rel => exact ⟨k + 1, by omega, by go_num, HX6.out, by rw [Hheq.out, Hhm.out]; simp⟩
                       case measure => simp [intOf]; omega)
                    | exact ⟨⟨k + 1, by omega, by go_num, HX6.out, by rw [Hheq.out, Hhm.out]; simp⟩, by simp [intOf]; omega⟩
                · rw [be] at hm
                  have Hhm := Lib.hid hm
                  clear hm
                  go_wp2
                  first
                    | (go_ret
                       exact ⟨by rw [Hheq.out, Hhm.out]; simp, HX6.out⟩)
                    | (go_roundw
                       case rel => exact ⟨k + 1, by omega, by go_num, HX6.out, by rw [Hheq.out, Hhm.out]; simp⟩
                       case measure => simp [intOf]; omega)
                    | exact ⟨⟨k + 1, by omega, by go_num, HX6.out, by rw [Hheq.out, Hhm.out]; simp⟩, by simp [intOf]; omega⟩
          rw [if_neg c4] at hm
          by_cases c5 : c = 21
          · subst c5
            rw [show asksB 21 = true from rfl] at hm
            clear c1 c2 c3 c4
            cases t5
            · skip
              have Hhm := Lib.hid hm
              clear hm
              go_wp2
              first
                | (go_ret
                   exact ⟨by rw [Hheq.out, Hhm.out]; simp, HX6.out⟩)
                | (go_roundw
                   case rel => exact ⟨k + 1, by omega, by go_num, HX6.out, by rw [Hheq.out, Hhm.out]; simp⟩
                   case measure => simp [intOf]; omega)
                | exact ⟨⟨k + 1, by omega, by go_num, HX6.out, by rw [Hheq.out, Hhm.out]; simp⟩, by simp [intOf]; omega⟩
            · cases t6
              · skip
                have Hhm := Lib.hid hm
                clear hm
                go_wp2
                first
                  | (go_ret
                     exact ⟨by rw [Hheq.out, Hhm.out]; simp, HX6.out⟩)
                  | (go_roundw
                     case rel => exact ⟨k + 1, by omega, by go_num, HX6.out, by rw [Hheq.out, Hhm.out]; simp⟩
                     case measure => simp [intOf]; omega)
                  | exact ⟨⟨k + 1, by omega, by go_num, HX6.out, by rw [Hheq.out, Hhm.out]; simp⟩, by simp [intOf]; omega⟩
              · skip
                have Hhm := Lib.hid hm
                clear hm
                go_wp2
                first
                  | (go_ret
                     exact ⟨by rw [Hheq.out, Hhm.out]; simp, HX6.out⟩)
                  | (go_roundw
                     case rel => exact ⟨k + 1, by omega, by go_num, HX6.out, by rw [Hheq.out, Hhm.out]; simp⟩
                     case measure => simp [intOf]; omega)
                  | exact ⟨⟨k + 1, by omega, by go_num, HX6.out, by rw [Hheq.out, Hhm.out]; simp⟩, by simp [intOf]; omega⟩
          by_cases c6 : c = 37
          · subst c6
            rw [show asksB 37 = true from rfl] at hm
            clear c1 c2 c3 c4
            cases t5
            · skip
              have Hhm := Lib.hid hm
              clear hm
              go_wp2
              first
                | (go_ret
                   exact ⟨by rw [Hheq.out, Hhm.out]; simp, HX6.out⟩)
                | (go_roundw
                   case rel => exact ⟨k + 1, by omega, by go_num, HX6.out, by rw [Hheq.out, Hhm.out]; simp⟩
                   case measure => simp [intOf]; omega)
                | exact ⟨⟨k + 1, by omega, by go_num, HX6.out, by rw [Hheq.out, Hhm.out]; simp⟩, by simp [intOf]; omega⟩
            · cases t6
              · skip
                have Hhm := Lib.hid hm
                clear hm
                go_wp2
                first
                  | (go_ret
                     exact ⟨by rw [Hheq.out, Hhm.out]; simp, HX6.out⟩)
                  | (go_roundw
                     case rel => exact ⟨k + 1, by omega, by go_num, HX6.out, by rw [Hheq.out, Hhm.out]; simp⟩
                     case measure => simp [intOf]; omega)
                  | exact ⟨⟨k + 1, by omega, by go_num, HX6.out, by rw [Hheq.out, Hhm.out]; simp⟩, by simp [intOf]; omega⟩
              · skip
                have Hhm := Lib.hid hm
                clear hm
                go_wp2
                first
                  | (go_ret
                     exact ⟨by rw [Hheq.out, Hhm.out]; simp, HX6.out⟩)
                  | (go_roundw
                     case rel => exact ⟨k + 1, by omega, by go_num, HX6.out, by rw [Hheq.out, Hhm.out]; simp⟩
                     case measure => simp [intOf]; omega)
                  | exact ⟨⟨k + 1, by omega, by go_num, HX6.out, by rw [Hheq.out, Hhm.out]; simp⟩, by simp [intOf]; omega⟩
          by_cases c7 : c = 53
          · subst c7
            rw [show asksB 53 = true from rfl] at hm
            clear c1 c2 c3 c4
            cases t5
            · skip
              have Hhm := Lib.hid hm
              clear hm
              go_wp2
              first
                | (go_ret
                   exact ⟨by rw [Hheq.out, Hhm.out]; simp, HX6.out⟩)
                | (go_roundw
                   case rel => exact ⟨k + 1, by omega, by go_num, HX6.out, by rw [Hheq.out, Hhm.out]; simp⟩
                   case measure => simp [intOf]; omega)
                | exact ⟨⟨k + 1, by omega, by go_num, HX6.out, by rw [Hheq.out, Hhm.out]; simp⟩, by simp [intOf]; omega⟩
            · cases t6
              · skip
                have Hhm := Lib.hid hm
                clear hm
                go_wp2
                first
                  | (go_ret
                     exact ⟨by rw [Hheq.out, Hhm.out]; simp, HX6.out⟩)
                  | (go_roundw
                     case rel => exact ⟨k + 1, by omega, by go_num, HX6.out, by rw [Hheq.out, Hhm.out]; simp⟩
                     case measure => simp [intOf]; omega)
                  | exact ⟨⟨k + 1, by omega, by go_num, HX6.out, by rw [Hheq.out, Hhm.out]; simp⟩, by simp [intOf]; omega⟩
              · skip
                have Hhm := Lib.hid hm
                clear hm
                go_wp2
                first
                  | (go_ret
                     exact ⟨by rw [Hheq.out, Hhm.out]; simp, HX6.out⟩)
                  | (go_roundw
                     case rel => exact ⟨k + 1, by omega, by go_num, HX6.out, by rw [Hheq.out, Hhm.out]; simp⟩
                     case measure => simp [intOf]; omega)
                  | exact ⟨⟨k + 1, by omega, by go_num, HX6.out, by rw [Hheq.out, Hhm.out]; simp⟩, by simp [intOf]; omega⟩
          by_cases c8 : c = 69
          · subst c8
            rw [show asksB 69 = true from rfl] at hm
            clear c1 c2 c3 c4
            cases t5
            · skip
              have Hhm := Lib.hid hm
              clear hm
              go_wp2
              first
                | (go_ret
                   exact ⟨by rw [Hheq.out, Hhm.out]; simp, HX6.out⟩)
                | (go_roundw
                   case rel => exact ⟨k + 1, by omega, by go_num, HX6.out, by rw [Hheq.out, Hhm.out]; simp⟩
                   case measure => simp [intOf]; omega)
                | exact ⟨⟨k + 1, by omega, by go_num, HX6.out, by rw [Hheq.out, Hhm.out]; simp⟩, by simp [intOf]; omega⟩
            · cases t6
              · skip
                have Hhm := Lib.hid hm
                clear hm
                go_wp2
                first
                  | (go_ret
                     exact ⟨by rw [Hheq.out, Hhm.out]; simp, HX6.out⟩)
                  | (go_roundw
                     case rel => exact ⟨k + 1, by omega, by go_num, HX6.out, by rw [Hheq.out, Hhm.out]; simp⟩
                     case measure => simp [intOf]; omega)
                  | exact ⟨⟨k + 1, by omega, by go_num, HX6.out, by rw [Hheq.out, Hhm.out]; simp⟩, by simp [intOf]; omega⟩
              · skip
                have Hhm := Lib.hid hm
                clear hm
                go_wp2
                first
                  | (go_ret
                     exact ⟨by rw [Hheq.out, Hhm.out]; simp, HX6.out⟩)
                  | (go_roundw
                     case rel => exact ⟨k + 1, by omega, by go_num, HX6.out, by rw [Hheq.out, Hhm.out]; simp⟩
                     case measure => simp [intOf]; omega)
                  | exact ⟨⟨k + 1, by omega, by go_num, HX6.out, by rw [Hheq.out, Hhm.out]; simp⟩, by simp [intOf]; omega⟩
          rw [show asksB c = false by unfold asksB; simp [c5, c6, c7, c8]] at hm
          have f1 : ((c : Int) == 32) = false := beq_eq_false_iff_ne.mpr (by omega)
          have f2 : ((c : Int) == 84) = false := beq_eq_false_iff_ne.mpr (by omega)
          have f3 : ((c : Int) == 6) = false := beq_eq_false_iff_ne.mpr (by omega)
          have f4 : ((c : Int) == 5) = false := beq_eq_false_iff_ne.mpr (by omega)
          have f5 : ((c : Int) == 21) = false := beq_eq_false_iff_ne.mpr (by omega)
          have f6 : ((c : Int) == 37) = false := beq_eq_false_iff_ne.mpr (by omega)
          have f7 : ((c : Int) == 53) = false := beq_eq_false_iff_ne.mpr (by omega)
          have f8 : ((c : Int) == 69) = false := beq_eq_false_iff_ne.mpr (by omega)
          clear c1 c2 c3 c4 c5 c6 c7 c8
          have Hhm := Lib.hid hm
          clear hm
          go_wp2
          first
            | (go_ret
               exact ⟨by rw [Hheq.out, Hhm.out]; simp, HX6.out⟩)
            | (go_roundw
               case rel => exact ⟨k + 1, by omega, by go_num, HX6.out, by rw [Hheq.out, Hhm.out]; simp⟩
               case measure => simp [intOf]; omega)
            | exact ⟨⟨k + 1, by omega, by go_num, HX6.out, by rw [Hheq.out, Hhm.out]; simp⟩, by simp [intOf]; omega⟩
    · obtain rfl : k = xs.length := by omega
      rw [mayL_end] at heq
      have Hheq := Lib.hid heq
      clear heq
      clear hx
      go_wp2
      go_ret
      exact ⟨by rw [Hheq.out]; rfl, HX.out⟩
end L25
end Go.Proofs.Ytkmhfjnjfghnjaa

