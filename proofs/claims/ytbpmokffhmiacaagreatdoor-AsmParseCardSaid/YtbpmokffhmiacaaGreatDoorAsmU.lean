/- Layer 7: the walks of the reference's led, Can. -/
import Derived.Test.YtbpmokffhmiacaaGreatDoorAsmQ
namespace Go.Proofs.YtbpmokffhmiacaaGreatDoor
open Go.RowKit Go.Shelf Go.Sort V
attribute [local go_sem] Oper.semAt_some
namespace L07
theorem leads_shape (i : In) (j : Nat) : leadsL i j = if shape i.c = 2 then [j + 1 + i.k] else if 2 < shape i.c then [j + 1 + i.jt, j + 1 + i.jf] else [] := by
  obtain ⟨-, h2, h3⟩ := uses_eq i.c
  unfold leadsL
  rw [h2, h3]
  simp only [beq_iff_eq, decide_eq_true_eq]
theorem led_at {p : List In} {j n : Nat} (h : j < p.length) : ledAt p n j = ((shape p[j].c == 2 && p[j].k + j + 1 == n) || (decide (2 < shape p[j].c) && (p[j].jt + j + 1 == n || p[j].jf + j + 1 == n))) := by
  have hs := shape_le p[j].c
  unfold ledAt
  rw [List.getElem?_eq_getElem h]
  show (leadsL p[j] j).contains n = _
  rw [leads_shape]
  have e1 : (j + 1 + p[j].k) = p[j].k + j + 1 := by omega
  have e2 : (j + 1 + p[j].jt) = p[j].jt + j + 1 := by omega
  have e3 : (j + 1 + p[j].jf) = p[j].jf + j + 1 := by omega
  rw [e1, e2, e3]
  generalize shape p[j].c = s at *
  obtain rfl | rfl | rfl | rfl | rfl : s = 0 ∨ s = 1 ∨ s = 2 ∨ s = 3 ∨ s = 4 := by omega
  all_goals (rw [Bool.eq_iff_iff]; simp)
  all_goals omega
theorem ok_at {p : List In} {j : Nat} (h : j < p.length) : okAt p j = !((shape p[j].c == 2 && decide (p.length - 1 - j ≤ p[j].k)) || (decide (2 < shape p[j].c) && (decide (p.length - 1 - j ≤ p[j].jt) || decide (p.length - 1 - j ≤ p[j].jf)))) := by
  have hs := shape_le p[j].c
  unfold okAt
  rw [List.getElem?_eq_getElem h]
  show (leadsL p[j] j).all _ = _
  rw [leads_shape]
  generalize shape p[j].c = s at *
  obtain rfl | rfl | rfl | rfl | rfl : s = 0 ∨ s = 1 ∨ s = 2 ∨ s = 3 ∨ s = 4 := by omega
  all_goals rw [Bool.eq_iff_iff]; simp
  all_goals omega
theorem any_snoc {f : Nat → Bool} {k : Nat} (h : (List.range k).any f = false) (h2 : f k = false) : (List.range (k + 1)).any f = false := by
  rw [List.range_succ, List.any_append, h]; simp [h2]
theorem any_at {f : Nat → Bool} {k n : Nat} (h : k < n) (h2 : f k = true) : (List.range n).any f = true := List.any_eq_true.2 ⟨k, List.mem_range.2 h, h2⟩
set_option maxRecDepth 100000 in
set_option maxHeartbeats 8000000 in
theorem rled_calls (P : List In) (v : Value) (hP : ∀ i ∈ P, OkN i) (hl : P.length ≤ 1000000) (n : Nat) (hn : n ≤ P.length) (w : World) (hv : Rd w 4 encN v P) :
    Calls Tryz.prog 9 #[v, .int .i64 (n : Int)] w fun e w' => e = .returned (.bool (ledB P n)) ∧ Ext w w' := by
  obtain ⟨a, c, rfl, -, hca⟩ := rdI_cell hv
  obtain ⟨res, hres⟩ : ∃ res, ledB P n = res := ⟨_, rfl⟩
  rw [hres]
  rw [led_up P n hn] at hres
  have HP := Lib.hid hP
  have Hhres := Lib.hid hres
  clear hres
  clear hv hP
  go_enter Tryz.func9, Tryz.ntmps9
  go_wp2_with fail
  go_loopw [5] (fun i wr => ∃ k : Nat, k ≤ n ∧ i = .int .i64 k ∧ Ext w wr ∧ (List.range k).any (ledAt P n) = false) (fun i _ => n - (intOf i).toNat)
  case atStart => exact ⟨0, by omega, rfl, Ext.refl _, rfl⟩
  case round =>
    obtain ⟨k, hk, rfl, hx, hno⟩ := hrel
    by_cases hlt : k < n
    · have hltP : k < P.length := by omega
      obtain ⟨pb, po, rfl, h1, h2, h3, h4⟩ := hca k hltP
      replace h1 := hx.cell h1; replace h2 := hx.cell h2; replace h3 := hx.cell h3; replace h4 := hx.cell h4
      have hS := fun W => rshape_calls P[k].c W
      have hE := led_at (n := n) hltP
      have hsl := shape_le P[k].c
      have hN := HP.out _ (List.getElem_mem hltP)
      obtain ⟨hNc, hNt, hNf, hNk⟩ := hN
      have hsn := fun h => any_snoc hno (h : ledAt P n k = false)
      have hat := fun h => any_at (f := ledAt P n) hlt h
      have HX := Lib.hid hx
      clear hca hx hno
      generalize ledAt P n k = lk at *
      generalize shape P[k].c = s at *
      generalize P[k] = i at *
      obtain ⟨ic, jt, jf, ik⟩ := i
      dsimp only at *
      have wk : IntKind.i64.wrap (ik : Int) = (ik : Int) := IntWalk.i64_in _ (by omega)
      have wt : IntKind.i64.wrap (jt : Int) = (jt : Int) := IntWalk.i64_in _ (by omega)
      have wf : IntKind.i64.wrap (jf : Int) = (jf : Int) := IntWalk.i64_in _ (by omega)
      obtain ⟨k1, hk1⟩ : ∃ k1 : Nat, k + 1 = k1 := ⟨_, rfl⟩
      have w1 : IntKind.i64.wrap ((k : Int) + 1) = (k1 : Int) := by rw [IntWalk.i64_in _ (by omega)]; omega
      obtain ⟨nk, hnk⟩ : ∃ m : Nat, ik + k + 1 = m := ⟨_, rfl⟩
      obtain ⟨nt, hnt⟩ : ∃ m : Nat, jt + k + 1 = m := ⟨_, rfl⟩
      obtain ⟨nf, hnf⟩ : ∃ m : Nat, jf + k + 1 = m := ⟨_, rfl⟩
      rw [hnk, hnt, hnf] at hE
      have w2 : IntKind.i64.wrap ((k1 : Int) + (ik : Int)) = (nk : Int) := by rw [IntWalk.i64_in _ (by omega)]; omega
      have w3 : IntKind.i64.wrap ((k1 : Int) + (jt : Int)) = (nt : Int) := by rw [IntWalk.i64_in _ (by omega)]; omega
      have w4 : IntKind.i64.wrap ((k1 : Int) + (jf : Int)) = (nf : Int) := by rw [IntWalk.i64_in _ (by omega)]; omega
      obtain ⟨q1, -⟩ := ne_nat nk n
      obtain ⟨q2, -⟩ := ne_nat nt n
      obtain ⟨q3, -⟩ := ne_nat nf n
      generalize (nk == n) = bk at *
      generalize (nt == n) = bt at *
      generalize (nf == n) = bf at *
      have HM := Lib.hid (show k1 ≤ n ∧ (k1 : Int) = ((k + 1 : Nat) : Int) by omega)
      have HhS := Lib.hid hS
      clear hS
      have Hhsn := Lib.hid hsn
      clear hsn
      have Hhat := Lib.hid hat
      clear hat
      clear hk1 hnk hnt hnf hNc hNt hNf hNk
      have hgo : (s = 0 ∨ s = 1) ∨ (s = 2 ∧ bk = true) ∨ (s = 2 ∧ bk = false) ∨ ((s = 3 ∨ s = 4) ∧ bt = true) ∨ ((s = 3 ∨ s = 4) ∧ bt = false ∧ bf = true) ∨ ((s = 3 ∨ s = 4) ∧ bt = false ∧ bf = false) := by
        cases bk <;> cases bt <;> cases bf <;> simp <;> omega
      clear hsl
      rcases hgo with (rfl | rfl) | ⟨rfl, rfl⟩ | ⟨rfl, rfl⟩ | ⟨rfl | rfl, rfl⟩ | ⟨rfl | rfl, rfl, rfl⟩ | ⟨rfl | rfl, rfl, rfl⟩
      all_goals
        obtain ⟨bv, hbv, hlk⟩ : ∃ bv : Bool, lk = bv ∧ (bv = true ∨ bv = false) := ⟨lk, rfl, by cases lk <;> simp⟩
        simp at hE
        subst hE
        clear hlk hbv
        go_wp2_with (go_at_call 7; refine (HhS.out _).mono ?_; rintro r w5 ⟨rfl, hx5⟩; replace h2 := hx5.cell h2; replace h3 := hx5.cell h3; replace h4 := hx5.cell h4; have HX5 := Lib.hid (HX.out.trans hx5); clear hx5)
        first
          | (go_ret; exact ⟨by rw [← Hhres.out, Hhat.out (by trivial)]; rfl, HX5.out⟩)
          | (go_roundw
             case rel => exact ⟨k + 1, by omega, by rw [HM.out.2], HX5.out, Hhsn.out (by trivial)⟩
             case measure => (have hm9 := HM.out; simp [intOf]; omega))
    · have hkn : k = n := by omega
      rw [hkn] at hno
      have HX := Lib.hid hx
      have Hhno := Lib.hid hno
      clear hno
      clear hca hx
      go_wp2_with fail
      go_ret
      exact ⟨by rw [← Hhres.out, Hhno.out]; rfl, HX.out⟩
end L07
end Go.Proofs.YtbpmokffhmiacaaGreatDoor
