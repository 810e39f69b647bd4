/- Layer 7: the walk of the reference's Can. -/
import Derived.Test.YtbpmokffhmiacaaGreatDoorAsmU
namespace Go.Proofs.YtbpmokffhmiacaaGreatDoor
open Go.RowKit Go.Shelf Go.Sort V
attribute [local go_sem] Oper.semAt_some
namespace L07
theorem can_no {p : List In} {k : Nat} (h : k < p.length) (h2 : (plainI p[k] && okAt p k) = false) : canL p = false := by
  rw [← Bool.not_eq_true]
  intro hc
  rw [canL_eq] at hc
  simp only [Bool.and_eq_true] at hc
  obtain ⟨-, h3, h4⟩ := hc
  have e1 := List.all_eq_true.1 h3 p[k] (List.getElem_mem h)
  have e2 := List.all_eq_true.1 h4 k (List.mem_range.2 h)
  rw [e1, e2] at h2
  cases h2
theorem can_yes {p : List In} (h0 : p.length ≤ 4096) (h : ∀ (j : Nat) (hj : j < p.length), (plainI p[j] && okAt p j) = true) : canL p = true := by
  rw [canL_eq]
  simp only [Bool.and_eq_true, decide_eq_true_eq]
  refine ⟨h0, List.all_eq_true.2 fun x hx => ?_, List.all_eq_true.2 fun j hj => ?_⟩
  · obtain ⟨j, hj, rfl⟩ := List.getElem_of_mem hx
    have := h j hj
    rw [Bool.and_eq_true] at this
    exact this.1
  · have := h j (List.mem_range.1 hj)
    rw [Bool.and_eq_true] at this
    exact this.2
theorem dec_both (a b : Nat) : decide ((a : Int) ≤ (b : Int)) = decide (a ≤ b) := by
  rw [Bool.eq_iff_iff]; simp
set_option maxRecDepth 100000 in
set_option maxHeartbeats 8000000 in
theorem rCan_calls (P : List In) (v : Value) (hP : ∀ i ∈ P, OkN i) (hl : P.length ≤ 1000000) (w : World) (hv : Rd w 4 encN v P) :
    Calls Tryz.prog 4 #[v] w fun e w' => e = .returned (.bool (canL P)) ∧ Ext w w' := by
  obtain ⟨a, c, rfl, -, hca⟩ := rdI_cell hv
  by_cases hlong : 4096 < P.length
  · have d1 : decide (4096 < P.length) = true := decide_eq_true hlong
    have d2 : decide ((4096 : Int) < (P.length : Int)) = true := decide_eq_true (by omega)
    have hR : canL P = false := by rw [canL_eq, decide_eq_false (by omega)]; rfl
    rw [hR]
    clear hR hca hP hv
    go_enter Tryz.func4, Tryz.ntmps4
    go_wp2
    go_ret
    exact ⟨rfl, Ext.refl _⟩
  have d1 : decide (4096 < P.length) = false := decide_eq_false hlong
  have d2 : decide ((4096 : Int) < (P.length : Int)) = false := decide_eq_false (by omega)
  obtain ⟨res, hres⟩ : ∃ res, canL P = res := ⟨_, rfl⟩
  rw [hres]
  have HP := Lib.hid hP
  have Hhres := Lib.hid hres
  clear hres
  clear hv hP
  go_enter Tryz.func4, Tryz.ntmps4
  go_wp2_with fail
  go_loopw [3] (fun i wr => ∃ k : Nat, k ≤ P.length ∧ i = .int .i64 k ∧ Ext w wr ∧ ∀ (j : Nat) (hj : j < P.length), j < k → (plainI P[j] && okAt P j) = true) (fun i _ => P.length - (intOf i).toNat)
  case atStart => exact ⟨0, by omega, rfl, Ext.refl _, fun j _ h => by omega⟩
  case round =>
    obtain ⟨k, hk, rfl, hx, hno⟩ := hrel
    by_cases hlt : k < P.length
    · obtain ⟨pb, po, rfl, h1, h2, h3, h4⟩ := hca k hlt
      replace h1 := hx.cell h1; replace h2 := hx.cell h2; replace h3 := hx.cell h3; replace h4 := hx.cell h4
      have hS := fun W => rshape_calls P[k].c W
      have hPl := fun W => rplain_calls P[k] W
      have hE := ok_at hlt
      have hsl := shape_le P[k].c
      have hN := HP.out _ (List.getElem_mem hlt)
      obtain ⟨hNc, hNt, hNf, hNk⟩ := hN
      have hsn : (plainI P[k] && okAt P k) = true → ∀ (j : Nat) (hj : j < P.length), j < k + 1 → (plainI P[j] && okAt P j) = true := fun h j hj h2 => by
        by_cases e : j = k
        · subst e; exact h
        · exact hno j hj (by omega)
      have hat := fun h => can_no hlt h
      have HX := Lib.hid hx
      clear hca hx hno
      unfold inV at hPl
      generalize okAt P k = lk at *
      generalize plainI P[k] = pl at *
      generalize shape P[k].c = s at *
      generalize P[k] = i at *
      obtain ⟨ic, jt, jf, ik⟩ := i
      dsimp only at *
      have wk : IntKind.i64.wrap (ik : Int) = (ik : Int) := IntWalk.i64_in _ (by omega)
      have wt : IntKind.i64.wrap (jt : Int) = (jt : Int) := IntWalk.i64_in _ (by omega)
      have wf : IntKind.i64.wrap (jf : Int) = (jf : Int) := IntWalk.i64_in _ (by omega)
      obtain ⟨n1, hn1⟩ : ∃ n1 : Nat, P.length - 1 = n1 := ⟨_, rfl⟩
      obtain ⟨lf, hlf⟩ : ∃ lf : Nat, n1 - k = lf := ⟨_, rfl⟩
      rw [hn1, hlf] at hE
      have w1 : IntKind.i64.wrap ((P.length : Int) - 1) = (n1 : Int) := by rw [IntWalk.i64_in _ (by omega)]; omega
      have w2 : IntKind.i64.wrap ((n1 : Int) - (k : Int)) = (lf : Int) := by rw [IntWalk.i64_in _ (by omega)]; omega
      have q1 := dec_both lf ik
      have q2 := dec_both lf jt
      have q3 := dec_both lf jf
      generalize hbk : decide (lf ≤ ik) = bk at *
      generalize hbt : decide (lf ≤ jt) = bt at *
      generalize hbf : decide (lf ≤ jf) = bf at *
      have HhS := Lib.hid hS
      clear hS
      have HhPl := Lib.hid hPl
      clear hPl
      have Hhsn := Lib.hid hsn
      clear hsn
      have Hhat := Lib.hid hat
      clear hat
      clear hn1 hlf hNc hNt hNf hNk
      have hgo : pl = false ∨ (pl = true ∧ ((s = 0 ∨ s = 1) ∨ (s = 2 ∧ bk = true) ∨ (s = 2 ∧ bk = false) ∨ ((s = 3 ∨ s = 4) ∧ bt = true) ∨ ((s = 3 ∨ s = 4) ∧ bt = false ∧ bf = true) ∨ ((s = 3 ∨ s = 4) ∧ bt = false ∧ bf = false))) := by
        clear hE hbk hbt hbf q1 q2 q3
        cases pl <;> cases bk <;> cases bt <;> cases bf <;> simp <;> omega
      rcases hgo with rfl | ⟨rfl, (rfl | rfl) | ⟨rfl, rfl⟩ | ⟨rfl, rfl⟩ | ⟨rfl | rfl, rfl⟩ | ⟨rfl | rfl, rfl, rfl⟩ | ⟨rfl | rfl, rfl, rfl⟩⟩
      · clear hE hbk hbt hbf q1 q2 q3 hsl
        go_wp2_with (first
          | (go_at_call 7; refine (HhS.out _).mono ?_; rintro r w5 ⟨rfl, hx5⟩; replace h1 := hx5.cell h1; replace h2 := hx5.cell h2; replace h3 := hx5.cell h3; replace h4 := hx5.cell h4; have HX5 := Lib.hid (HX.out.trans hx5); clear hx5)
          | (go_at_call 8; refine (HhPl.out _).mono ?_; rintro r w6 ⟨rfl, hx6⟩; have HX6 := Lib.hid (HX5.out.trans hx6); clear hx6))
        go_ret
        exact ⟨by rw [← Hhres.out, Hhat.out rfl]; rfl, HX6.out⟩
      all_goals
        simp at hE
        subst hE
        clear hsl
        go_wp2_with (first
          | (go_at_call 7; refine (HhS.out _).mono ?_; rintro r w5 ⟨rfl, hx5⟩; replace h1 := hx5.cell h1; replace h2 := hx5.cell h2; replace h3 := hx5.cell h3; replace h4 := hx5.cell h4; have HX5 := Lib.hid (HX.out.trans hx5); clear hx5)
          | (go_at_call 8; refine (HhPl.out _).mono ?_; rintro r w6 ⟨rfl, hx6⟩; replace h2 := hx6.cell h2; replace h3 := hx6.cell h3; replace h4 := hx6.cell h4; have HX6 := Lib.hid (HX5.out.trans hx6); clear hx6))
        first
          | (go_ret; exact ⟨by rw [← Hhres.out, Hhat.out (by trivial)]; rfl, HX6.out⟩)
          | (go_roundw
             case rel => exact ⟨k + 1, by omega, by go_num, HX6.out, Hhsn.out (by trivial)⟩
             case measure => (simp [intOf]; omega))
    · have hkn : k = P.length := by omega
      have hy := can_yes (p := P) (by omega) (fun j hj => hno j hj (by omega))
      have HX := Lib.hid hx
      have Hhy := Lib.hid hy
      clear hy
      clear hca hx hno
      go_wp2_with fail
      go_ret
      exact ⟨by rw [← Hhres.out, Hhy.out]; rfl, HX.out⟩
end L07
end Go.Proofs.YtbpmokffhmiacaaGreatDoor
