/- Layer 25: the walk of the law CodeEnds. -/
import Derived.Test.YtkmhfjnjfghnjaaCodeQ
import Derived.Test.YtkmhfjnjfghnjaaCodeS
namespace Go.Proofs.Ytkmhfjnjfghnjaa
open Go.RowKit V
namespace L25
theorem oext {W W' : World} {base e n k : Nat} {v : Value} {zs : List Value} (h : W.ownsRow base e n v k zs) (hx : Ext W W') : W'.ownsRow base e n v k zs :=
  ownsRow_keep (S := fun b => b < W.heap.size) h (Keep.of_below hx (fun _ h => h)) (fun b hb => (h.lt b hb).2)
theorem more_step {xs : List Sy} {k : Nat} (h : k < xs.length) : more (xs.take (k + 1)) = more (xs.take k) ++ [sh xs[k]] := by
  unfold more
  rw [List.take_succ_eq_append_getElem h, List.map_append]; rfl
theorem infoY9 : (Try.prog.info? 70).map (fun i => (i.zero, i.size, i.bytes)) = some (some (.agg #[.int .u16 0, .int .u32 0, .int .i64 0, .int .i64 0]), 4, 24) := by kernel_rfl
set_option maxRecDepth 100000 in
set_option maxHeartbeats 4000000 in
theorem CodeEnds_calls (v : Value) (xs : List Sy) (hok : ∀ s ∈ xs, OkY s) (d : Dat) (hd : OkD d) (hnl : xs.length ≤ maxLen) (w : World) (hv : Rd w 4 encY v xs) :
    Calls Try.prog 12 #[v, datV d] w fun e w' => e = .returned (.bool true) ∧ Ext w w' := by
  have HV := Lib.hid hv
  obtain ⟨av, cv, rfl, -, hca⟩ := rdY_cell hv
  clear hv
  unfold maxLen at hnl
  have hA := fun W => awake_calls W
  have HhA := Lib.hid hA
  clear hA
  by_cases hlen : 1000 < xs.length
  · have h1 : decide (1000 < xs.length) = true := decide_eq_true hlen
    have h1' : decide (1000 < (xs.length : Int)) = true := decide_eq_true (by omega)
    have Hhlen := Lib.hid hlen
    clear hlen
    have Hhok := Lib.hid hok
    clear hok
    have Hhca := Lib.hid hca
    clear hca
    unfold datV
    go_enter Try.func12, Try.ntmps12
    go_wp2_with fail
    refine (HhA.out _).mono ?_
    rintro e w1 ⟨rfl, hx1⟩
    go_wp2_with fail
    go_ret
    exact ⟨rfl, ((Ext.refl _).alloc _).trans hx1⟩
  have h1 : decide (1000 < xs.length) = false := decide_eq_false hlen
  have h1' : decide (1000 < (xs.length : Int)) = false := decide_eq_false (by omega)
  have hR := fun W (hx : Ext w W) => Run_calls (fun s i len w => mayOne_calls s i len w) _ xs hok d hd (by omega) W (HV.out.ext hx)
  cases hm : mayA xs
  case false =>
    have hM := fun W (hx : Ext w W) => May_calls (fun s i len w => mayOne_calls s i len w) _ xs (by omega) W (HV.out.ext hx)
    have hRA : runA d xs = (0, 0) := by unfold runA; rw [if_neg (by rw [hm]; simp)]
    have hRE : runE xs = 250 := by unfold runE; rw [if_neg (by rw [hm]; simp)]
    rw [hRA, hRE] at hR
    rw [hm] at hM
    unfold datV at hR ⊢
    have HhR := Lib.hid hR
    clear hR
    have HhM := Lib.hid hM
    clear hM
    have Hhm := Lib.hid hm
    clear hm
    have HhRA := Lib.hid hRA
    clear hRA
    have HhRE := Lib.hid hRE
    clear hRE
    have Hhok := Lib.hid hok
    clear hok
    have Hhca := Lib.hid hca
    clear hca
    go_enter Try.func12, Try.ntmps12
    go_wp2_with fail
    refine (HhA.out _).mono ?_
    rintro e w1 ⟨rfl, hx1⟩
    have c0 := hx1.cell (p := ⟨w.heap.size, 0, none⟩) (by simp [go_sem]; rfl)
    have c1 := hx1.cell (p := ⟨w.heap.size, 1, none⟩) (by simp [go_sem]; rfl)
    have c2 := hx1.cell (p := ⟨w.heap.size, 2, none⟩) (by simp [go_sem]; rfl)
    have c3 := hx1.cell (p := ⟨w.heap.size, 3, none⟩) (by simp [go_sem]; rfl)
    have c4 := hx1.cell (p := ⟨w.heap.size, 4, none⟩) (by simp [go_sem]; rfl)
    have c5 := hx1.cell (p := ⟨w.heap.size, 5, none⟩) (by simp [go_sem]; rfl)
    have c6 := hx1.cell (p := ⟨w.heap.size, 6, none⟩) (by simp [go_sem]; rfl)
    have c7 := hx1.cell (p := ⟨w.heap.size, 7, none⟩) (by simp [go_sem]; rfl)
    have c8 := hx1.cell (p := ⟨w.heap.size, 8, none⟩) (by simp [go_sem]; rfl)
    have HX1 := Lib.hid (((Ext.refl w).alloc _).trans hx1)
    clear hx1
    go_wp2_with fail
    refine (HhR.out _ HX1.out).mono ?_
    rintro e w2 ⟨rfl, hx2⟩
    have HX2 := Lib.hid (HX1.out.trans hx2)
    clear hx2 c0 c1 c2 c3 c4 c5 c6 c7 c8
    go_wp2_with fail
    refine (HhM.out _ HX2.out).mono ?_
    rintro e w3 ⟨rfl, hx3⟩
    go_wp2_with fail
    go_ret
    exact ⟨rfl, HX2.out.trans hx3⟩
  have hRE : runE xs = 0 := by unfold runE; rw [if_pos hm]
  obtain ⟨hs1, hs2⟩ := runA_steps (d := d) hm
  have hmo := runA_more (d := d) hm (by omega)
  have hmm := mayA_more hm (by omega)
  have hREm : runE (more xs) = 0 := by unfold runE; rw [if_pos hmm]
  have hokm : ∀ s ∈ more xs, OkY s := fun s hs => by
    unfold more at hs
    rcases List.mem_cons.1 hs with rfl | hs
    · exact ⟨by decide, by decide, by decide, by decide, by decide, by decide⟩
    · obtain ⟨s', hs', rfl⟩ := List.mem_map.1 hs
      obtain ⟨j, hj, rfl⟩ := List.getElem_of_mem hs'
      have hb := may1_bd (mayA_get hm hj) (by omega)
      exact okSh (hok _ (List.getElem_mem hj)) (by omega) (by omega)
  have hRm := fun v' W (h : Rd W 4 encY v' (more xs)) => Run_calls (fun s i len w => mayOne_calls s i len w) v' (more xs) hokm d hd (by rw [more_len]; omega) W h
  rw [hRE] at hR
  rw [hREm, hmo] at hRm
  have hbd : ∀ k (hk : k < xs.length), 0 ≤ xs[k].th ∧ xs[k].th ≤ 1000 ∧ 0 ≤ xs[k].el ∧ xs[k].el ≤ 1000 := fun k hk => may1_bd (mayA_get hm hk) (by omega)
  have hml := more_len xs
  generalize (runA d xs).1 = x at *
  generalize (runA d xs).2 = n at *
  dsimp only at hRm
  unfold datV at hR hRm ⊢
  have HhR := Lib.hid hR
  clear hR
  have HhRm := Lib.hid hRm
  clear hRm
  have Hhm := Lib.hid hm
  clear hm
  have Hhmo := Lib.hid hmo
  clear hmo
  have Hhmm := Lib.hid hmm
  clear hmm
  have HhRE := Lib.hid hRE
  clear hRE
  have HhREm := Lib.hid hREm
  clear hREm
  have Hhokm := Lib.hid hokm
  clear hokm
  have Hhok := Lib.hid hok
  clear hok
  have Hhca := Lib.hid hca
  clear hca
  have Hhbd := Lib.hid hbd
  clear hbd
  have Hhml := Lib.hid hml
  clear hml
  go_enter Try.func12, Try.ntmps12
  go_wp2_with fail
  refine (HhA.out _).mono ?_
  rintro e w1 ⟨rfl, hx1⟩
  have c0 := hx1.cell (p := ⟨w.heap.size, 0, none⟩) (by simp [go_sem]; rfl)
  have c1 := hx1.cell (p := ⟨w.heap.size, 1, none⟩) (by simp [go_sem]; rfl)
  have c2 := hx1.cell (p := ⟨w.heap.size, 2, none⟩) (by simp [go_sem]; rfl)
  have c3 := hx1.cell (p := ⟨w.heap.size, 3, none⟩) (by simp [go_sem]; rfl)
  have c4 := hx1.cell (p := ⟨w.heap.size, 4, none⟩) (by simp [go_sem]; rfl)
  have c5 := hx1.cell (p := ⟨w.heap.size, 5, none⟩) (by simp [go_sem]; rfl)
  have c6 := hx1.cell (p := ⟨w.heap.size, 6, none⟩) (by simp [go_sem]; rfl)
  have c7 := hx1.cell (p := ⟨w.heap.size, 7, none⟩) (by simp [go_sem]; rfl)
  have c8 := hx1.cell (p := ⟨w.heap.size, 8, none⟩) (by simp [go_sem]; rfl)
  have HX1 := Lib.hid (((Ext.refl w).alloc _).trans hx1)
  have HC : Hid (w1.cell? ⟨w.heap.size, 0, none⟩ = _ ∧ w1.cell? ⟨w.heap.size, 1, none⟩ = _ ∧ w1.cell? ⟨w.heap.size, 2, none⟩ = _ ∧ w1.cell? ⟨w.heap.size, 3, none⟩ = _ ∧ w1.cell? ⟨w.heap.size, 4, none⟩ = _ ∧ w1.cell? ⟨w.heap.size, 5, none⟩ = _ ∧ w1.cell? ⟨w.heap.size, 6, none⟩ = _ ∧ w1.cell? ⟨w.heap.size, 7, none⟩ = _ ∧ w1.cell? ⟨w.heap.size, 8, none⟩ = _) := Lib.hid ⟨c0, c1, c2, c3, c4, c5, c6, c7, c8⟩
  clear hx1
  go_wp2_with fail
  refine (HhR.out _ HX1.out).mono ?_
  rintro e w2 ⟨rfl, hx2⟩
  have HX12 := Lib.hid hx2
  have HX2 := Lib.hid (HX1.out.trans hx2)
  clear hx2 c0 c1 c2 c3 c4 c5 c6 c7 c8
  have HOL := Lib.hid (own_lit encY_len w2 [⟨5, 0, 1, 0⟩] 70 w2.heap.size w2.heap.size rfl (Nat.le_refl _) (by unfold maxLen; simp))
  go_wp2_with fail
  go_loopw [8, 9] (fun u i wr => ∃ (k : Nat) (a : Option Addr) (c : Nat), k ≤ xs.length ∧ i = .int .i64 k ∧ u = .slice a (k + 1) c ∧ wr.ownsRow w2.heap.size 70 4 (.slice a (k + 1) c) (k + 1) ((more (xs.take k)).flatMap encY) ∧ Ext w2 wr) (fun _ i _ => xs.length - (intOf i).toNat)
  case atStart => exact ⟨0, _, _, by omega, rfl, rfl, HOL.out, (Ext.refl _).alloc _⟩
  case round =>
    obtain ⟨k, a, c, hk, rfl, rfl, ho, hx⟩ := hrel
    have HX := Lib.hid hx
    have HO := Lib.hid ho
    by_cases hlt : k < xs.length
    · obtain ⟨b, o, rfl, t0, t1, t2, t3⟩ := Hhca.out k hlt
      have hw := HX2.out.trans hx
      replace t0 := hw.cell t0
      replace t1 := hw.cell t1
      replace t2 := hw.cell t2
      replace t3 := hw.cell t3
      have hst := more_step hlt
      have hb := Hhbd.out k hlt
      have hlm : (more (xs.take k)).length = k + 1 := by rw [more_len, List.length_take]; omega
      clear hx ho hw
      generalize xs[k]'hlt = s at *
      obtain ⟨sc, sk, sth, sel⟩ := s
      dsimp only at *
      obtain ⟨hb1, hb2, hb3, hb4⟩ := hb
      have HLM := Lib.hid hlm
      clear hlm
      have hcase : ∃ th' el' : Int, sh ⟨sc, sk, sth, sel⟩ = ⟨sc, sk, th', el'⟩ ∧ ((decide (0 < sth) = true ∧ th' = sth + 1) ∨ (decide (0 < sth) = false ∧ th' = sth)) ∧ ((decide (0 < sel) = true ∧ el' = sel + 1) ∨ (decide (0 < sel) = false ∧ el' = sel)) := by
        refine ⟨_, _, rfl, ?_, ?_⟩
        · by_cases h : 0 < sth
          · exact .inl ⟨decide_eq_true h, by dsimp only; rw [if_pos h]⟩
          · exact .inr ⟨decide_eq_false h, by dsimp only; rw [if_neg h]⟩
        · by_cases h : 0 < sel
          · exact .inl ⟨decide_eq_true h, by dsimp only; rw [if_pos h]⟩
          · exact .inr ⟨decide_eq_false h, by dsimp only; rw [if_neg h]⟩
      obtain ⟨th', el', hsh, hct, hce⟩ := hcase
      rw [hsh] at hst
      have Hhst := Lib.hid hst
      clear hst
      have Hhsh := Lib.hid hsh
      clear hsh
      rcases hct with ⟨dt, rfl⟩ | ⟨dt, rfl⟩ <;> rcases hce with ⟨de, rfl⟩ | ⟨de, rfl⟩
      all_goals
        go_wp2_with (at_builtin
                     refine wpList_app_rd rfl (.tmp 65) (.tmp 67) _ rfl Try.underlying52 infoY9 rfl (by decide) encY_len encY_one w2 _ _ (more (xs.take k)) [⟨sc, sk, _, _⟩] rfl rfl (by rw [HLM.out]; exact oext HO.out (by repeat (first | exact Ext.refl _ | refine Ext.alloc ?_ _ | refine Ext.setCell ?_ (by simp) _))) (rd_lit encY_len _ [⟨sc, sk, _, _⟩] _ _ (by first | rfl | simp)) (by rw [HLM.out]; simp; omega) (by decide) (by repeat (first | exact HX.out | refine Ext.alloc ?_ _ | refine Ext.setCell ?_ (by have := HX.out.size; simpa using this) _)) ?_
                     intro au cu w5 ho5 hx5
                     rw [HLM.out] at ho5 ⊢
                     have HO5 := Lib.hid ho5
                     have HX5 := Lib.hid hx5
                     clear ho5 hx5)
        go_roundw
        case rel => exact ⟨k + 1, _, _, by omega, by go_num, rfl, by rw [Hhst.out]; exact HO5.out, HX5.out⟩
        case measure => simp [intOf]; omega
    · obtain rfl : k = xs.length := by omega
      rw [List.take_length] at ho
      have hr : Rd wr 4 encY (.slice a (xs.length + 1) c) (more xs) := by
        have h := ho
        rw [← Hhml.out] at h ⊢
        exact rd_of_own encY_len h
      obtain ⟨q0, q1, q2, q3, q4, q5, q6, q7, q8⟩ := HC.out
      have hx13 := HX12.out.trans hx
      replace q0 := hx13.cell q0
      replace q1 := hx13.cell q1
      replace q2 := hx13.cell q2
      replace q3 := hx13.cell q3
      replace q4 := hx13.cell q4
      replace q5 := hx13.cell q5
      replace q6 := hx13.cell q6
      replace q7 := hx13.cell q7
      replace q8 := hx13.cell q8
      have HR := Lib.hid hr
      have HXW := Lib.hid (HX2.out.trans hx)
      clear hx ho hr hx13
      have e1 : decide ((1 : Int) ≤ (n : Int)) = true := decide_eq_true (by omega)
      have e2 : decide (1 ≤ n) = true := decide_eq_true (by omega)
      have e3 : decide ((n : Int) ≤ (xs.length : Int)) = true := decide_eq_true (by omega)
      have e4 : decide (n ≤ xs.length) = true := decide_eq_true (by omega)
      go_wp2_with fail
      refine (HhRm.out _ _ HR.out).mono ?_
      rintro e w6 ⟨rfl, hx6⟩
      have HX6 := Lib.hid (HXW.out.trans hx6)
      clear hx6 q0 q1 q2 q3 q4 q5 q6 q7 q8
      go_wp2_with fail
      go_ret
      exact ⟨by simp, HX6.out⟩
end L25
end Go.Proofs.Ytkmhfjnjfghnjaa
