/- Layer 14: the walk of the reference's Order. -/
import Derived.BigRegion
import Derived.Test.YtkmbahpjioopdaaDropK
namespace Go.Proofs.Ytkmbahpjioopdaa
open Go.RowKit V
attribute [local go_sem] Oper.semAt_some Option.isSome_some
namespace L12
/-- does the j-th of the files mask f, the i-th? -/
def beats (f g : Fl) (j i : Nat) : Bool := (g.1 == f.1) && (decide (g.2.1 < f.2.1) || (decide (g.2.1 = f.2.1) && decide (j < i)))
theorem win_beats {fs : List Fl} {i : Nat} {f : Fl} (hf : fs[i]? = some f) : Win fs i f ↔ ∀ j (hj : j < fs.length), beats f fs[j] j i = false := by
  have hi : i < fs.length := (List.getElem?_eq_some_iff.1 hf).1
  constructor
  · rintro ⟨-, -, h⟩ j hj
    unfold beats
    by_cases e : fs[j].1 = f.1
    · have := h j fs[j] hj (List.getElem?_eq_getElem hj) e
      simp [e]
      omega
    · simp [e]
  · intro h
    refine ⟨hi, hf, fun j g hj hg e => ?_⟩
    rw [List.getElem?_eq_getElem hj] at hg
    obtain rfl := Option.some.inj hg
    have := h j hj
    unfold beats at this
    simp [e] at this
    omega
theorem ownK_ext {W W' : World} {b e n k : Nat} {u : Value} {z : List Value} (h : W.ownsRow b e n u k z) (hx : Ext W W') : W'.ownsRow b e n u k z := ownX_ext h hx
/-- two files of a row change places -/
theorem own_swap {W : World} {base g c : Nat} {xs : List PF} {x y : PF} {i j : Nat} (h : W.ownsRow base 24 3 (.slice (some ⟨g, 0, none⟩) xs.length c) xs.length (xs.flatMap encF)) (hi : i < xs.length) (hj : j < xs.length) (hx : xs[i] = x) (hy : xs[j] = y) (hij : i ≠ j) :
    ((((((W.setCell ⟨g, i * 3, none⟩ (.string (str y.nm))).setCell ⟨g, i * 3 + 1, none⟩ (.int .i64 y.dir)).setCell ⟨g, i * 3 + 2, none⟩ (.slice y.a y.bs.length y.c)).setCell ⟨g, j * 3, none⟩ (.string (str x.nm))).setCell ⟨g, j * 3 + 1, none⟩ (.int .i64 x.dir)).setCell ⟨g, j * 3 + 2, none⟩ (.slice x.a x.bs.length x.c)).ownsRow base 24 3 (.slice (some ⟨g, 0, none⟩) xs.length c) xs.length (((xs.set i y).set j x).flatMap encF) := by
  have h1 := (own_store encF_len h i 0 (.string (str y.nm)) ⟨y.nm, x.dir, x.bs, x.a, x.c⟩ hi (by decide) (by rw [hx]; rfl)).1
  have l1 : (xs.set i ⟨y.nm, x.dir, x.bs, x.a, x.c⟩).length = xs.length := List.length_set
  rw [← l1] at h1
  have h2 := (own_store encF_len h1 i 1 (.int .i64 y.dir) ⟨y.nm, y.dir, x.bs, x.a, x.c⟩ (by rw [l1]; exact hi) (by decide) (by rw [List.getElem_set_self]; rfl)).1
  rw [List.set_set, l1] at h2
  have l2 : (xs.set i ⟨y.nm, y.dir, x.bs, x.a, x.c⟩).length = xs.length := List.length_set
  rw [← l2] at h2
  have h3 := (own_store encF_len h2 i 2 (.slice y.a y.bs.length y.c) y (by rw [l2]; exact hi) (by decide) (by rw [List.getElem_set_self]; rfl)).1
  rw [List.set_set, l2] at h3
  have l3 : (xs.set i y).length = xs.length := List.length_set
  have hj3 : (xs.set i y)[j]'(by rw [l3]; exact hj) = y := by rw [List.getElem_set_ne hij]; exact hy
  rw [← l3] at h3
  have h4 := (own_store encF_len h3 j 0 (.string (str x.nm)) ⟨x.nm, y.dir, y.bs, y.a, y.c⟩ (by rw [l3]; exact hj) (by decide) (by rw [hj3]; rfl)).1
  rw [l3] at h4
  have l4 : ((xs.set i y).set j ⟨x.nm, y.dir, y.bs, y.a, y.c⟩).length = xs.length := by rw [List.length_set, l3]
  rw [← l4] at h4
  have h5 := (own_store encF_len h4 j 1 (.int .i64 x.dir) ⟨x.nm, x.dir, y.bs, y.a, y.c⟩ (by rw [l4]; exact hj) (by decide) (by rw [List.getElem_set_self]; rfl)).1
  rw [List.set_set, l4] at h5
  have l5 : ((xs.set i y).set j ⟨x.nm, x.dir, y.bs, y.a, y.c⟩).length = xs.length := by rw [List.length_set, l3]
  rw [← l5] at h5
  have h6 := (own_store encF_len h5 j 2 (.slice x.a x.bs.length x.c) x (by rw [l5]; exact hj) (by decide) (by rw [List.getElem_set_self]; rfl)).1
  rw [List.set_set, l5] at h6
  exact h6
theorem set_swap (m z p : PF) : ∀ (A B : List PF), ((m :: ((A ++ [z]) ++ p :: B)).set (A.length + 2) z).set (A.length + 1) p = m :: (A ++ p :: (z :: B))
  | [], B => rfl
  | a :: A, B => by
    have ih := set_swap m z p A B
    simp only [List.cons_append, List.length_cons, List.set_cons_succ, List.cons.injEq, true_and] at ih ⊢
    exact ih
set_option maxRecDepth 100000 in
set_option maxHeartbeats 8000000 in
theorem refOrder_calls (m : PF) (v : Value) (ps : List PF) (hl : ps.length ≤ 1000000) (hop : ∀ p ∈ ps, OkF p) (w : World) (hv : Rd w 3 encF v ps) :
    Calls Try.prog 11 #[fV m, v] w fun e w' => ∃ (u : Value) (qs : List PF), e = .returned (.tuple #[u, .int .i64 (ordE (ps.map PF.f) : Nat)]) ∧ qs.map PF.f = orderL m.f (ps.map PF.f) ∧ Ext w w' ∧ w'.ownsRow w.heap.size 24 3 u qs.length (qs.flatMap encF) ∧ ∀ q ∈ qs, q = m ∨ q ∈ ps := by
  obtain ⟨a, c, rfl, hac, hca⟩ := rdF_cell hv
  have hM := fun p (hp : p ∈ ps) W => refMay14_calls (str p.nm) (by rw [str_sizeD]; exact (hop p hp).n) W
  have hn1 := heap_alloc_new w (.cells #[.string (str m.nm), .int .i64 m.dir, .slice m.a m.bs.length m.c] 24)
  have hx1 : Ext w (w.alloc (.cells #[.string (str m.nm), .int .i64 m.dir, .slice m.a m.bs.length m.c] 24)) := (Ext.refl _).alloc _
  have HX1 := Lib.hid hx1
  have HN1 := Lib.hid hn1
  clear hx1 hv hn1 hop
  unfold fV
  by_cases h16 : 16 < ps.length
  · have hE : ordE (ps.map PF.f) = 4 := by unfold ordE; rw [List.length_map, if_pos h16]
    have hO : orderL m.f (ps.map PF.f) = [] := by unfold orderL; rw [if_neg (by rw [hE]; decide)]
    rw [hE, hO]
    have e1 : decide ((16 : Int) < (ps.length : Int)) = true := decide_eq_true (by omega)
    clear hE hO
    have HhM := Lib.hid hM
    clear hM
    have Hhca := Lib.hid hca
    clear hca
    go_enter Try.func11, Try.ntmps11
    go_wp2_with fail
    go_ret2
    exact ⟨_, [], rfl, rfl, HX1.out, World.ownsRow_nil _ _ _ _, by simp⟩
  have e1 : decide ((16 : Int) < (ps.length : Int)) = false := decide_eq_false (by omega)
  obtain ⟨E, hE⟩ : ∃ E, E = ordE (ps.map PF.f) := ⟨_, rfl⟩
  obtain ⟨L, hL⟩ : ∃ L, L = orderL m.f (ps.map PF.f) := ⟨_, rfl⟩
  rw [← hE, ← hL]
  have HE := Lib.hid hE
  have HL := Lib.hid hL
  clear hE hL
  have HhM := Lib.hid hM
  clear hM
  have Hhca := Lib.hid hca
  clear hca
  go_enter Try.func11, Try.ntmps11
  go_wp2_with fail
  generalize w.alloc (.cells #[.string (str m.nm), .int .i64 m.dir, .slice m.a m.bs.length m.c] 24) = W1 at *
  go_loopw [6] (fun i wr => ∃ k : Nat, k ≤ ps.length ∧ i = .int .i64 k ∧ Ext W1 wr ∧ ∀ j (hj : j < ps.length), j < k → mayN ps[j].nm = true) (fun i _ => ps.length - (intOf i).toNat)
  case atStart => exact ⟨0, by omega, rfl, Ext.refl _, fun j hj h => by omega⟩
  case round =>
    obtain ⟨k, hk, rfl, hx, hno⟩ := hrel
    have HX := Lib.hid hx
    have HNO := Lib.hid hno
    clear hx hno
    have HXA := Lib.hid (HX1.out.trans HX.out)
    by_cases hlt : k < ps.length
    · obtain ⟨b, o, rfl, c0, -, -⟩ := Hhca.out k hlt
      replace c0 := HXA.out.cell c0
      have hmj := HhM.out ps[k] (List.getElem_mem hlt)
      rw [bytes_strD] at hmj
      have HMJ := Lib.hid hmj
      clear hmj
      obtain ⟨nj, hnj⟩ : ∃ nj, nj = ps[k].nm := ⟨_, rfl⟩
      rw [← hnj] at c0 HMJ
      have HNJ := Lib.hid hnj
      clear hnj
      go_wp2_with fail
      refine (HMJ.out _).mono ?_
      rintro e w3 ⟨rfl, hx3⟩
      have HX3 := Lib.hid (HX.out.trans hx3)
      clear hx3 c0
      cases hmay : mayN nj
      · have hall2 : (ps.map PF.f).all (fun f => mayN f.1) = false := by
          rw [List.all_eq_false]
          exact ⟨ps[k].f, List.mem_map.2 ⟨_, List.getElem_mem hlt, rfl⟩, by show ¬ mayN ps[k].nm = true; rw [← HNJ.out, hmay]; decide⟩
        have hE : ordE (ps.map PF.f) = 140 := by unfold ordE; rw [List.length_map, if_neg h16, if_neg (by rw [hall2]; decide)]
        have hO : orderL m.f (ps.map PF.f) = [] := by unfold orderL; rw [if_neg (by rw [hE]; decide)]
        obtain rfl : E = 140 := HE.out.trans hE
        obtain rfl : L = [] := HL.out.trans hO
        clear hE hO hall2
        go_wp2_with fail
        go_ret2
        exact ⟨_, [], rfl, rfl, HX1.out.trans HX3.out, World.ownsRow_nil _ _ _ _, by simp⟩
      · have HMY := Lib.hid hmay
        clear hmay
        go_wp2_with fail
        go_roundw
        case rel => exact ⟨k + 1, by omega, by go_num, HX3.out, fun j hj h => by
          by_cases e : j = k
          · subst e; rw [← HNJ.out]; exact HMY.out
          · exact HNO.out j hj (by omega)⟩
        case measure => simp [intOf]; omega
    · obtain rfl : k = ps.length := by omega
      have hall : (ps.map PF.f).all (fun f => mayN f.1) = true := by
        rw [List.all_eq_true]
        intro f hf
        obtain ⟨p, hp, rfl⟩ := List.mem_map.1 hf
        obtain ⟨i, hi, rfl⟩ := List.mem_iff_getElem.1 hp
        exact HNO.out i hi hi
      have hE : ordE (ps.map PF.f) = 0 := by unfold ordE; rw [List.length_map, if_neg h16, if_pos hall]
      have hO : orderL m.f (ps.map PF.f) = m.f :: ordL (ps.map PF.f) := by unfold orderL; rw [if_pos hE]
      obtain rfl : E = 0 := HE.out.trans hE
      obtain rfl : L = m.f :: ordL (ps.map PF.f) := HL.out.trans hO
      have hb2 := blk_ext HN1.out HX.out
      have m0 := blk_cell hb2 0
      have m1 := blk_cell hb2 1
      have m2 := blk_cell hb2 2
      simp at m0 m1 m2
      clear hE hO hall HNO hb2
      have hown0 := own_lit encF_len wr [m] 24 wr.heap.size w.heap.size rfl HXA.out.size (by unfold maxLen; simp)
      have HOWN0 := Lib.hid hown0
      have HXL := Lib.hid (HXA.out.alloc (.cells #[.string (str m.nm), .int .i64 m.dir, .slice m.a m.bs.length m.c] 24))
      clear hown0
      go_wp2_with fail
      go_loopw [7, 8] (fun u i wi => ∃ (k : Nat) (rest : List PF), k ≤ ps.length ∧ rest.length ≤ k ∧ i = .int .i64 k ∧ Ext w wi ∧ wi.ownsRow w.heap.size 24 3 u (m :: rest).length ((m :: rest).flatMap encF) ∧ OrdK (ps.map PF.f) k (rest.map PF.f) ∧ ∀ q ∈ rest, q ∈ ps) (fun _ i _ => ps.length - (intOf i).toNat)
      case atStart => exact ⟨0, [], by omega, by simp, rfl, HXL.out, HOWN0.out, ord_start _, by simp⟩
      case round =>
        obtain ⟨k, rest, hk, hrk, rfl, hxi, hown, hord, hmem⟩ := hrel
        have HXI := Lib.hid hxi
        have HOWN := Lib.hid hown
        have HORD := Lib.hid hord
        have HMEM := Lib.hid hmem
        clear hxi hown hord hmem
        obtain ⟨ao, co, rfl⟩ := own_form HOWN.out
        obtain ⟨wo, hwo⟩ : ∃ wo, wo = wr := ⟨_, rfl⟩
        subst hwo
        by_cases hlt : k < ps.length
        · have hfk : (ps.map PF.f)[k]? = some ps[k].f := by rw [List.getElem?_map, List.getElem?_eq_getElem hlt]; rfl
          have HFK := Lib.hid hfk
          clear hfk
          go_wp2_with fail
          go_loopw [9, 10] (fun s i wi2 => ∃ j : Nat, j ≤ ps.length ∧ i = .int .i64 j ∧ Ext wo wi2 ∧ ∃ b : Bool, s = .bool b ∧ (b = true ↔ ∀ j' (hj : j' < ps.length), j' < j → beats ps[k].f ps[j'].f j' k = false)) (fun _ i _ => ps.length - (intOf i).toNat)
          case atStart => exact ⟨0, by omega, rfl, Ext.refl _, true, rfl, by simp⟩
          case round =>
            obtain ⟨j, hj, rfl, hx2, bo, rfl, hbo⟩ := hrel
            have HX2 := Lib.hid hx2
            have HBO := Lib.hid hbo
            clear hx2 hbo
            by_cases hjl : j < ps.length
            · obtain ⟨b, o, rfl, c0, c1, -⟩ := Hhca.out k hlt
              obtain ⟨b', o', e', g0, g1, -⟩ := Hhca.out j hjl
              simp only [Option.some.injEq, Addr.mk.injEq, and_true] at e'
              obtain ⟨rfl, rfl⟩ := e'
              have hxa := HXI.out.trans HX2.out
              replace c0 := hxa.cell c0; replace c1 := hxa.cell c1
              replace g0 := hxa.cell g0; replace g1 := hxa.cell g1
              clear hxa
              have hbt : beats ps[k].f ps[j].f j k = ((ps[j].nm == ps[k].nm) && (decide (ps[j].dir < ps[k].dir) || (decide (ps[j].dir = ps[k].dir) && decide (j < k)))) := rfl
              have hstep : ∀ b' : Bool, (b' = true ↔ (bo = true ∧ beats ps[k].f ps[j].f j k = false)) → (b' = true ↔ ∀ j' (hj : j' < ps.length), j' < j + 1 → beats ps[k].f ps[j'].f j' k = false) := fun b' h => by
                rw [h, HBO.out]
                constructor
                · rintro ⟨h1, h2⟩ j' hj' hl'
                  by_cases e : j' = j
                  · subst e; exact h2
                  · exact h1 j' hj' (by omega)
                · intro h1
                  exact ⟨fun j' hj' hl' => h1 j' hj' (by omega), h1 j hjl (by omega)⟩
              have HST := Lib.hid hstep
              clear hstep
              generalize beats ps[k].f ps[j].f j k = bt at *
              obtain ⟨nk, hnk⟩ : ∃ nk, nk = ps[k].nm := ⟨_, rfl⟩
              obtain ⟨nj, hnj⟩ : ∃ nj, nj = ps[j].nm := ⟨_, rfl⟩
              obtain ⟨dk, hdk⟩ : ∃ dk, dk = ps[k].dir := ⟨_, rfl⟩
              obtain ⟨dj, hdj⟩ : ∃ dj, dj = ps[j].dir := ⟨_, rfl⟩
              rw [← hnk] at c0 hbt
              rw [← hdk] at c1 hbt
              rw [← hnj] at g0 hbt
              rw [← hdj] at g1 hbt
              have hjkd : decide ((j : Int) < (k : Int)) = decide (j < k) := by rw [decide_eq_decide]; omega
              have hdd : (dj == dk) = decide (dj = dk) := by rw [Bool.eq_iff_iff]; simp
              have hnn : ((str nj).toList == (str nk).toList) = (nj == nk) := by rw [toList_str, toList_str]
              clear hnk hnj hdk hdj
              cases q1 : (nj == nk) <;> cases q2 : decide (dj < dk) <;> cases q3 : decide (dj = dk) <;> cases q4 : decide (j < k)
              all_goals
                rw [q4] at hjkd
                rw [q3] at hdd
                rw [q1] at hnn
                rw [q1, q2, q3, q4] at hbt
                simp at hbt
                have HBT := Lib.hid hbt
                clear hbt
                go_wp2_with (go_quiet (fail))
                go_roundw
                case rel =>
                  refine ⟨j + 1, by omega, by go_num, by repeat (first | exact HX2.out | apply Ext.drewN | apply Ext.drew), _, rfl, HST.out _ ?_⟩
                  rw [HBT.out]
                  simp
                case measure => simp [intOf]; omega
            · obtain rfl : j = ps.length := by omega
              have HX22 := Lib.hid (HXI.out.trans HX2.out)
              have HOWN2 := Lib.hid (ownK_ext HOWN.out HX2.out)
              cases bo
              · have hnw : ∀ f, ¬ Win (ps.map PF.f) k f := fun f hw => by
                  have h1 := hw.2.1
                  rw [HFK.out] at h1
                  obtain rfl := Option.some.inj h1
                  have h2 := (win_beats HFK.out).1 hw
                  have h3 := HBO.out.2 (fun j' hj' _ => by
                    have := h2 j' (by rw [List.length_map]; exact hj')
                    rw [List.getElem_map] at this
                    exact this)
                  cases h3
                have HORD2 := Lib.hid (ord_step_no HORD.out hnw)
                clear hnw HBO
                go_wp2_with fail
                go_roundw
                case rel => exact ⟨k + 1, rest, by omega, by omega, by go_num, HX22.out, HOWN2.out, HORD2.out, HMEM.out⟩
                case measure => simp [intOf]; omega
              · have hw : Win (ps.map PF.f) k ps[k].f := (win_beats HFK.out).2 (fun j' hj' => by
                  have h3 := HBO.out.1 rfl j' (by rw [List.length_map] at hj'; exact hj') (by rw [List.length_map] at hj'; exact hj')
                  rw [List.getElem_map]
                  exact h3)
                have HWN := Lib.hid hw
                have hpm : ps[k] ∈ ps := List.getElem_mem hlt
                have HPM := Lib.hid hpm
                obtain ⟨b, o, rfl, c0, c1, c2⟩ := Hhca.out k hlt
                replace c0 := HX22.out.cell c0; replace c1 := HX22.out.cell c1; replace c2 := HX22.out.cell c2
                clear hw hpm HBO
                generalize ps[k] = p at *
                go_wp2_with (at_builtin
                             refine wpList_app_g rfl (.tmp 86) (.tmp 91) _ rfl Try.underlying25 infoF rfl (by decide) encF_len encF_one w.heap.size _ _ (m :: rest) [p] rfl rfl (World.ownsRow.alloc HOWN2.out _) (rd_lit encF_len wr [p] _ _ rfl) (by simp; omega) (by decide) (HX22.out.alloc _).size ?_
                             intro au9 cu9 w9 ho9 hg9
                             have HO9 := Lib.hid ho9
                             have HX9 := Lib.hid ((HX22.out.alloc _).grown hg9 (fun j e => (HOWN2.out.lt j e).1))
                             clear ho9 hg9)
                have ho9 := HO9.out
                rw [← List.length_append] at ho9
                obtain ⟨g, cg, hg9, hbg, -, hfz⟩ := own_parts ho9 (by simp)
                clear ho9
                simp only [Value.slice.injEq, true_and] at hg9
                obtain ⟨rfl, rfl⟩ := hg9
                have HBG := Lib.hid hbg
                clear hfz hbg
                go_loopw [11] (fun i wi => ∃ (A B : List PF), A ++ B = rest ∧ i = .int .i64 ((A.length + 1 : Nat) : Int) ∧ Ext w wi ∧ wi.ownsRow w.heap.size 24 3 (.slice (some ⟨g, 0, none⟩) (rest.length + 1 + 1) cu9) (rest.length + 1 + 1) ((m :: (A ++ p :: B)).flatMap encF) ∧ ∀ b ∈ B, lt p.nm b.nm = true) (fun i _ => (intOf i).toNat)
                case atStart =>
                  refine ⟨rest, [], List.append_nil _, rfl, HX9.out, ?_, fun b hb => by cases hb⟩
                  exact HO9.out
                case round =>
                  obtain ⟨A, B, hAB, rfl, hxw, how, hB⟩ := hrel
                  have HAB := Lib.hid hAB
                  have HXW := Lib.hid hxw
                  have HOW := Lib.hid how
                  have HB := Lib.hid hB
                  clear hAB hxw how hB
                  rcases List.eq_nil_or_concat A with hA | ⟨A', z, hA⟩
                  · subst hA
                    have HORD2 := Lib.hid (ord_step_yes (A := []) (B := B.map PF.f) (by rw [show [] ++ B.map PF.f = rest.map PF.f by rw [← HAB.out]; rfl]; exact HORD.out) HWN.out (fun f hf => by obtain ⟨q, hq, rfl⟩ := List.mem_map.1 hf; exact HB.out q hq) (fun a h => by cases h))
                    have HMEM2 : Hid (∀ q ∈ [] ++ p :: B, q ∈ ps) := Lib.hid (fun q hq => by
                      rcases List.mem_append.1 hq with h | h
                      · exact HMEM.out q (by rw [← HAB.out]; exact List.mem_append_left _ h)
                      · rcases List.mem_cons.1 h with rfl | h
                        · exact HPM.out
                        · exact HMEM.out q (by rw [← HAB.out]; exact List.mem_append_right _ h))
                    have HLN : Hid (([] ++ p :: B).length = rest.length + 1) := Lib.hid (by rw [← HAB.out]; simp)
                    go_wp2_with (go_quiet (fail))
                    go_roundw
                    case rel =>
                      refine ⟨k + 1, p :: B, by omega, ?_, by go_num, ?_, ?_, HORD2.out, HMEM2.out⟩
                      · have := HLN.out; simp at this ⊢; omega
                      · repeat (first | exact HXW.out | apply Ext.drewN | apply Ext.drew)
                      · rw [show (m :: (p :: B)).length = rest.length + 1 + 1 by rw [List.length_cons]; exact congrArg (· + 1) HLN.out]
                        exact ownsRow_drewN HOW.out _
                    case measure => simp [intOf]; omega
                  · rw [List.concat_eq_append] at hA
                    subst hA
                    have hlen : (m :: ((A' ++ [z]) ++ p :: B)).length = rest.length + 1 + 1 := by rw [← HAB.out]; simp only [List.length_cons, List.length_append, List.length_nil]; omega
                    have how2 := HOW.out
                    rw [← hlen] at how2
                    obtain ⟨a5, c5, e5, -, hc5⟩ := rdF_cell (rd_of_own encF_len how2)
                    simp only [Value.slice.injEq, true_and] at e5
                    obtain ⟨rfl, rfl⟩ := e5
                    obtain ⟨k1, hk1⟩ : ∃ k1, k1 = A'.length + 1 := ⟨_, rfl⟩
                    obtain ⟨k2, hk2⟩ : ∃ k2, k2 = A'.length + 2 := ⟨_, rfl⟩
                    have hk2l : k2 < (m :: ((A' ++ [z]) ++ p :: B)).length := by rw [hk2]; simp; omega
                    have hk1l : k1 < (m :: ((A' ++ [z]) ++ p :: B)).length := by omega
                    have hp2 : (m :: ((A' ++ [z]) ++ p :: B))[k2]'hk2l = p := by subst hk2; simp
                    have hz1 : (m :: ((A' ++ [z]) ++ p :: B))[k1]'hk1l = z := by subst hk1; simp
                    obtain ⟨b2, o2, e2, p0, p1, p2⟩ := hc5 k2 hk2l
                    simp only [Option.some.injEq, Addr.mk.injEq, and_true] at e2
                    obtain ⟨rfl, rfl⟩ := e2
                    obtain ⟨b2, o2, e2, z0, z1, z2⟩ := hc5 k1 hk1l
                    simp only [Option.some.injEq, Addr.mk.injEq, and_true] at e2
                    obtain ⟨rfl, rfl⟩ := e2
                    rw [hp2] at p0 p1 p2
                    rw [hz1] at z0 z1 z2
                    simp only [Nat.zero_add] at p0 p1 p2 z0 z1 z2
                    have hkk : (A' ++ [z]).length + 1 = k2 := by rw [hk2]; simp
                    rw [hkk]
                    have hgt : decide ((1 : Int) < (k2 : Int)) = true := decide_eq_true (by omega)
                    have hwk : IntKind.i64.wrap ((k2 : Int) - 1) = (k1 : Int) := by rw [show (k1 : Int) = (k2 : Int) - 1 by omega]; exact IntWalk.i64_in _ (by omega)
                    have hb2 : k2 < rest.length + 1 + 1 := by rw [← hlen]; exact hk2l
                    have hb1 : k1 < rest.length + 1 + 1 := by omega
                    have HLEN := Lib.hid hlen
                    have HOW2 := Lib.hid how2
                    have HP2 := Lib.hid hp2
                    have HZ1 := Lib.hid hz1
                    have HK1 := Lib.hid hk1
                    have HK2 := Lib.hid hk2
                    have HKK := Lib.hid hkk
                    have HL2 := Lib.hid hk2l
                    have HL1 := Lib.hid hk1l
                    clear hlen how2 hc5 hp2 hz1 hk1 hk2 hkk
                    cases hz : lt p.nm z.nm
                    · have hbl : Op.bytesLess (str p.nm).toList (str z.nm).toList = false := by rw [toList_str, toList_str]; exact hz
                      have hbl2 : Op.bytesLess p.nm z.nm = false := hz
                      have HORD2 := Lib.hid (ord_step_yes (A := (A' ++ [z]).map PF.f) (B := B.map PF.f) (by rw [← List.map_append, HAB.out]; exact HORD.out) HWN.out (fun f hf => by obtain ⟨q, hq, rfl⟩ := List.mem_map.1 hf; exact HB.out q hq) (fun a ha => by rw [List.map_append, List.map_singleton, List.getLast?_concat] at ha; obtain rfl := Option.some.inj ha; exact hz))
                      have HMEM2 : Hid (∀ q ∈ (A' ++ [z]) ++ p :: B, q ∈ ps) := Lib.hid (fun q hq => by
                        rcases List.mem_append.1 hq with h | h
                        · exact HMEM.out q (by rw [← HAB.out]; exact List.mem_append_left _ h)
                        · rcases List.mem_cons.1 h with rfl | h
                          · exact HPM.out
                          · exact HMEM.out q (by rw [← HAB.out]; exact List.mem_append_right _ h))
                      go_wp2_with (go_quiet (fail))
                      go_roundw
                      case rel =>
                        refine ⟨k + 1, (A' ++ [z]) ++ p :: B, by omega, ?_, by go_num, ?_, ?_, ?_, HMEM2.out⟩
                        · have := HLEN.out; rw [List.length_cons] at this; omega
                        · repeat (first | exact HXW.out | apply Ext.drewN | apply Ext.drew)
                        · rw [HLEN.out]
                          exact ownsRow_drewN HOW.out _
                        · have := HORD2.out; rw [List.map_append, List.map_cons]; exact this
                      case measure => simp [intOf]; omega
                    · have hbl : Op.bytesLess (str p.nm).toList (str z.nm).toList = true := by rw [toList_str, toList_str]; exact hz
                      have hbl2 : Op.bytesLess p.nm z.nm = true := hz
                      go_wp2_with (go_quiet (fail))
                      have hx5 : Ext wr (wr.drewN nq) := (Ext.refl _).drewN _
                      have how5 := ownX_ext HOW2.out hx5
                      generalize wr.drewN nq = W5 at *
                      obtain ⟨g', c', e5, hbg5, -, hfz⟩ := own_parts how5 (by rw [HLEN.out]; omega)
                      simp only [Value.slice.injEq, Option.some.injEq, Addr.mk.injEq, and_true, true_and] at e5
                      obtain ⟨rfl, rfl⟩ := e5
                      have HX5 := Lib.hid (HXW.out.trans hx5)
                      have HOW5 := Lib.hid how5
                      replace p0 := hx5.cell p0; replace p1 := hx5.cell p1; replace p2 := hx5.cell p2
                      replace z0 := hx5.cell z0; replace z1 := hx5.cell z1; replace z2 := hx5.cell z2
                      have f0 := hfz (k2 * 3)
                      have f1 := hfz (k2 * 3 + 1)
                      have f2 := hfz (k2 * 3 + 2)
                      have f3 := hfz (k1 * 3)
                      have f4 := hfz (k1 * 3 + 1)
                      have f5 := hfz (k1 * 3 + 2)
                      have hbk0 : (0 : Int) ≤ (k2 : Int) := by omega
                      have hbk1 : (k2 : Int) < ((rest.length + 1 + 1 : Nat) : Int) := by omega
                      clear hx5 how5 hfz
                      have mixed : Try.prog.follows .mixedOrders = true := by kernel_rfl
                      have hne21 : k1 ≠ k2 := by have h1 := HK1.out; have h2 := HK2.out; omega
                      have n00 : ¬ k1 = k2 := hne21
                      have n01 : ¬ k1 * 3 = k2 * 3 + 1 := by omega
                      have n02 : ¬ k1 * 3 = k2 * 3 + 2 := by omega
                      have n10 : ¬ k1 * 3 + 1 = k2 * 3 := by omega
                      have n12 : ¬ k1 * 3 + 1 = k2 * 3 + 2 := by omega
                      have n20 : ¬ k1 * 3 + 2 = k2 * 3 := by omega
                      have n21 : ¬ k1 * 3 + 2 = k2 * 3 + 1 := by omega
                      go_big_region_o
                      all_goals
                        have hsw := own_swap (x := p) (y := z) (i := k2) (j := k1) HOW5.out HL2.out HL1.out HP2.out HZ1.out (fun e => hne21 e.symm)
                        rw [HLEN.out] at hsw
                        have hset : ((m :: ((A' ++ [z]) ++ p :: B)).set k2 z).set k1 p = m :: (A' ++ p :: (z :: B)) := by rw [HK2.out, HK1.out]; exact set_swap m z p A' B
                        rw [hset] at hsw
                        have hxx := (((((HX5.out.setCell (p := ⟨g, k2 * 3, none⟩) HBG.out (.string (str z.nm))).setCell (p := ⟨g, k2 * 3 + 1, none⟩) HBG.out (.int .i64 z.dir)).setCell (p := ⟨g, k2 * 3 + 2, none⟩) HBG.out (.slice z.a z.bs.length z.c)).setCell (p := ⟨g, k1 * 3, none⟩) HBG.out (.string (str p.nm))).setCell (p := ⟨g, k1 * 3 + 1, none⟩) HBG.out (.int .i64 p.dir)).setCell (p := ⟨g, k1 * 3 + 2, none⟩) HBG.out (.slice p.a p.bs.length p.c)
                        generalize (((((W5.setCell ⟨g, k2 * 3, none⟩ (.string (str z.nm))).setCell ⟨g, k2 * 3 + 1, none⟩ (.int .i64 z.dir)).setCell ⟨g, k2 * 3 + 2, none⟩ (.slice z.a z.bs.length z.c)).setCell ⟨g, k1 * 3, none⟩ (.string (str p.nm))).setCell ⟨g, k1 * 3 + 1, none⟩ (.int .i64 p.dir)).setCell ⟨g, k1 * 3 + 2, none⟩ (.slice p.a p.bs.length p.c) = W6 at *
                        have HSW := Lib.hid (ownX_ext hsw ((Ext.refl _).drew))
                        have HXX := Lib.hid hxx.drew
                        clear hsw hxx hset p0 p1 p2 z0 z1 z2 f0 f1 f2 f3 f4 f5
                        go_wp2_with fail
                        go_roundw
                        case rel =>
                          refine ⟨A', z :: B, by rw [← HAB.out]; simp, ?_, HXX.out, HSW.out, fun b hb => ?_⟩
                          · rw [← HK1.out]
                          · rcases List.mem_cons.1 hb with rfl | hb
                            · exact hz
                            · exact HB.out b hb
                        case measure => have h1 := HK1.out; have h2 := HK2.out; simp [intOf]; omega
        · obtain rfl : k = ps.length := by omega
          go_wp2_with fail
          go_ret2
          refine ⟨_, m :: rest, rfl, ?_, HXI.out, HOWN.out, fun q hq => ?_⟩
          · rw [List.map_cons, ← ordL_eq (by have := HORD.out; rw [show ps.length = (ps.map PF.f).length by rw [List.length_map]] at this; exact this)]
          · rcases List.mem_cons.1 hq with rfl | hq
            · exact .inl rfl
            · exact .inr (HMEM.out q hq)
end L12
end Go.Proofs.Ytkmbahpjioopdaa
