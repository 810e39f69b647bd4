/- Layer 25: the walk of Guard, where it tells a row. -/
import Derived.Test.YtkmhfjnjfghnjaaWrI
import Derived.Test.YtkmhfjnjfghnjaaKept
import Derived.Deep.DeepCutAuto
namespace Go.Proofs.Ytkmhfjnjfghnjaa
open Go.RowKit V
namespace L25G
open L25 (Sy encY encY_len encY_one badI encI rdI_cell anyBadI_calls)
open L25W L25A
def GO (K A : Nat) (b : Nat) : Prop := b = K ∨ b = A
def mOf (ts : List Int) (k : Nat) : Bool := ts.contains (k : Int)
def RetG (m : Nat → Bool) (w : World) (e : Ending) (w' : World) : Prop := ∃ v, e = .returned (.tuple #[v, .int .i64 0]) ∧ Ext w w' ∧ Rd w' 4 encY v (guardL m)
theorem res_ne {b p x : Nat} (h : x ≠ b) : Tg.res b p (.lb x) = .lb x := if_neg h
theorem lastA_succ (m : Nat → Bool) (k : Nat) : lastA m (k + 1) = if (m k && ((k == 0 || k == 2) && !(m 0 && m 2))) = true then (k : Int) else lastA m k := rfl
set_option maxRecDepth 100000 in
set_option maxHeartbeats 4000000 in
theorem Guard_calls (v : Value) (ts : List Int) (hl : ts.length ≤ 1000) (hb : ts.any badI = false) (hne : 0 < ts.length) (w : World) (hv : Rd w 1 encI v ts) :
    Calls Try.prog 37 #[v] w (RetG (mOf ts) w) := by
  have hA := anyBadI_calls v ts (by omega) w hv
  rw [hb] at hA
  have HV := Lib.hid hv
  obtain ⟨a, c, rfl, hac, -⟩ := rdI_cell hv
  have hp : ((ts.length : Int) == 0) = false := by rw [beq_eq_false_iff_ne]; omega
  have hC := fun (x : Nat) W (hx : Ext w W) => ContainsI_calls (.slice a ts.length c) ts (x : Int) (by omega) W (hv.ext hx)
  have hC2 : ∀ (x : Nat) W (hx : Ext w W), Calls Try.prog 65 #[.slice a ts.length c, .int .i64 (x : Int)] W fun e w' => e = .returned (.bool (mOf ts x)) ∧ Ext W w' := hC
  clear hv hC
  generalize mOf ts = m at *
  have HhA := Lib.hid hA
  clear hA
  have Hhb := Lib.hid hb
  clear hb
  have HhC2 := Lib.hid hC2
  clear hC2
  go_enter Try.func37, Try.ntmps37
  go_wp2_with fail
  refine HhA.out.mono ?_
  rintro e w1 ⟨rfl, hx1⟩
  go_wp2_with fail
  have hsw := (SW.start w1).label (.int .i64 0)
  have hsz : (w1.alloc (.cells #[.slice none 0 0, .slice none 0 0] 95)).heap.size = w1.heap.size + 1 := by simp
  rw [hsz] at hsw
  have hsw2 := hsw.1.label (.int .i64 0)
  have hsz2 : ((w1.alloc (.cells #[.slice none 0 0, .slice none 0 0] 95)).alloc (.cells #[.int .i64 0] 98)).heap.size = w1.heap.size + 2 := by simp
  rw [hsz2] at hsw2
  have hs0 := hsw2.1.mono (O' := GO (w1.heap.size + 1) (w1.heap.size + 2)) (fun b => by unfold GO; simp)
  obtain ⟨W0, hW0⟩ : ∃ W0, W0 = ((w1.alloc (.cells #[.slice none 0 0, .slice none 0 0] 95)).alloc (.cells #[.int .i64 0] 98)).alloc (.cells #[.int .i64 0] 98) := ⟨_, rfl⟩
  rw [← hW0] at hs0 ⊢
  clear hW0 hsw hsw2 hsz hsz2
  have HS0 := Lib.hid hs0
  have HX1 := Lib.hid hx1
  clear hs0 hx1
  refine (SW.load_calls HS0.out (by simp) 4).mono ?_
  rintro e w2 ⟨rfl, hs2, -⟩
  have HS2 := Lib.hid hs2
  have HX2 := Lib.hid (HX1.out.trans hs2.ext0)
  clear hs2
  obtain ⟨bo, hbo⟩ : ∃ bo, bo = (m 0 && m 2) := ⟨_, rfl⟩
  have Hhbo := Lib.hid hbo
  clear hbo
  go_upto_region 5 with fail
  go_cut [7] (fun x wx => x = .bool bo ∧ Ext w2 wx)
  case first =>
    go_wp2_with fail
    refine (HhC2.out 0 w2 HX2.out).mono ?_
    rintro e w3 ⟨rfl, hx3⟩
    have HX3 := Lib.hid hx3
    clear hx3
    cases hm0 : m 0
    case false =>
      have Hhm0 := Lib.hid hm0
      clear hm0
      go_wp2_with fail
      go_meet
      exact ⟨by rw [Hhbo.out, Hhm0.out]; rfl, HX3.out⟩
    case true =>
      have Hhm0 := Lib.hid hm0
      clear hm0
      go_wp2_with fail
      refine (HhC2.out 2 w3 (HX2.out.trans HX3.out)).mono ?_
      rintro e w4 ⟨rfl, hx4⟩
      go_wp2_with fail
      go_meet
      exact ⟨by rw [Hhbo.out, Hhm0.out]; rfl, HX3.out.trans hx4⟩
  case rest =>
    obtain ⟨rfl, hx4⟩ := hcut
    have HS4 := Lib.hid (HS2.out.ext hx4)
    have HX4 := Lib.hid (HX2.out.trans hx4)
    clear hx4
    go_wp2_with fail
    refine (All_calls _).mono ?_
    rintro e w5 ⟨g, cap, rfl, hx5, ⟨cur, hg5⟩, hcur⟩
    have HS5 := Lib.hid (HS4.out.ext hx5)
    have HX5 := Lib.hid (HX4.out.trans hx5)
    have HG5 := Lib.hid hg5
    have HC5 := Lib.hid hcur
    clear hx5 hg5 hcur
    go_wp2_with fail
    go_loopw [40, 8] (fun i la wr => ∃ k : Nat, k ≤ 6 ∧ i = .int .i64 k ∧ la = .int .i64 (lastA m k) ∧ SW w1 w1.heap.size (GO (w1.heap.size + 1) (w1.heap.size + 2)) (hS (.lb (w1.heap.size + 2)) (chain m k)) wr ∧ WT w5 wr) (fun i _ _ => 6 - (intOf i).toNat)
    case atStart => exact ⟨0, by omega, rfl, rfl, HS5.out, WT.refl _⟩
    case round =>
      obtain ⟨k, hk, rfl, rfl, hsr, htr⟩ := hrel
      have hxr := HX1.out.trans hsr.ext0
      have hlen := chain_len m k
      have HSR := Lib.hid hsr
      have HTR := Lib.hid htr
      have HXR := Lib.hid hxr
      by_cases hlt : k < 6
      · have c0 : wr.cell? ⟨g, k, none⟩ = some (.int .i64 (k : Int)) := by
          have h1 := htr.kept g cur _ _ HG5.out (by decide) (by decide) (by decide) (by decide)
          have h2 := HC5.out k hlt
          unfold World.cell? at h2 ⊢
          dsimp only at h2 ⊢
          rw [h1]
          rw [HG5.out] at h2
          exact h2
        have hla := lastA_succ m k
        have hch := chain_succ m k
        clear hsr htr hxr
        cases hmk : m k
        case false =>
          have e1 : lastA m (k + 1) = lastA m k := by rw [hla, hmk]; rfl
          have e2 : chain m (k + 1) = chain m k := by
            have : inCh m k = false := by unfold inCh; rw [hmk]; rfl
            rw [hch, this]; simp
          have Hhla := Lib.hid hla
          clear hla
          have Hhch := Lib.hid hch
          clear hch
          have He1 := Lib.hid e1
          clear e1
          have He2 := Lib.hid e2
          clear e2
          have Hhmk := Lib.hid hmk
          clear hmk
          go_wp2_with fail
          refine (HhC2.out k wr HXR.out).mono ?_
          rintro e w6 ⟨rfl, hx6⟩
          rw [Hhmk.out]
          have HX6 := Lib.hid hx6
          clear hx6
          go_wp2_with fail
          go_roundw
          case rel => exact ⟨k + 1, by omega, by go_num, by rw [He1.out], by rw [He2.out]; exact HSR.out.ext HX6.out, HTR.out.trans (WT.of_ext HX6.out)⟩
          case measure => simp [intOf]; omega
        case true =>
          have hT := fun W => Token_calls (k : Int) W
          have htk : tokA (k : Int) = (tokN k, 0) := by unfold tokA tokN; rw [if_pos (by omega), Int.toNat_natCast]
          rw [htk] at hT
          dsimp only at hT
          have hcase : (inCh m k = true ∧ lastA m (k + 1) = lastA m k ∧ ((k ≠ 0 ∧ k ≠ 2) ∨ (k = 0 ∧ bo = true))) ∨ (inCh m k = false ∧ ((k = 2 ∧ bo = true ∧ lastA m (k + 1) = lastA m k) ∨ ((k = 0 ∨ k = 2) ∧ bo = false ∧ lastA m (k + 1) = (k : Int)))) := by
            rw [hla]
            unfold inCh
            rw [← Hhbo.out, hmk]
            by_cases q0 : k = 0
            · subst q0; cases bo <;> simp
            · by_cases q2 : k = 2
              · subst q2; cases bo <;> simp
              · refine .inl ⟨by simp [q0, q2], by simp [q0, q2], .inl ⟨q0, q2⟩⟩
          generalize tokN k = tk at *
          have Hhla := Lib.hid hla
          clear hla
          have Hhmk := Lib.hid hmk
          clear hmk
          have HhT := Lib.hid hT
          clear hT
          have Hhtk := Lib.hid htk
          clear htk
          rcases hcase with ⟨hin, e1, hc⟩ | ⟨hin, hc⟩
          · have e2 : chain m (k + 1) = chain m k ++ [tk] := by rw [hch, hin]; rfl
            have Hhch := Lib.hid hch
            clear hch
            have He1 := Lib.hid e1
            clear e1
            have He2 := Lib.hid e2
            clear e2
            have Hhin := Lib.hid hin
            clear hin
            have hc2 : (((k : Int) != 0) = true ∧ ((k : Int) != 2) = true) ∨ (((k : Int) != 0) = false ∧ ((k : Int) == 0) = true ∧ bo = true) := by
              rcases hc with ⟨q0, q2⟩ | ⟨rfl, q⟩
              · exact .inl ⟨by simpa using q0, by simp; omega⟩
              · exact .inr ⟨rfl, rfl, q⟩
            have Hhc := Lib.hid hc
            clear hc
            rcases hc2 with ⟨q0, q2⟩ | ⟨q0, q1, rfl⟩
            all_goals
              go_wp2_with fail
              refine (HhC2.out k wr HXR.out).mono ?_
              rintro e w6 ⟨rfl, hx6⟩
              rw [Hhmk.out]
              have HX6 := Lib.hid hx6
              clear hx6
              go_wp2_with fail
              refine (HhT.out w6).mono ?_
              rintro e w7 ⟨rfl, hx7⟩
              have HX7 := Lib.hid (HX6.out.trans hx7)
              have HL7 := Lib.hid ((HSR.out.ext (HX6.out.trans hx7)).label (.int .i64 0))
              clear hx7
              go_wp2_with fail
              refine (SW.jump_calls HL7.out.1 (by rw [hS_len]; omega) 21 tk (w1.heap.size + 2) w7.heap.size (.inl (.inr rfl)) (.inr rfl)).mono ?_
              rintro e w8 ⟨rfl, hs8, ht8⟩
              have HS8 := Lib.hid hs8
              have HT8 := Lib.hid ((HTR.out.trans (WT.of_ext HX7.out)).trans (WT.after _ ht8))
              clear hs8 ht8
              go_wp2_with fail
              refine (SW.here_calls HS8.out (b := w7.heap.size) (.inr rfl)).mono ?_
              rintro e w9 ⟨rfl, hs9, ht9⟩
              have hs10 : SW w1 w1.heap.size (GO (w1.heap.size + 1) (w1.heap.size + 2)) (hS (.lb (w1.heap.size + 2)) (chain m k ++ [tk])) w9 := by
                have hn := HL7.out.2
                rw [hS_app (.lb (w1.heap.size + 2)) (chain m k) tk w7.heap.size (res_ne (fun e => hn (.inr e.symm)))] at hs9
                exact hs9.mono (fun x => ⟨fun h => by rcases h.1 with h1 | h1; exact h1; exact absurd h1 h.2, fun h => ⟨.inl h, fun e => hn (e ▸ h)⟩⟩)
              have HS9 := Lib.hid hs10
              have HT9 := Lib.hid (HT8.out.trans ht9)
              clear hs9 ht9 hs10
              go_wp2_with fail
              go_roundw
              case rel => exact ⟨k + 1, by omega, by go_num, by rw [He1.out], by rw [He2.out]; exact HS9.out, HT9.out⟩
              case measure => simp [intOf]; omega
          · have e2 : chain m (k + 1) = chain m k := by rw [hch, hin]; simp
            have Hhch := Lib.hid hch
            clear hch
            have He2 := Lib.hid e2
            clear e2
            have Hhin := Lib.hid hin
            clear hin
            have hc2 : (((k : Int) != 0) = true ∧ ((k : Int) != 2) = false ∧ ((k : Int) == 0) = false ∧ bo = true ∧ lastA m (k + 1) = lastA m k) ∨ (((k : Int) != 0) = true ∧ ((k : Int) != 2) = false ∧ bo = false ∧ lastA m (k + 1) = (k : Int)) ∨ (((k : Int) != 0) = false ∧ bo = false ∧ lastA m (k + 1) = (k : Int)) := by
              rcases hc with ⟨rfl, q, q1⟩ | ⟨rfl | rfl, q, q1⟩
              · exact .inl ⟨rfl, rfl, rfl, q, q1⟩
              · exact .inr (.inr ⟨rfl, q, q1⟩)
              · exact .inr (.inl ⟨rfl, rfl, q, q1⟩)
            have Hhc := Lib.hid hc
            clear hc
            rcases hc2 with ⟨q0, q2, q3, rfl, e1⟩ | ⟨q0, q2, rfl, e1⟩ | ⟨q0, rfl, e1⟩
            all_goals
              have HE1 := Lib.hid e1
              clear e1
              go_wp2_with fail
              refine (HhC2.out k wr HXR.out).mono ?_
              rintro e w6 ⟨rfl, hx6⟩
              rw [Hhmk.out]
              have HX6 := Lib.hid hx6
              clear hx6
              go_wp2_with fail
              refine (HhT.out w6).mono ?_
              rintro e w7 ⟨rfl, hx7⟩
              have HX7 := Lib.hid (HX6.out.trans hx7)
              clear hx7
              go_wp2_with fail
              go_roundw
              case rel => exact ⟨k + 1, by omega, by go_num, by rw [HE1.out], by rw [He2.out]; exact HSR.out.ext (HX7.out.alloc _), HTR.out.trans (WT.of_ext (HX7.out.alloc _))⟩
              case measure => simp [intOf]; omega
      · obtain rfl : k = 6 := by omega
        clear hsr htr hxr
        have hgl : guardL m = guardC (chain m 6) (lastA m 6) := rfl
        rcases lastA_cases m with hla | hla | hla
        · rw [hla] at hgl ⊢
          have Hhgl := Lib.hid hgl
          clear hgl
          have Hhla := Lib.hid hla
          clear hla
          go_wp2_with fail
          refine (SW.here_calls HSR.out (b := w1.heap.size + 1) (.inl rfl)).mono ?_
          rintro e w6 ⟨rfl, hs6, -⟩
          have HS6 := Lib.hid hs6
          clear hs6
          go_wp2_with fail
          refine (SW.ret_calls HS6.out (by simp [hS_len]; omega) 2147483648).mono ?_
          rintro e w7 ⟨rfl, hs7, -⟩
          have HS7 := Lib.hid hs7
          clear hs7
          go_wp2_with fail
          refine (SW.here_calls HS7.out (b := w1.heap.size + 2) ⟨.inr rfl, by omega⟩).mono ?_
          rintro e w8 ⟨rfl, hs8, -⟩
          have HS8 := Lib.hid hs8
          clear hs8
          go_wp2_with fail
          refine (SW.ret_calls HS8.out (by simp [hS_len]; omega) 2147418112).mono ?_
          rintro e w9 ⟨rfl, hs9, -⟩
          have HS9 := Lib.hid hs9
          clear hs9
          go_wp2_with fail
          refine (SW.done_calls HS9.out (by simp [hS_len]; omega) (fun b hb => by rcases hb.1.1 with h | h; exact hb.1.2 h; exact hb.2 h)).mono ?_
          rintro e w10 ⟨v, rfl, hx10, hrd⟩
          rw [row_none (chain m 6) (w1.heap.size + 1) (w1.heap.size + 2) (by omega) (-1) (by decide), ← Hhgl.out] at hrd
          have HF := Lib.hid (And.intro (HX1.out.trans hx10) hrd)
          clear hx10 hrd
          go_wp2_with fail
          go_ret2
          exact ⟨v, rfl, HF.out⟩
        · have hT := fun W => Token_calls 0 W
          rw [show tokA 0 = (tokN 0, 0) from rfl] at hT
          dsimp only at hT
          have htk : tokN 0 = tokN (Int.toNat 0) := rfl
          generalize tokN 0 = tk at hT htk
          rw [hla] at hgl ⊢
          have Hhgl := Lib.hid hgl
          clear hgl
          have Hhla := Lib.hid hla
          clear hla
          have HhT := Lib.hid hT
          clear hT
          have Hhtk := Lib.hid htk
          clear htk
          go_wp2_with fail
          have HL7 := Lib.hid (HSR.out.label (.int .i64 0))
          refine (HhT.out _).mono ?_
          rintro e w7 ⟨rfl, hx7⟩
          have HS7 := Lib.hid (HL7.out.1.ext hx7)
          clear hx7
          go_wp2_with fail
          refine (SW.jump_calls HS7.out (by rw [hS_len]; omega) 21 tk wr.heap.size (w1.heap.size + 1) (.inr rfl) (.inl (.inl rfl))).mono ?_
          rintro e w8 ⟨rfl, hs8, -⟩
          have HS8 := Lib.hid hs8
          clear hs8
          go_wp2_with fail
          refine (SW.here_calls HS8.out (b := wr.heap.size) (.inr rfl)).mono ?_
          rintro e w9 ⟨rfl, hs9, -⟩
          obtain ⟨E1, hE1⟩ : ∃ E1, E1 = (hS (.lb (w1.heap.size + 2)) (chain m 6) ++ [jK tk wr.heap.size (w1.heap.size + 1)]).map (SS.mp (Tg.res wr.heap.size (hS (.lb (w1.heap.size + 2)) (chain m 6) ++ [jK tk wr.heap.size (w1.heap.size + 1)]).length)) := ⟨_, rfl⟩
          have hl1 : E1.length ≤ 10 := by rw [hE1]; simp [hS_len]; omega
          have hs10 : SW w1 w1.heap.size (GO (w1.heap.size + 1) (w1.heap.size + 2)) E1 w9 := by
            have hn := HL7.out.2
            rw [hE1]
            exact hs9.mono (fun x => ⟨fun h => by rcases h.1 with h1 | h1; exact h1; exact absurd h1 h.2, fun h => ⟨.inl h, fun e => hn (e ▸ h)⟩⟩)
          have HS9 := Lib.hid hs10
          have HE1 := Lib.hid hE1
          clear hs9 hs10 hE1
          go_wp2_with fail
          refine (SW.load_calls HS9.out (by omega) 0).mono ?_
          rintro e w10 ⟨rfl, hs10, -⟩
          have HS10 := Lib.hid hs10
          clear hs10
          go_wp2_with fail
          refine (SW.jump_calls HS10.out (by simp; omega) 69 1073741824 (w1.heap.size + 1) (w1.heap.size + 2) (.inl rfl) (.inr rfl)).mono ?_
          rintro e w11 ⟨rfl, hs11, -⟩
          have HS11 := Lib.hid hs11
          clear hs11
          go_wp2_with fail
          refine (SW.here_calls HS11.out (b := w1.heap.size + 1) (.inl rfl)).mono ?_
          rintro e w12 ⟨rfl, hs12, -⟩
          have HS12 := Lib.hid hs12
          clear hs12
          go_wp2_with fail
          refine (SW.ret_calls HS12.out (by simp; omega) 2147483648).mono ?_
          rintro e w13 ⟨rfl, hs13, -⟩
          have HS13 := Lib.hid hs13
          clear hs13
          go_wp2_with fail
          refine (SW.here_calls HS13.out (b := w1.heap.size + 2) ⟨.inr rfl, by omega⟩).mono ?_
          rintro e w14 ⟨rfl, hs14, -⟩
          have HS14 := Lib.hid hs14
          clear hs14
          go_wp2_with fail
          refine (SW.ret_calls HS14.out (by simp; omega) 2147418112).mono ?_
          rintro e w15 ⟨rfl, hs15, -⟩
          have HS15 := Lib.hid hs15
          clear hs15
          go_wp2_with fail
          refine (SW.done_calls HS15.out (by simp; omega) (fun b hb => by rcases hb.1.1 with h | h; exact hb.1.2 h; exact hb.2 h)).mono ?_
          rintro e w16 ⟨v, rfl, hx16, hrd⟩
          have hne := HL7.out.2
          rw [row_some (chain m 6) (w1.heap.size + 1) (w1.heap.size + 2) wr.heap.size tk (by omega) (fun e => hne (.inr e.symm)) (fun e => hne (.inl e.symm)) 0 (by decide) Hhtk.out (iJ 69 1073741824 (.lb (w1.heap.size + 1)) (.lb (w1.heap.size + 2))) (if_neg (by decide)).symm E1 _ _ HE1.out rfl rfl, ← Hhgl.out] at hrd
          have HF := Lib.hid (And.intro (HX1.out.trans hx16) hrd)
          clear hx16 hrd hne
          go_wp2_with fail
          go_ret2
          exact ⟨v, rfl, HF.out⟩
        · have hT := fun W => Token_calls 2 W
          rw [show tokA 2 = (tokN 2, 0) from rfl] at hT
          dsimp only at hT
          have htk : tokN 2 = tokN (Int.toNat 2) := rfl
          generalize tokN 2 = tk at hT htk
          rw [hla] at hgl ⊢
          have Hhgl := Lib.hid hgl
          clear hgl
          have Hhla := Lib.hid hla
          clear hla
          have HhT := Lib.hid hT
          clear hT
          have Hhtk := Lib.hid htk
          clear htk
          go_wp2_with fail
          have HL7 := Lib.hid (HSR.out.label (.int .i64 0))
          refine (HhT.out _).mono ?_
          rintro e w7 ⟨rfl, hx7⟩
          have HS7 := Lib.hid (HL7.out.1.ext hx7)
          clear hx7
          go_wp2_with fail
          refine (SW.jump_calls HS7.out (by rw [hS_len]; omega) 21 tk wr.heap.size (w1.heap.size + 1) (.inr rfl) (.inl (.inl rfl))).mono ?_
          rintro e w8 ⟨rfl, hs8, -⟩
          have HS8 := Lib.hid hs8
          clear hs8
          go_wp2_with fail
          refine (SW.here_calls HS8.out (b := wr.heap.size) (.inr rfl)).mono ?_
          rintro e w9 ⟨rfl, hs9, -⟩
          obtain ⟨E1, hE1⟩ : ∃ E1, E1 = (hS (.lb (w1.heap.size + 2)) (chain m 6) ++ [jK tk wr.heap.size (w1.heap.size + 1)]).map (SS.mp (Tg.res wr.heap.size (hS (.lb (w1.heap.size + 2)) (chain m 6) ++ [jK tk wr.heap.size (w1.heap.size + 1)]).length)) := ⟨_, rfl⟩
          have hl1 : E1.length ≤ 10 := by rw [hE1]; simp [hS_len]; omega
          have hs10 : SW w1 w1.heap.size (GO (w1.heap.size + 1) (w1.heap.size + 2)) E1 w9 := by
            have hn := HL7.out.2
            rw [hE1]
            exact hs9.mono (fun x => ⟨fun h => by rcases h.1 with h1 | h1; exact h1; exact absurd h1 h.2, fun h => ⟨.inl h, fun e => hn (e ▸ h)⟩⟩)
          have HS9 := Lib.hid hs10
          have HE1 := Lib.hid hE1
          clear hs9 hs10 hE1
          go_wp2_with fail
          refine (SW.load_calls HS9.out (by omega) 0).mono ?_
          rintro e w10 ⟨rfl, hs10, -⟩
          have HS10 := Lib.hid hs10
          clear hs10
          go_wp2_with fail
          refine (SW.jump_calls HS10.out (by simp; omega) 69 1073741824 (w1.heap.size + 2) (w1.heap.size + 1) (.inr rfl) (.inl rfl)).mono ?_
          rintro e w11 ⟨rfl, hs11, -⟩
          have HS11 := Lib.hid hs11
          clear hs11
          go_wp2_with fail
          refine (SW.here_calls HS11.out (b := w1.heap.size + 1) (.inl rfl)).mono ?_
          rintro e w12 ⟨rfl, hs12, -⟩
          have HS12 := Lib.hid hs12
          clear hs12
          go_wp2_with fail
          refine (SW.ret_calls HS12.out (by simp; omega) 2147483648).mono ?_
          rintro e w13 ⟨rfl, hs13, -⟩
          have HS13 := Lib.hid hs13
          clear hs13
          go_wp2_with fail
          refine (SW.here_calls HS13.out (b := w1.heap.size + 2) ⟨.inr rfl, by omega⟩).mono ?_
          rintro e w14 ⟨rfl, hs14, -⟩
          have HS14 := Lib.hid hs14
          clear hs14
          go_wp2_with fail
          refine (SW.ret_calls HS14.out (by simp; omega) 2147418112).mono ?_
          rintro e w15 ⟨rfl, hs15, -⟩
          have HS15 := Lib.hid hs15
          clear hs15
          go_wp2_with fail
          refine (SW.done_calls HS15.out (by simp; omega) (fun b hb => by rcases hb.1.1 with h | h; exact hb.1.2 h; exact hb.2 h)).mono ?_
          rintro e w16 ⟨v, rfl, hx16, hrd⟩
          have hne := HL7.out.2
          rw [row_some (chain m 6) (w1.heap.size + 1) (w1.heap.size + 2) wr.heap.size tk (by omega) (fun e => hne (.inr e.symm)) (fun e => hne (.inl e.symm)) 2 (by decide) Hhtk.out (iJ 69 1073741824 (.lb (w1.heap.size + 2)) (.lb (w1.heap.size + 1))) (if_pos rfl).symm E1 _ _ HE1.out rfl rfl, ← Hhgl.out] at hrd
          have HF := Lib.hid (And.intro (HX1.out.trans hx16) hrd)
          clear hx16 hrd hne
          go_wp2_with fail
          go_ret2
          exact ⟨v, rfl, HF.out⟩
end L25G
end Go.Proofs.Ytkmhfjnjfghnjaa
