/- Layer 8: the law ArchBack. -/
import Derived.Test.YtimpokibippenaaArchF
namespace Go.Proofs.Ytimpokibippenaa
open Go.RowKit V
namespace L08
theorem find_hit (p : Nat → Bool) : findFrom p 0 < 0 ∨ ∃ k : Nat, k < 6 ∧ findFrom p 0 = (k : Int) ∧ p k = true := by
  rw [findFrom_step (by omega)]; split; exact .inr ⟨0, by omega, rfl, by assumption⟩
  rw [findFrom_step (by omega)]; split; exact .inr ⟨1, by omega, rfl, by assumption⟩
  rw [findFrom_step (by omega)]; split; exact .inr ⟨2, by omega, rfl, by assumption⟩
  rw [findFrom_step (by omega)]; split; exact .inr ⟨3, by omega, rfl, by assumption⟩
  rw [findFrom_step (by omega)]; split; exact .inr ⟨4, by omega, rfl, by assumption⟩
  rw [findFrom_step (by omega)]; split; exact .inr ⟨5, by omega, rfl, by assumption⟩
  rw [findFrom_end]; exact .inl (by omega)
theorem back_of (i : Nat) (hi : i < 6) (m : Nat) (hm : bit m = (i == 2)) : ofA (toks.getD i 0) m = ((i : Int), true) := by
  unfold ofA
  rcases lt6 i hi with rfl | rfl | rfl | rfl | rfl | rfl
  · rw [show findFrom (tokB (toks.getD 0 0)) 0 = 0 by decide, hm]; rfl
  · rw [show findFrom (tokB (toks.getD 1 0)) 0 = 1 by decide, hm]; rfl
  · rw [show findFrom (tokB (toks.getD 2 0)) 0 = 0 by decide, hm]; rfl
  · rw [show findFrom (tokB (toks.getD 3 0)) 0 = 3 by decide, hm]; rfl
  · rw [show findFrom (tokB (toks.getD 4 0)) 0 = 4 by decide, hm]; rfl
  · rw [show findFrom (tokB (toks.getD 5 0)) 0 = 5 by decide, hm]; rfl
theorem back_parse (i : Nat) (hi : i < 6) : parseA (nmE i).toList = ((i : Int), 0) := by
  rw [nmE_list]
  rcases lt6 i hi with rfl | rfl | rfl | rfl | rfl | rfl <;> decide
theorem back_tok {token nr : Nat} (h : (ofA token nr).2 = true) : tokA (ofA token nr).1 = (token, 0) := by
  rcases find_hit (tokB token) with h0 | ⟨k, hk, h1, h2⟩
  · unfold ofA at h; rw [if_pos h0] at h; cases h
  · unfold tokB at h2
    have h3 := eq_of_beq h2
    unfold ofA
    rw [h1, if_neg (by omega)]
    split
    · rename_i h4
      have : k = 0 := by omega
      subst this
      rw [← h3]; rfl
    · unfold tokA
      rw [if_pos (by dsimp only; omega)]
      simp only [Int.toNat_natCast, h3]
set_option maxRecDepth 100000 in
set_option maxHeartbeats 2000000 in
theorem ArchBack_calls (token nr : Nat) (hn : nr < 4294967296) (w : World) :
    Calls Try.prog 6 #[.int .u32 (token : Int), .int .u32 (nr : Int)] w fun e w' => e = .returned (.bool true) ∧ Ext w w' := by
  obtain ⟨m1, e1, l1, b1⟩ := or_bit nr hn
  obtain ⟨m2, e2, l2, b2⟩ := andNot_bit nr hn
  have hO := fun w => Of_calls token nr hn w
  have hback := back_tok (token := token) (nr := nr)
  generalize ofA token nr = oa at *
  obtain ⟨ox, ok⟩ := oa
  dsimp only at hO hback
  have hT := fun w => Token_calls ox w
  have HhO := Lib.hid hO
  clear hO
  have Hb1 := Lib.hid b1
  clear b1
  have Hb2 := Lib.hid b2
  clear b2
  go_enter Try.func6, Try.ntmps6
  go_wp2_with (go_at_call 15; refine (All_calls _).mono ?_; rintro e w1 ⟨g, c, rfl, hx1, hc⟩; have Hc := Lib.hid hc; have HX1 := Lib.hid hx1; clear hc hx1)
  go_loopw [6] (fun i wr => ∃ k : Nat, k ≤ 6 ∧ i = .int .i64 k ∧ Ext w1 wr) (fun i _ => 6 - (intOf i).toNat)
  case atStart => exact ⟨0, by omega, rfl, Ext.refl _⟩
  case round =>
    obtain ⟨k, hk, rfl, hx⟩ := hrel
    have HX := Lib.hid hx
    by_cases hlt : k < 6
    · have ck := hx.cell (Hc.out k hlt)
      have hN := fun w => Name_calls (k : Int) w
      have hA : nameA (k : Int) = nmE k := by unfold nameA; rw [if_pos (by omega), Int.toNat_natCast]
      rw [hA] at hN
      have hP := fun w => Parse_calls (nmE k) w
      rw [back_parse k hlt] at hP
      have hTk := fun w => Token_calls (k : Int) w
      have hA2 : tokA (k : Int) = (toks.getD k 0, 0) := by unfold tokA; rw [if_pos (by omega), Int.toNat_natCast]
      rw [hA2] at hTk
      dsimp only at hTk hP
      have hbo := fun m (hm : bit m = (k == 2)) => back_of k hlt m hm
      have hOk := fun m (hl : m < 4294967296) w => Of_calls (toks.getD k 0) m hl w
      generalize nmE k = nm at *
      generalize toks.getD k 0 = tk at *
      clear hx hA hA2 hback hT
      have hbk : (k : Int) < 6 := by omega
      by_cases h2 : k = 2
      · have o1 := hOk m1 l1
        rw [hbo m1 (by rw [Hb1.out, h2]; rfl)] at o1
        dsimp only at o1
        have hq : ((k : Int) == 2) = true := by rw [h2]; rfl
        have HhN := Lib.hid hN
        clear hN
        have HhP := Lib.hid hP
        clear hP
        have HhTk := Lib.hid hTk
        clear hTk
        have Ho1 := Lib.hid o1
        clear o1
        have Hh2 := Lib.hid h2
        clear h2
        clear hOk hbo
        go_wp2_with fail
        refine (HhN.out _).mono ?_; rintro e w2 ⟨rfl, hx2⟩; replace ck := hx2.cell ck
        go_wp2_with fail
        refine (HhP.out _).mono ?_; rintro e w3 ⟨rfl, hx3⟩; replace ck := hx3.cell ck
        go_wp2_with fail
        refine (HhTk.out _).mono ?_; rintro e w4 ⟨rfl, hx4⟩; replace ck := hx4.cell ck
        go_wp2_with fail
        refine (Ho1.out _).mono ?_; rintro e w5 ⟨rfl, hx5⟩; replace ck := hx5.cell ck
        go_wp2_with (go_quiet (fail))
        go_roundw
        case rel => exact ⟨k + 1, by omega, by go_num, by repeat (first | exact (((HX.out.trans hx2).trans hx3).trans hx4).trans hx5 | apply Ext.drewN)⟩
        case measure => simp [intOf]; omega
      · have o1 := hOk m2 l2
        rw [hbo m2 (by rw [Hb2.out]; simp [h2])] at o1
        dsimp only at o1
        have hq : ((k : Int) == 2) = false := beq_eq_false_iff_ne.2 (by omega)
        have HhN := Lib.hid hN
        clear hN
        have HhP := Lib.hid hP
        clear hP
        have HhTk := Lib.hid hTk
        clear hTk
        have Ho1 := Lib.hid o1
        clear o1
        have Hh2 := Lib.hid h2
        clear h2
        clear hOk hbo
        go_wp2_with fail
        refine (HhN.out _).mono ?_; rintro e w2 ⟨rfl, hx2⟩; replace ck := hx2.cell ck
        go_wp2_with fail
        refine (HhP.out _).mono ?_; rintro e w3 ⟨rfl, hx3⟩; replace ck := hx3.cell ck
        go_wp2_with fail
        refine (HhTk.out _).mono ?_; rintro e w4 ⟨rfl, hx4⟩; replace ck := hx4.cell ck
        go_wp2_with fail
        refine (Ho1.out _).mono ?_; rintro e w5 ⟨rfl, hx5⟩; replace ck := hx5.cell ck
        go_wp2_with (go_quiet (fail))
        go_roundw
        case rel => exact ⟨k + 1, by omega, by go_num, by repeat (first | exact (((HX.out.trans hx2).trans hx3).trans hx4).trans hx5 | apply Ext.drewN)⟩
        case measure => simp [intOf]; omega
    · cases ok
      case false =>
        clear hback hx
        generalize tokA ox = tt at *
        obtain ⟨t1, t2⟩ := tt
        dsimp only at hT
        have HhT := Lib.hid hT
        clear hT
        go_wp2_with fail
        refine (HhO.out _).mono ?_; rintro e w2 ⟨rfl, hx2⟩
        go_wp2_with fail
        refine (HhT.out _).mono ?_; rintro e w3 ⟨rfl, hx3⟩
        go_wp2_with (go_at_call 12; refine (awake_calls _).mono ?_; rintro e w4 ⟨rfl, hx4⟩)
        go_ret
        exact ⟨rfl, (((HX1.out.trans HX.out).trans hx2).trans hx3).trans hx4⟩
      case true =>
        rw [hback rfl] at hT
        dsimp only at hT
        clear hback hx
        have HhT := Lib.hid hT
        clear hT
        go_wp2_with fail
        refine (HhO.out _).mono ?_; rintro e w2 ⟨rfl, hx2⟩
        go_wp2_with fail
        refine (HhT.out _).mono ?_; rintro e w3 ⟨rfl, hx3⟩
        go_wp2_with (go_at_call 12; refine (awake_calls _).mono ?_; rintro e w4 ⟨rfl, hx4⟩)
        go_ret
        exact ⟨by simp, (((HX1.out.trans HX.out).trans hx2).trans hx3).trans hx4⟩
end L08
end Go.Proofs.Ytimpokibippenaa
