/- Layer 7: the walks of insn.Same and of the law AsmBack. -/
import Derived.Test.YtbpmokffhmiacaaDoorAtK
import Derived.Test.YtbpmokffhmiacaaDoorAsmW
namespace Go.Proofs.YtbpmokffhmiacaaDoor
open Go.RowKit Go.Shelf Go.Sort V
attribute [local go_sem] Oper.semAt_some
namespace L07
set_option maxRecDepth 100000 in
set_option maxHeartbeats 2000000 in
theorem EqualI_calls (u v : Value) (xs : List In) (hl : xs.length ≤ 1000000) (w : World) (hu : Rd w 4 encN u xs) (hv : Rd w 4 encN v xs) :
    Calls Tryd.prog 41 #[u, v] w fun e w' => e = .returned (.bool true) ∧ Ext w w' := by
  obtain ⟨a, c, rfl, hac, hca⟩ := rdI_cell hu
  obtain ⟨b, d, rfl, hbd, hcb⟩ := rdI_cell hv
  clear hu hv
  go_enter Tryd.func41, Tryd.ntmps41
  go_wp2
  go_loopw [13] (fun i wr => ∃ k : Nat, k ≤ xs.length ∧ i = .int .i64 k ∧ Ext w wr) (fun i _ => xs.length - (intOf i).toNat)
  case atStart => exact ⟨0, by omega, rfl, Ext.refl _⟩
  case round =>
    obtain ⟨k, hk, rfl, hx⟩ := hrel
    have HX := Lib.hid hx
    by_cases hlt : k < xs.length
    · obtain ⟨b1, o1, rfl, h1, h2, h3, h4⟩ := hca k hlt
      obtain ⟨b2, o2, rfl, g1, g2, g3, g4⟩ := hcb k hlt
      replace h1 := hx.cell h1; replace h2 := hx.cell h2; replace h3 := hx.cell h3; replace h4 := hx.cell h4
      replace g1 := hx.cell g1; replace g2 := hx.cell g2; replace g3 := hx.cell g3; replace g4 := hx.cell g4
      clear hca hcb hx
      generalize xs[k] = s at *
      have hq := run_neqI s s
      rw [sameI_refl] at hq
      have hg := hgI
      go_wp2_with (go_quiet (fail))
      go_roundw
      case rel => exact ⟨k + 1, by omega, by go_num, (by repeat (first | exact HX.out | apply Ext.drewN | apply Ext.alloc | apply Ext.drew))⟩
      case measure => simp [intOf]; omega
    · clear hca hcb hx
      go_wp2
      go_ret
      exact ⟨rfl, HX.out⟩
set_option maxRecDepth 100000 in
theorem SameI_calls (u v : Value) (xs : List In) (hl : xs.length ≤ 1000000) (w : World) (hu : Rd w 4 encN u xs) (hv : Rd w 4 encN v xs) :
    Calls Tryd.prog 19 #[u, v] w fun e w' => e = .returned (.bool true) ∧ Ext w w' := by
  have hE := EqualI_calls u v xs hl w hu hv
  clear hu hv
  have HhE := Lib.hid hE
  clear hE
  go_enter Tryd.func19, Tryd.ntmps19
  go_wp2_with (go_at_call 41; refine HhE.out.mono ?_; rintro e w1 ⟨rfl, hx1⟩)
  go_ret
  exact ⟨rfl, hx1⟩
/-- the second half: a text that is read has that text -/
theorem ParseText (s : List UInt8) (hs : s.length ≤ 100000) (w : World) (ht : Tb w) :
    Calls Tryd.prog 18 #[.string (str s)] w fun e w' => Ext w w' ∧ ((∃ v, e = .returned (.tuple #[v, .int .i64 0]) ∧ ∀ W, Ext w' W → Calls Tryd.prog 11 #[v] W fun e W' => Ext W W' ∧ e = .returned (.tuple #[.string (str s), .int .i64 0])) ∨ e = .returned (.tuple #[.slice none 0 0, .int .i64 70])) := by
  refine (Parse_calls s hs w ht).mono fun e w' ⟨hx, h⟩ => ⟨hx, ?_⟩
  rcases h with ⟨p, v, h1, rfl, h2, h3⟩ | ⟨-, rfl⟩
  · obtain ⟨hc, hts⟩ := parse_sound h1
    refine .inl ⟨v, rfl, fun W hW => ?_⟩
    have hl : p.length ≤ 1000000 := by
      rw [canL_eq] at hc; simp only [Bool.and_eq_true, decide_eq_true_eq] at hc; omega
    have h4 := Text_calls p v h3 hl W ((ht.ext (hx.trans hW)).tab) (h2.ext hW)
    rw [if_pos hc, hts] at h4
    exact h4
  · exact .inr rfl
set_option maxRecDepth 100000 in
set_option maxHeartbeats 8000000 in
theorem AsmBack_calls (P : List In) (v : Value) (hP : ∀ i ∈ P, OkN i) (hl : P.length ≤ maxLen) (s : ByteArray) (hs : s.size ≤ maxLen) (W : World) (ht : Tb W) (hv : Rd W 4 encN v P) :
    Calls Tryd.prog 7 #[v, .string s] W fun e w' => e = .returned (.bool true) ∧ Ext W w' := by
  have hvR := hv
  obtain ⟨a, c, rfl, -, -⟩ := rdI_cell hv
  unfold maxLen at hl hs
  have hA := awake_calls W ht
  have HhA := Lib.hid hA
  clear hA
  by_cases hlong : 200 < P.length
  · have d1 : decide (200 < P.length) = true := decide_eq_true hlong
    have d2 : decide ((200 : Int) < (P.length : Int)) = true := decide_eq_true (by omega)
    clear hv hvR ht hP
    go_enter Tryd.func7, Tryd.ntmps7
    go_wp2_with (go_at_call 16; refine HhA.out.mono ?_; rintro e w1 ⟨rfl, hx1⟩; have HX1 := Lib.hid hx1; clear hx1)
    go_ret
    exact ⟨rfl, HX1.out⟩
  have d1 : decide (200 < P.length) = false := decide_eq_false hlong
  have d2 : decide ((200 : Int) < (P.length : Int)) = false := decide_eq_false (by omega)
  by_cases hbig : 3000 < s.size
  · have d3 : decide (3000 < s.size) = true := decide_eq_true hbig
    have d4 : decide ((3000 : Int) < (s.size : Int)) = true := decide_eq_true (by omega)
    clear hv hvR ht hP
    go_enter Tryd.func7, Tryd.ntmps7
    go_wp2_with (go_at_call 16; refine HhA.out.mono ?_; rintro e w1 ⟨rfl, hx1⟩; have HX1 := Lib.hid hx1; clear hx1)
    go_ret
    exact ⟨rfl, HX1.out⟩
  have d3 : decide (3000 < s.size) = false := decide_eq_false hbig
  have d4 : decide ((3000 : Int) < (s.size : Int)) = false := decide_eq_false (by omega)
  have hPs := fun w (h : Tb w) => ParseText (bytes s) (by rw [bytes_len]; omega) w h
  rw [str_bytes] at hPs
  have hTx := fun w (hx : Ext W w) => Text_calls P _ hP (by omega) w (ht.ext hx).tab (hvR.ext hx)
  have HPs := Lib.hid hPs
  have HT := Lib.hid ht
  cases hc : canL P
  · simp only [hc] at hTx
    have HhTx := Lib.hid hTx
    clear hTx
    clear hv hvR ht hP hPs hc
    go_enter Tryd.func7, Tryd.ntmps7
    go_upto_region 10 with (first
      | (go_at_call 16; refine HhA.out.mono ?_; rintro e w1 ⟨rfl, hx1⟩; have HX1 := Lib.hid hx1; clear hx1)
      | (go_at_call 11; refine (HhTx.out _ HX1.out).mono ?_; rintro e w2 ⟨hx2, rfl⟩; have HX2 := Lib.hid (HX1.out.trans hx2); clear hx2))
    go_wp2_with fail
    refine (HPs.out _ (HT.out.ext HX2.out)).mono ?_
    rintro e w5 ⟨hx5, ⟨q, rfl, hq⟩ | rfl⟩
    · have HX5 := Lib.hid (HX2.out.trans hx5)
      have Hhq := Lib.hid hq
      clear hq
      clear hx5
      go_wp2_with (go_at_call 11; refine (Hhq.out _ (Ext.refl _)).mono ?_; rintro e w6 ⟨hx6, rfl⟩; have HX6 := Lib.hid (HX5.out.trans hx6); clear hx6)
      go_ret
      exact ⟨by simp, HX6.out⟩
    · have HX5 := Lib.hid (HX2.out.trans hx5)
      clear hx5
      go_wp2_with fail
      go_ret
      exact ⟨rfl, HX5.out⟩
  · simp only [hc] at hTx
    have hCn := fun w (hx : Ext W w) => Can_calls P _ hP (by omega) w (hvR.ext hx)
    simp only [hc] at hCn
    have hPa := fun w (h : Tb w) => Parse_calls (textL P) (Nat.le_trans (text_len hP hc P.length (Nat.le_refl _)) (by omega)) w h
    rw [parse_back hP hc] at hPa
    have hSm := fun w u (hx : Ext W w) (h : Rd w 4 encN u P) => SameI_calls _ u P (by omega) w (hvR.ext hx) h
    generalize str (textL P) = sT at *
    have HhTx := Lib.hid hTx
    clear hTx
    have HhCn := Lib.hid hCn
    clear hCn
    have HhPa := Lib.hid hPa
    clear hPa
    have HhSm := Lib.hid hSm
    clear hSm
    clear hv hvR ht hP hPs hc
    go_enter Tryd.func7, Tryd.ntmps7
    go_upto_region 7 with (first
      | (go_at_call 16; refine HhA.out.mono ?_; rintro e w1 ⟨rfl, hx1⟩; have HX1 := Lib.hid hx1; clear hx1)
      | (go_at_call 11; refine (HhTx.out _ HX1.out).mono ?_; rintro e w2 ⟨hx2, rfl⟩; have HX2 := Lib.hid (HX1.out.trans hx2); clear hx2))
    go_wp2_with fail
    refine (HhPa.out _ (HT.out.ext HX2.out)).mono ?_
    rintro e w3 ⟨hx3, ⟨q, u, hqe, rfl, hr3, -⟩ | ⟨hqe, -⟩⟩
    rotate_left
    · cases hqe
    cases hqe
    obtain ⟨au, cu, hau, -⟩ := rdI_cell hr3
    subst hau
    have HX3 := Lib.hid (HX2.out.trans hx3)
    have HR3 := Lib.hid hr3
    clear hx3 hr3
    go_upto_region 10 with (first
      | (go_at_call 19; refine (HhSm.out _ _ HX3.out HR3.out).mono ?_; rintro e w4 ⟨rfl, hx4⟩; have HX4 := Lib.hid (HX3.out.trans hx4); clear hx4)
      | (go_at_call 12; refine (HhCn.out _ HX4.out).mono ?_; rintro e w9 ⟨rfl, hx9⟩; have HX9 := Lib.hid (HX4.out.trans hx9); clear hx9))
    go_wp2_with fail
    refine (HPs.out _ (HT.out.ext HX9.out)).mono ?_
    rintro e w5 ⟨hx5, ⟨q, rfl, hq⟩ | rfl⟩
    · have HX5 := Lib.hid (HX9.out.trans hx5)
      have Hhq := Lib.hid hq
      clear hq
      clear hx5
      go_wp2_with (go_at_call 11; refine (Hhq.out _ (Ext.refl _)).mono ?_; rintro e w6 ⟨hx6, rfl⟩; have HX6 := Lib.hid (HX5.out.trans hx6); clear hx6)
      go_ret
      exact ⟨by simp, HX6.out⟩
    · have HX5 := Lib.hid (HX9.out.trans hx5)
      clear hx5
      go_wp2_with fail
      go_ret
      exact ⟨rfl, HX5.out⟩
end L07
end Go.Proofs.YtbpmokffhmiacaaDoor
