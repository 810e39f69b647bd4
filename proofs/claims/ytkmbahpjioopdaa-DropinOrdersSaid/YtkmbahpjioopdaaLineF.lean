/- Layer 12, the reference: blank, Trim, Comment, Lines. -/
import Derived.Test.YtkmbahpjioopdaaLineD
import Derived.Laws.Slices
namespace Go.Proofs.Ytkmbahpjioopdaa
open Go.RowKit V
namespace L12
set_option maxHeartbeats 400000 in
theorem rblank_calls (c : Nat) (w : World) : Calls Try.prog 82 #[.int .u8 (c : Int)] w fun e w' => e = .returned (.bool (blankB c)) ∧ w = w' := by
  unfold blankB
  have e1 : ((c : Int) == 32) = (c == 32) := by rw [Bool.eq_iff_iff]; simp; omega
  have e2 : ((c : Int) == 9) = (c == 9) := by rw [Bool.eq_iff_iff]; simp; omega
  have e3 : ((c : Int) == 13) = (c == 13) := by rw [Bool.eq_iff_iff]; simp; omega
  generalize (c == 32) = b1 at *
  generalize (c == 9) = b2 at *
  generalize (c == 13) = b3 at *
  cases b1 <;> cases b2 <;> cases b3
  all_goals
    go_enter Try.func82, Try.ntmps82
    go_wp2
    go_ret
    exact ⟨rfl, rfl⟩
theorem dw_snoc {p : UInt8 → Bool} {x : UInt8} (hx : p x = false) : ∀ (l : List UInt8), (l ++ [x]).dropWhile p = l.dropWhile p ++ [x]
  | [] => by rw [List.nil_append, List.dropWhile_cons_of_neg (by rw [hx]; simp)]; rfl
  | y :: r => by
    by_cases hy : p y = true
    · rw [List.cons_append, List.dropWhile_cons_of_pos hy, List.dropWhile_cons_of_pos hy, dw_snoc hx r]
    · rw [List.cons_append, List.dropWhile_cons_of_neg hy, List.dropWhile_cons_of_neg hy]; rfl
theorem dw_head {p : UInt8 → Bool} : ∀ {l : List UInt8} {x : UInt8} {r : List UInt8}, l.dropWhile p = x :: r → p x = false
  | [], _, _, h => by cases h
  | y :: l, x, r, h => by
    by_cases hy : p y = true
    · rw [List.dropWhile_cons_of_pos hy] at h; exact dw_head h
    · rw [List.dropWhile_cons_of_neg hy] at h
      obtain ⟨rfl, rfl⟩ := List.cons.inj h
      simpa using hy
theorem trimL_head (l : List UInt8) : trimL l = [] ∧ l.dropWhile isB = [] ∨ ∃ x r r', trimL l = x :: r ∧ l.dropWhile isB = x :: r' := by
  unfold trimL
  cases h : l.dropWhile isB with
  | nil => exact .inl ⟨rfl, rfl⟩
  | cons x r =>
    refine .inr ⟨x, (r.reverse.dropWhile isB).reverse, r, ?_, rfl⟩
    rw [List.reverse_cons, dw_snoc (dw_head h), List.reverse_append]; rfl
theorem commentL_eq (l : List UInt8) : commentL l = match l.dropWhile isB with | [] => false | x :: _ => x == 35 || x == 59 := by
  unfold commentL
  rcases trimL_head l with ⟨h1, h2⟩ | ⟨x, r, r', h1, h2⟩ <;> rw [h1, h2]
theorem drop_dw {l : List UInt8} {k : Nat} (h : k < l.length) : (l.drop k).dropWhile isB = if isB l[k] = true then (l.drop (k + 1)).dropWhile isB else l.drop k := by
  rw [List.drop_eq_getElem_cons h]
  by_cases hb : isB l[k] = true
  · rw [if_pos hb, List.dropWhile_cons_of_pos hb]
  · rw [if_neg hb, List.dropWhile_cons_of_neg hb]
set_option maxHeartbeats 1000000 in
theorem rComment_calls (s : ByteArray) (hs : s.size ≤ 1000000000) (w : World) : Calls Try.prog 67 #[.string s] w fun e w' => e = .returned (.bool (commentL (bytes s))) ∧ w = w' := by
  have hB := fun c W => rblank_calls c W
  obtain ⟨cb, hcb⟩ : ∃ cb, cb = commentL (bytes s) := ⟨_, rfl⟩
  rw [← hcb]
  rw [commentL_eq] at hcb
  have HhB := Lib.hid hB
  clear hB
  have Hhcb := Lib.hid hcb
  clear hcb
  go_enter Try.func67, Try.ntmps67
  go_wp2
  go_loopw [3] (fun u wr => ∃ k : Nat, u = .int .i64 k ∧ k ≤ s.size ∧ ((bytes s).drop k).dropWhile isB = (bytes s).dropWhile isB ∧ w = wr) (fun u _ => s.size - (intOf u).toNat)
  case atStart => exact ⟨0, rfl, by omega, rfl, rfl⟩
  case round =>
    obtain ⟨k, rfl, hk, heq, rfl⟩ := hrel
    by_cases hlt : k < s.size
    · have hlt' : k < (bytes s).length := hlt
      have hst := drop_dw hlt'
      rw [heq] at hst
      have hc := HhB.out (s[k]'hlt).toNat
      have hg := bytes_get s k hlt
      cases hb : blankB (s[k]'hlt).toNat
      · have hb' : ¬ isB ((bytes s)[k]'hlt') = true := by rw [← hg]; show ¬ blankB _ = true; rw [hb]; simp
        rw [if_neg hb', List.drop_eq_getElem_cons hlt', ← hg] at hst
        rw [hb] at hc
        have hcb2 := Hhcb.out
        rw [hst] at hcb2
        dsimp only at hcb2
        have e1 : (((s[k]'hlt).toNat : Int) == 35) = ((s[k]'hlt) == 35) := by rw [Bool.eq_iff_iff]; simp; rw [← UInt8.toNat_inj]; show (((s[k]'hlt).toNat : Int) = 35) ↔ (s[k]'hlt).toNat = 35; omega
        have e2 : (((s[k]'hlt).toNat : Int) == 59) = ((s[k]'hlt) == 59) := by rw [Bool.eq_iff_iff]; simp; rw [← UInt8.toNat_inj]; show (((s[k]'hlt).toNat : Int) = 59) ↔ (s[k]'hlt).toNat = 59; omega
        generalize ((s[k]'hlt) == 35) = b1 at *
        generalize ((s[k]'hlt) == 59) = b2 at *
        have Hhst := Lib.hid hst
        clear hst
        have Hhb := Lib.hid hb
        clear hb
        have Hhc := Lib.hid hc
        clear hc
        have Hhg := Lib.hid hg
        clear hg
        have Hheq := Lib.hid heq
        clear heq
        have Hhcb2 := Lib.hid hcb2
        clear hcb2
        clear hb'
        cases b1 <;> cases b2
        all_goals
          go_wp2_with fail
          refine (Hhc.out _).mono ?_
          rintro e w1 ⟨rfl, rfl⟩
          go_wp2_with fail
          go_ret
          exact ⟨by rw [Hhcb2.out]; rfl, rfl⟩
      · have hb' : isB ((bytes s)[k]'hlt') = true := by rw [← hg]; exact hb
        rw [if_pos hb'] at hst
        rw [hb] at hc
        have Hhst := Lib.hid hst
        clear hst
        have Hhb := Lib.hid hb
        clear hb
        have Hhc := Lib.hid hc
        clear hc
        have Hhg := Lib.hid hg
        clear hg
        have Hheq := Lib.hid heq
        clear heq
        clear hb'
        go_wp2_with fail
        refine (Hhc.out _).mono ?_
        rintro e w1 ⟨rfl, rfl⟩
        go_wp2_with fail
        go_roundw
        case rel => exact ⟨k + 1, by go_num, by omega, Hhst.out.symm, trivial⟩
        case measure => simp [intOf]; omega
    · obtain rfl : k = s.size := by omega
      have hnil : (bytes s).drop s.size = [] := List.drop_eq_nil_of_le (by rw [bytes_len]; exact Nat.le_refl _)
      rw [hnil] at heq
      have hcb2 := Hhcb.out
      rw [← heq] at hcb2
      have Hhnil := Lib.hid hnil
      clear hnil
      have Hheq := Lib.hid heq
      clear heq
      have Hhcb2 := Lib.hid hcb2
      clear hcb2
      go_wp2_with fail
      go_ret
      exact ⟨by rw [Hhcb2.out]; rfl, rfl⟩
set_option maxHeartbeats 1000000 in
theorem rTrim_calls (s : ByteArray) (hs : s.size ≤ 1000000000000) (w : World) : Calls Try.prog 68 #[.string s] w fun e w' => e = .returned (.string (str (trimL (bytes s)))) ∧ w = w' := by
  have hB := fun c W => rblank_calls c W
  obtain ⟨L, hL⟩ : ∃ L, L = (bytes s).dropWhile isB := ⟨_, rfl⟩
  obtain ⟨R, hR⟩ : ∃ R, R = L.reverse.dropWhile isB := ⟨_, rfl⟩
  have hT : trimL (bytes s) = R.reverse := by rw [hR, hL]; rfl
  rw [hT]
  have HhB := Lib.hid hB
  clear hB
  have HhT := Lib.hid hT
  clear hT
  have HhR := Lib.hid hR
  clear hR
  have HhL := Lib.hid hL
  clear hL
  go_enter Try.func68, Try.ntmps68
  go_wp2
  go_loopw [3] (fun u wr => ∃ k : Nat, u = .int .i64 k ∧ k ≤ s.size ∧ ((bytes s).drop k).dropWhile isB = L ∧ w = wr) (fun u _ => s.size - (intOf u).toNat)
  case atStart => exact ⟨0, rfl, by omega, HhL.out.symm, rfl⟩
  case round =>
    obtain ⟨k, rfl, hk, heq, rfl⟩ := hrel
    have hstop : (k < s.size ∧ ∃ h : k < s.size, blankB (s[k]'h).toNat = true) ∨ (((k = s.size) ∨ (∃ h : k < s.size, blankB (s[k]'h).toNat = false)) ∧ (bytes s).drop k = L) := by
      by_cases hlt : k < s.size
      · have hlt' : k < (bytes s).length := hlt
        have hst := drop_dw hlt'
        have hg := bytes_get s k hlt
        cases hb : blankB (s[k]'hlt).toNat
        · have hb' : ¬ isB ((bytes s)[k]'hlt') = true := by rw [← hg]; show ¬ blankB _ = true; rw [hb]; simp
          rw [if_neg hb'] at hst
          exact .inr ⟨.inr ⟨hlt, hb⟩, by rw [← heq, hst]⟩
        · exact .inl ⟨hlt, hlt, hb⟩
      · have e : k = s.size := by omega
        refine .inr ⟨.inl e, ?_⟩
        have hnil : (bytes s).drop k = [] := List.drop_eq_nil_of_le (by rw [bytes_len]; omega)
        rw [← heq, hnil]; rfl
    rcases hstop with ⟨-, hlt, hb⟩ | ⟨hex, hdl⟩
    · have hlt' : k < (bytes s).length := hlt
      have hst := drop_dw hlt'
      have hc := HhB.out (s[k]'hlt).toNat
      have hg := bytes_get s k hlt
      have hb' : isB ((bytes s)[k]'hlt') = true := by rw [← hg]; exact hb
      rw [if_pos hb', heq] at hst
      rw [hb] at hc
      have Hhst := Lib.hid hst
      clear hst
      have Hhb := Lib.hid hb
      clear hb
      have Hhc := Lib.hid hc
      clear hc
      have Hhg := Lib.hid hg
      clear hg
      have Hheq := Lib.hid heq
      clear heq
      clear hb'
      go_wp2_with fail
      refine (Hhc.out _).mono ?_
      rintro e w1 ⟨rfl, rfl⟩
      go_wp2_with fail
      go_roundw
      case rel => exact ⟨k + 1, by go_num, by omega, Hhst.out.symm, trivial⟩
      case measure => simp [intOf]; omega
    · clear heq
      have hLl : L.length = s.size - k := by rw [← hdl, List.length_drop, bytes_len]
      have Hhdl := Lib.hid hdl
      clear hdl
      have HhLl := Lib.hid hLl
      clear hLl
      have second : ∀ (j : Nat), k ≤ j → j ≤ s.size → (L.take (j - k)).reverse.dropWhile isB = R →
          (j = k ∧ R = []) ∨ (∃ (h1 : j - 1 < s.size), k < j ∧ blankB (s[j - 1]'h1).toNat = true ∧ (L.take (j - 1 - k)).reverse.dropWhile isB = R) ∨ (∃ (h1 : j - 1 < s.size), k < j ∧ blankB (s[j - 1]'h1).toNat = false ∧ (L.take (j - k)).reverse = R) := fun j h1 h2 h3 => by
        by_cases hjk : j = k
        · refine .inl ⟨hjk, ?_⟩
          rw [← h3, hjk, Nat.sub_self]; rfl
        · have hj1 : j - 1 < s.size := by omega
          have hi : j - 1 - k < L.length := by rw [HhLl.out]; omega
          have hgl : L[j - 1 - k]'hi = s[j - 1]'hj1 := by
            rw [bytes_get]
            simp only [← Hhdl.out, List.getElem_drop]
            congr 1; omega
          have htk : L.take (j - k) = L.take (j - 1 - k) ++ [s[j - 1]'hj1] := by
            rw [show j - k = (j - 1 - k) + 1 by omega, List.take_succ_eq_append_getElem hi, hgl]
          have hrv : (L.take (j - k)).reverse = (s[j - 1]'hj1) :: (L.take (j - 1 - k)).reverse := by rw [htk, List.reverse_append]; rfl
          rw [hrv] at h3
          cases hb : blankB (s[j - 1]'hj1).toNat
          · rw [List.dropWhile_cons_of_neg (by show ¬ blankB _ = true; rw [hb]; simp)] at h3
            exact .inr (.inr ⟨hj1, by omega, hb, by rw [hrv]; exact h3⟩)
          · rw [List.dropWhile_cons_of_pos (by exact hb)] at h3
            exact .inr (.inl ⟨hj1, by omega, hb, h3⟩)
      have hfin : ∀ j, k ≤ j → j ≤ s.size → (L.take (j - k)).reverse = R → s.extract k j = str R.reverse := fun j h1 h2 h3 => by
        refine bytes_inj ?_
        rw [bytes_ext, Hhdl.out, ← h3, List.reverse_reverse]
      have Hsecond := Lib.hid second
      clear second
      have Hhfin := Lib.hid hfin
      clear hfin
      have hex2 : (k = s.size) ∨ (∃ h : k < s.size, ∀ W, Calls Try.prog 82 #[.int .u8 ((s[k]'h).toNat : Int)] W fun e w' => e = .returned (.bool false) ∧ W = w') := by
        rcases hex with h | ⟨h, hb⟩
        · exact .inl h
        · refine .inr ⟨h, fun W => ?_⟩
          have := HhB.out (s[k]'h).toNat W
          rw [hb] at this
          exact this
      have Hhex := Lib.hid hex
      clear hex
      rcases hex2 with hks | ⟨hlt, hc⟩
      · go_wp2_with fail
        go_loopw [4] (fun u wr => ∃ j : Nat, u = .int .i64 j ∧ k ≤ j ∧ j ≤ s.size ∧ (L.take (j - k)).reverse.dropWhile isB = R ∧ w = wr) (fun u _ => (intOf u).toNat)
        case atStart => exact ⟨s.size, rfl, by omega, Nat.le_refl _, by rw [← HhLl.out, List.take_length]; exact HhR.out.symm, rfl⟩
        case round =>
          obtain ⟨j, rfl, hj1, hj2, hj3, rfl⟩ := hrel
          have hsec := Hsecond.out j hj1 hj2 hj3
          have Hhj3 := Lib.hid hj3
          clear hj3
          rcases hsec with ⟨rfl, hRn⟩ | ⟨h1, h2, hb2, h3⟩ | ⟨h1, h2, hb2, h3⟩
          · have HRn := Lib.hid hRn
            clear hRn
            go_wp2_with fail
            go_ret
            exact ⟨by rw [HRn.out]; rfl, rfl⟩
          · exact absurd h2 (by omega)
          · exact absurd h2 (by omega)
      · have HC := Lib.hid hc
        clear hc
        go_wp2_with fail
        refine (HC.out _).mono ?_
        rintro e w1 ⟨rfl, rfl⟩
        go_wp2_with fail
        go_loopw [4] (fun u wr => ∃ j : Nat, u = .int .i64 j ∧ k ≤ j ∧ j ≤ s.size ∧ (L.take (j - k)).reverse.dropWhile isB = R ∧ w = wr) (fun u _ => (intOf u).toNat)
        case atStart => exact ⟨s.size, rfl, by omega, Nat.le_refl _, by rw [← HhLl.out, List.take_length]; exact HhR.out.symm, rfl⟩
        case round =>
          obtain ⟨j, rfl, hj1, hj2, hj3, rfl⟩ := hrel
          have hsec := Hsecond.out j hj1 hj2 hj3
          have Hhj3 := Lib.hid hj3
          clear hj3
          rcases hsec with ⟨rfl, hRn⟩ | ⟨h1, h2, hb2, h3⟩ | ⟨h1, h2, hb2, h3⟩
          · have HRn := Lib.hid hRn
            clear hRn
            go_wp2_with fail
            go_ret
            exact ⟨by rw [HRn.out]; rfl, rfl⟩
          · have hc2 := HhB.out (s[j - 1]'h1).toNat
            rw [hb2] at hc2
            have Hhb2 := Lib.hid hb2
            clear hb2
            have Hhc2 := Lib.hid hc2
            clear hc2
            have Hh3 := Lib.hid h3
            clear h3
            go_wp2_with fail
            refine (Hhc2.out _).mono ?_
            rintro e w2 ⟨rfl, rfl⟩
            go_wp2_with fail
            go_roundw
            case rel => exact ⟨j - 1, by simp; omega, by omega, by omega, Hh3.out, trivial⟩
            case measure => simp [intOf]; omega
          · have hc2 := HhB.out (s[j - 1]'h1).toNat
            rw [hb2] at hc2
            have hres := Hhfin.out j hj1 hj2 h3
            have Hhb2 := Lib.hid hb2
            clear hb2
            have Hhc2 := Lib.hid hc2
            clear hc2
            have Hh3 := Lib.hid h3
            clear h3
            have Hhres := Lib.hid hres
            clear hres
            go_wp2_with fail
            refine (Hhc2.out _).mono ?_
            rintro e w2 ⟨rfl, rfl⟩
            go_wp2_with fail
            go_ret
            exact ⟨by rw [← Hhres.out]; rfl, rfl⟩
end L12
end Go.Proofs.Ytkmbahpjioopdaa
