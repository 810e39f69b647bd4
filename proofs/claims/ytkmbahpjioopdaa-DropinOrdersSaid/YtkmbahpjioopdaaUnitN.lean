/- Layer 13: the walk of the reference's Assignment. -/
import Derived.Test.YtkmbahpjioopdaaKept
import Derived.Test.YtkmbahpjioopdaaLineF
import Derived.Test.YtkmbahpjioopdaaUnitL
import Derived.Test.YtkmbahpjioopdaaUnitM
namespace Go.Proofs.Ytkmbahpjioopdaa
open Go.RowKit Go.Shelf V
attribute [local go_sem] Oper.semAt_some Option.isSome_some
namespace L12
/-- the first place of a byte -/
theorem hd1_fst {c : UInt8} : ∀ {l : List UInt8} {k : Nat}, l[k]? = some c → (∀ j, j < k → ∀ x, l[j]? = some x → x ≠ c) → l.contains c = true ∧ (hd1 c l).length = k
  | [], k, h, _ => by simp at h
  | x :: r, 0, h, _ => by
    simp at h
    subst h
    refine ⟨by simp, ?_⟩
    unfold hd1
    rw [List.takeWhile_cons_of_neg (p := (· != _)) (by simp)]
    rfl
  | x :: r, k + 1, h, hn => by
    have hx : x ≠ c := hn 0 (by omega) x rfl
    obtain ⟨h1, h2⟩ := hd1_fst (l := r) (k := k) (by simpa using h) (fun j hj y hy => hn (j + 1) (by omega) y (by simpa using hy))
    refine ⟨by rw [List.contains_cons, h1, Bool.or_true], ?_⟩
    unfold hd1 at h2 ⊢
    rw [List.takeWhile_cons_of_pos (p := (· != _)) (by simpa using hx), List.length_cons, h2]
theorem hd1_none3 {c : UInt8} {l : List UInt8} (h : ∀ (j : Nat) x, l[j]? = some x → x ≠ c) : l.contains c = false := by
  rw [Bool.eq_false_iff]
  intro hm
  rw [List.contains_iff_mem] at hm
  obtain ⟨j, hj⟩ := List.mem_iff_getElem?.1 hm
  exact h j c hj rfl
theorem bytes_getq {s : ByteArray} {j : Nat} {x : UInt8} (h : (bytes s)[j]? = some x) : ∃ hj : j < s.size, s[j]'hj = x := by
  obtain ⟨hj, he⟩ := List.getElem?_eq_some_iff.1 h
  exact ⟨by rw [bytes_len] at hj; exact hj, by rw [bytes_get]; exact he⟩
theorem rtrim_snoc (l : List UInt8) (x : UInt8) : rtrim (l ++ [x]) = if isB x = true then rtrim l else l ++ [x] := by
  unfold rtrim
  rw [List.reverse_append, List.reverse_singleton, List.singleton_append]
  by_cases h : isB x = true
  · rw [if_pos h, List.dropWhile_cons_of_pos h]
  · rw [if_neg h, List.dropWhile_cons_of_neg h, List.reverse_cons, List.reverse_reverse]
theorem take_snoc (s : ByteArray) {e : Nat} (h0 : 0 < e) (h : e ≤ s.size) : (bytes s).take e = (bytes s).take (e - 1) ++ [s[e - 1]'(by omega)] := by
  have hl : e - 1 < (bytes s).length := by rw [bytes_len]; omega
  rw [bytes_get, ← List.take_succ_eq_append_getElem hl, show e - 1 + 1 = e by omega]
theorem isB_or (c : UInt8) : isB c = (c == 32 || c == 9 || c == 13) := by
  unfold isB blankB
  rw [Bool.eq_iff_iff]
  simp [← UInt8.toNat_inj, or_assoc]
set_option maxRecDepth 100000 in
set_option maxHeartbeats 4000000 in
theorem refAssignment_calls (s : ByteArray) (hs : s.size ≤ 2000000000) (w : World) :
    Calls Try.prog 47 #[.string s] w fun e w' => e = .returned (asgV (assignL (bytes s))) ∧ Ext w w' := by
  obtain ⟨res, hres⟩ : ∃ res, res = asgV (assignL (bytes s)) := ⟨_, rfl⟩
  rw [← hres]
  have Hhres := Lib.hid hres
  clear hres
  go_enter Try.func47, Try.ntmps47
  go_wp2_with fail
  go_loopw [5, 6] (fun u5 u6 wr => ∃ i : Nat, i ≤ s.size ∧ u6 = .int .i64 (i : Int) ∧ w = wr ∧ ((u5 = .int .i64 (-1) ∧ ∀ (j : Nat) (hj : j < s.size), j < i → s[j]'hj ≠ 61) ∨ (∃ (k : Nat) (hk : k < s.size), u5 = .int .i64 (k : Int) ∧ i = k + 1 ∧ s[k]'hk = 61 ∧ ∀ (j : Nat) (hj : j < s.size), j < k → s[j]'hj ≠ 61))) (fun _ u6 _ => s.size - (intOf u6).toNat)
  case atStart => exact ⟨0, Nat.zero_le _, rfl, rfl, .inl ⟨rfl, fun j _ h => by omega⟩⟩
  case round =>
    obtain ⟨i, hi, rfl, rfl, ⟨rfl, hno⟩ | ⟨k, hk, rfl, rfl, hk61, hno⟩⟩ := hrel
    · have Hhno := Lib.hid hno
      clear hno
      by_cases hlt : i < s.size
      · have hz : (i : Int) < (s.size : Int) := by omega
        have hwi : IntKind.i64.wrap ((i : Int) + 1) = (i : Int) + 1 := IntWalk.i64_in _ (by omega)
        have e1 := u8_eq (s[i]'hlt) 61
        rw [show (((61 : UInt8).toNat : Nat) : Int) = 61 from rfl] at e1
        cases h61 : s[i]'hlt == 61
        · rw [h61] at e1
          have Hh61 := Lib.hid h61
          clear h61
          go_wp2_with fail
          go_roundw
          case rel => exact ⟨i + 1, by omega, by go_num, trivial, .inl ⟨rfl, fun j hj h => by
            by_cases hji : j = i
            · subst hji; intro e; have := Hh61.out; rw [e] at this; simp at this
            · exact Hhno.out j hj (by omega)⟩⟩
          case measure => simp [intOf]; omega
        · rw [h61] at e1
          have hk61 : s[i]'hlt = 61 := by simpa using h61
          have Hhk61 := Lib.hid hk61
          clear hk61
          clear h61
          go_wp2_with fail
          go_roundw
          case rel => exact ⟨i + 1, by omega, by go_num, trivial, .inr ⟨i, hlt, rfl, rfl, Hhk61.out, Hhno.out⟩⟩
          case measure => simp [intOf]; omega
      · have hie : i = s.size := by omega
        have hz : ¬ ((i : Int) < (s.size : Int)) := by omega
        have hf : res = asgV ([], [], false) := by
          have hc : (bytes s).contains 61 = false := hd1_none3 (fun j x hx => by
            obtain ⟨hj, rfl⟩ := bytes_getq hx
            exact Hhno.out j hj (by omega))
          rw [Hhres.out]
          unfold assignL
          rw [hc, if_pos rfl]
        have Hhf := Lib.hid hf
        clear hf
        clear hie
        go_wp2_with fail
        go_ret3
        exact ⟨by rw [Hhf.out]; rfl, Ext.refl _⟩
    · have hkl : (bytes s)[k]? = some 61 := by rw [List.getElem?_eq_getElem (by rw [bytes_len]; exact hk), ← bytes_get s k hk, hk61]
      obtain ⟨hcon, hhd⟩ := hd1_fst hkl (fun j hj x hx => by
        obtain ⟨hjs, rfl⟩ := bytes_getq hx
        exact hno j hjs hj)
      have htk : hd1 61 (bytes s) = (bytes s).take k := by rw [← hhd, hd1_take]
      have htl : tl1 61 (bytes s) = bytes (s.extract (k + 1) s.size) := by
        rw [← tl1_drop, hhd, bytes_ext, List.take_of_length_le (by rw [List.length_drop, bytes_len]; omega)]
      have hp0 : 0 < s.size := by omega
      have hhp : Lib.hasPrefix (bytes s) [91] = (s[0]'hp0 == 91) := by
        rw [bytes_cons s hp0, hasPrefix_one]
        rw [Bool.eq_iff_iff, decide_eq_true_iff, beq_iff_eq]
      have hra : res = asgV (if (s[0]'hp0 == 91) = true then ([], [], false) else if rtrim ((bytes s).take k) = [] then ([], [], false) else if (rtrim ((bytes s).take k)).any isB = true then ([], [], false) else (rtrim ((bytes s).take k), trimL (bytes (s.extract (k + 1) s.size)), true)) := by
        rw [Hhres.out]
        unfold assignL
        rw [hcon, if_neg (by simp), hhp, htk, htl, containsAny_blank]
      have hk0 : ¬ ((k : Int) < 0) := by omega
      have e1 := u8_eq (s[0]'hp0) 91
      rw [show (((91 : UInt8).toNat : Nat) : Int) = 91 from rfl] at e1
      have Hhno := Lib.hid hno
      clear hno
      clear hkl hcon hhd htk htl hhp hk61
      have hzk : ∀ (e : Nat), IntKind.i64.wrap ((e : Int) - 1) = (e : Int) - 1 ∨ 2000000000 < e := fun e => by
        by_cases h : e ≤ 2000000000
        · exact .inl (IntWalk.i64_in _ (by omega))
        · exact .inr (by omega)
      have Hhzk := Lib.hid hzk
      clear hzk
      cases h91 : s[0]'hp0 == 91
      · rw [h91] at e1 hra
        rw [if_neg (by simp)] at hra
        have Hhra := Lib.hid hra
        clear hra
        clear h91
        by_cases hks : (k : Int) + 1 < (s.size : Int)
        all_goals
          go_wp2_with fail
          go_loopw [7] (fun u7 wr => ∃ e : Nat, e ≤ k ∧ u7 = .int .i64 (e : Int) ∧ rtrim ((bytes s).take e) = rtrim ((bytes s).take k) ∧ w = wr) (fun u7 _ => (intOf u7).toNat)
          case atStart => exact ⟨k, Nat.le_refl _, rfl, rfl, rfl⟩
          case round =>
            obtain ⟨e, hek, rfl, hrt, rfl⟩ := hrel
            have Hhrt := Lib.hid hrt
            clear hrt
            by_cases he0 : 0 < e
            · have he1 : e - 1 < s.size := by omega
              have hwe : IntKind.i64.wrap ((e : Int) - 1) = ((e - 1 : Nat) : Int) := by
                rw [show ((e - 1 : Nat) : Int) = (e : Int) - 1 by omega]
                exact IntWalk.i64_in _ (by omega)
              have hez : (0 : Int) < (e : Int) := by omega
              have hel : ((e - 1 : Nat) : Int) < (s.size : Int) := by omega
              have hsn := rtrim_snoc ((bytes s).take (e - 1)) (s[e - 1]'he1)
              rw [← take_snoc s he0 (by omega)] at hsn
              have c1 := u8_eq (s[e - 1]'he1) 32
              have c2 := u8_eq (s[e - 1]'he1) 9
              have c3 := u8_eq (s[e - 1]'he1) 13
              rw [show (((32 : UInt8).toNat : Nat) : Int) = 32 from rfl] at c1
              rw [show (((9 : UInt8).toNat : Nat) : Int) = 9 from rfl] at c2
              rw [show (((13 : UInt8).toNat : Nat) : Int) = 13 from rfl] at c3
              have hib := isB_or (s[e - 1]'he1)
              generalize (s[e - 1]'he1 == 32) = b1 at *
              generalize (s[e - 1]'he1 == 9) = b2 at *
              generalize (s[e - 1]'he1 == 13) = b3 at *
              cases hb : isB (s[e - 1]'he1)
              · rw [hb] at hib hsn
                rw [if_neg (by simp), Hhrt.out] at hsn
                cases b1
                case true => simp at hib
                cases b2
                case true => simp at hib
                cases b3
                case true => simp at hib
                have hrb := Hhra.out
                rw [hsn] at hrb
                have hne : (bytes s).take e ≠ [] := fun h => by
                  have := congrArg List.length h
                  rw [List.length_take, bytes_len, List.length_nil] at this
                  omega
                rw [if_neg hne] at hrb
                have hne0 : ((e : Int) == 0) = false := by simp; omega
                have hne1 : (e == 0) = false := by simp; omega
                have hex : str ((bytes s).take e) = s.extract 0 e := bytes_inj (by rw [bytes_ext, List.drop_zero, Nat.sub_zero])
                have Hhrb := Lib.hid hrb
                clear hrb
                have Hhsn := Lib.hid hsn
                clear hsn
                have Hhib := Lib.hid hib
                clear hib
                have Hhb := Lib.hid hb
                clear hb
                have Hhex := Lib.hid hex
                clear hex
                clear hne
                go_wp2_with fail
                go_loopw [8] (fun u8 wr => ∃ i : Nat, i ≤ e ∧ u8 = .int .i64 (i : Int) ∧ (∀ (j : Nat) (hj : j < s.size), j < i → isB (s[j]'hj) = false) ∧ w = wr) (fun u8 _ => e - (intOf u8).toNat)
                case atStart => exact ⟨0, Nat.zero_le _, rfl, fun j _ h => by omega, rfl⟩
                case round =>
                  obtain ⟨i, hie, rfl, hall, rfl⟩ := hrel
                  have Hhall := Lib.hid hall
                  clear hall
                  by_cases hil : i < e
                  · have his : i < s.size := by omega
                    have hiz : (i : Int) < (e : Int) := by omega
                    have hwi : IntKind.i64.wrap ((i : Int) + 1) = (i : Int) + 1 := IntWalk.i64_in _ (by omega)
                    have d1 := u8_eq (s[i]'his) 32
                    have d2 := u8_eq (s[i]'his) 9
                    have d3 := u8_eq (s[i]'his) 13
                    rw [show (((32 : UInt8).toNat : Nat) : Int) = 32 from rfl] at d1
                    rw [show (((9 : UInt8).toNat : Nat) : Int) = 9 from rfl] at d2
                    rw [show (((13 : UInt8).toNat : Nat) : Int) = 13 from rfl] at d3
                    have hib := isB_or (s[i]'his)
                    generalize (s[i]'his == 32) = a1 at *
                    generalize (s[i]'his == 9) = a2 at *
                    generalize (s[i]'his == 13) = a3 at *
                    cases hb : isB (s[i]'his)
                    · rw [hb] at hib
                      cases a1
                      case true => simp at hib
                      cases a2
                      case true => simp at hib
                      cases a3
                      case true => simp at hib
                      have Hhib := Lib.hid hib
                      clear hib
                      have Hhb := Lib.hid hb
                      clear hb
                      go_wp2_with fail
                      go_roundw
                      case rel => exact ⟨i + 1, by omega, by go_num, fun j hj h => by
                        by_cases hji : j = i
                        · subst hji; exact Hhb.out
                        · exact Hhall.out j hj (by omega), trivial⟩
                      case measure => simp [intOf]; omega
                    · have hf : res = asgV ([], [], false) := by
                        rw [Hhrb.out, if_pos]
                        rw [List.any_eq_true]
                        exact ⟨s[i]'his, by rw [bytes_get, List.mem_iff_getElem?]; exact ⟨i, by rw [List.getElem?_take_of_lt hil, List.getElem?_eq_getElem (by rw [bytes_len]; exact his)]⟩, hb⟩
                      rw [hb] at hib
                      have Hhf := Lib.hid hf
                      clear hf
                      clear hb
                      cases a1
                      · cases a2
                        · cases a3
                          · simp at hib
                          · clear hib
                            go_wp2_with fail
                            go_ret3
                            exact ⟨by rw [Hhf.out]; rfl, Ext.refl _⟩
                        · clear hib
                          go_wp2_with fail
                          go_ret3
                          exact ⟨by rw [Hhf.out]; rfl, Ext.refl _⟩
                      · clear hib
                        go_wp2_with fail
                        go_ret3
                        exact ⟨by rw [Hhf.out]; rfl, Ext.refl _⟩
                  · obtain rfl : i = e := by omega
                    have hiz : ¬ ((i : Int) < (i : Int)) := by omega
                    have hf : res = asgV ((bytes s).take i, trimL (bytes (s.extract (k + 1) s.size)), true) := by
                      rw [Hhrb.out, if_neg]
                      intro h
                      obtain ⟨x, hx, hxb⟩ := List.any_eq_true.1 h
                      obtain ⟨j, hj⟩ := List.mem_iff_getElem?.1 hx
                      by_cases hji : j < i
                      · rw [List.getElem?_take_of_lt hji] at hj
                        obtain ⟨hjs, rfl⟩ := bytes_getq hj
                        rw [Hhall.out j hjs hji] at hxb
                        cases hxb
                      · rw [List.getElem?_take_eq_none (by omega)] at hj
                        cases hj
                    have hT : ∀ W, Calls Try.prog 68 #[.string (s.extract (k + 1) s.size)] W fun e w' => e = .returned (.string (str (trimL (bytes (s.extract (k + 1) s.size))))) ∧ Ext W w' := fun W => (rTrim_calls (s.extract (k + 1) s.size) (by have := ext_size s (k + 1) s.size (Nat.le_refl _); omega) W).mono (by rintro e w' ⟨rfl, rfl⟩; exact ⟨rfl, Ext.refl _⟩)
                    unfold asgV at hf
                    rw [Hhex.out] at hf
                    generalize str (trimL (bytes (s.extract (k + 1) s.size))) = vt at *
                    have hes : (i : Int) ≤ (s.size : Int) := by omega
                    have hks1 : (k : Int) + 1 ≤ (s.size : Int) := by omega
                    have hwk : IntKind.i64.wrap ((k : Int) + 1) = (k : Int) + 1 := IntWalk.i64_in _ (by omega)
                    have Hhf := Lib.hid hf
                    clear hf
                    have HhT := Lib.hid hT
                    clear hT
                    go_wp2_with fail
                    refine wp_region_kept (by kernel_rfl) (by kernel_rfl) ?_
                    repeat (any_goals (first | go_big_quiet_step ((go_at_call 68; exact calls_kept (HhT.out _))) | quiet_step ((go_at_call 68; exact calls_kept (HhT.out _)))))
                    all_goals (refine wpQuiet_nil ?_; intro _ hw9; obtain ⟨xq, hw8⟩ := hw9; subst hw8)
                    go_wp2_with fail
                    go_ret3
                    exact ⟨by rw [Hhf.out]; rfl, xq.h⟩
              · rw [hb] at hib hsn
                rw [if_pos rfl, Hhrt.out] at hsn
                have Hhsn := Lib.hid hsn
                clear hsn
                clear hb
                cases b1
                · cases b2
                  · cases b3
                    · simp at hib
                    · clear hib
                      go_wp2_with fail
                      go_roundw
                      case rel => exact ⟨e - 1, by omega, rfl, Hhsn.out.symm, trivial⟩
                      case measure => simp [intOf]; omega
                  · clear hib
                    go_wp2_with fail
                    go_roundw
                    case rel => exact ⟨e - 1, by omega, rfl, Hhsn.out.symm, trivial⟩
                    case measure => simp [intOf]; omega
                · clear hib
                  go_wp2_with fail
                  go_roundw
                  case rel => exact ⟨e - 1, by omega, rfl, Hhsn.out.symm, trivial⟩
                  case measure => simp [intOf]; omega
            · obtain rfl : e = 0 := by omega
              have hrb := Hhra.out
              rw [← Hhrt.out, List.take_zero] at hrb
              rw [if_pos (show rtrim [] = [] from rfl)] at hrb
              have Hhrb := Lib.hid hrb
              clear hrb
              go_wp2_with fail
              go_loopw [8] (fun u8 wr => u8 = .int .i64 0 ∧ w = wr) (fun u8 _ => (intOf u8).toNat)
              case atStart => exact ⟨rfl, rfl⟩
              case round =>
                obtain ⟨rfl, rfl⟩ := hrel
                go_wp2_with fail
                go_ret3
                exact ⟨by rw [Hhrb.out]; rfl, Ext.refl _⟩
      · rw [h91] at e1 hra
        rw [if_pos rfl] at hra
        have Hhra := Lib.hid hra
        clear hra
        clear h91
        by_cases hks : (k : Int) + 1 < (s.size : Int)
        all_goals
          go_wp2_with fail
          go_ret3
          exact ⟨by rw [Hhra.out]; rfl, Ext.refl _⟩
end L12
end Go.Proofs.Ytkmbahpjioopdaa
