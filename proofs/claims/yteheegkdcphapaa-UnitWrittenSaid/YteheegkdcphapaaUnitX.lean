/- Layer 13: the walks of word and value. -/
import Derived.Test.YteheegkdcphapaaUnitW
namespace Go.Proofs.Yteheegkdcphapaa
open Go.RowKit Go.Shelf V
attribute [local go_sem] Oper.semAt_some Option.isSome_some
namespace L12
theorem bytes_strX (l : List UInt8) : bytes (str l) = l := by simp [bytes]
theorem u8i (c : UInt8) (k : UInt8) : ((c.toNat : Int) == (k.toNat : Int)) = (c == k) := u8_eq c k
set_option maxRecDepth 100000 in
set_option maxHeartbeats 4000000 in
theorem word_calls (s : ByteArray) (hs : s.size ≤ maxLen) (sec : Bool) (w : World) :
    Calls Try.prog 33 #[.string s, .bool sec] w fun e w' => ∃ b, e = .returned (.bool b) ∧ (b = true → WordP (bytes s) sec) ∧ w = w' := by
  unfold maxLen at hs
  by_cases h0 : s.size = 0
  · have : bytes s = [] := List.eq_nil_of_length_eq_zero (by rw [bytes_len]; exact h0)
    obtain rfl : s = ⟨#[]⟩ := bytes_inj this
    go_enter Try.func33, Try.ntmps33
    go_wp2_with fail
    go_ret
    exact .inl ⟨rfl, rfl⟩
  have hne : s.toList.isEmpty = false := by
    rw [Lib.toList_data]
    cases h : s.data.toList with
    | nil => have := Lib.size_eq s; rw [h, List.length_nil] at this; omega
    | cons _ _ => rfl
  by_cases h60 : 60 < s.size
  · have f1 : decide (60 < s.size) = true := decide_eq_true h60
    have f1' : decide ((60 : Int) < (s.size : Int)) = true := decide_eq_true (by omega)
    go_enter Try.func33, Try.ntmps33
    go_wp2_with fail
    go_ret
    exact ⟨_, rfl, (fun h => by cases h), rfl⟩
  have f1 : decide (60 < s.size) = false := decide_eq_false h60
  have f1' : decide ((60 : Int) < (s.size : Int)) = false := decide_eq_false (by omega)
  go_enter Try.func33, Try.ntmps33
  go_wp2_with fail
  go_loopw [5] (fun u5 wr => ∃ i : Nat, i ≤ s.size ∧ u5 = .int .i64 (i : Int) ∧ (∀ (j : Nat) (hj : j < s.size), j < i → badC sec (decide (j = 0)) (s[j]'hj) = false) ∧ w = wr) (fun u5 _ => s.size - (intOf u5).toNat)
  case atStart => exact ⟨0, Nat.zero_le _, rfl, fun j _ h => by omega, rfl⟩
  case round =>
    obtain ⟨i, hi, rfl, hall, rfl⟩ := hrel
    have Hhall := Lib.hid hall
    clear hall
    by_cases hlt : i < s.size
    · have hz : (i : Int) < (s.size : Int) := by omega
      have hwi : IntKind.i64.wrap ((i : Int) + 1) = (i : Int) + 1 := IntWalk.i64_in _ (by omega)
      have e10 := u8_eq (s[i]'hlt) 10
      have e32 := u8_eq (s[i]'hlt) 32
      have e9 := u8_eq (s[i]'hlt) 9
      have e13 := u8_eq (s[i]'hlt) 13
      have e91 := u8_eq (s[i]'hlt) 91
      have e93 := u8_eq (s[i]'hlt) 93
      have e61 := u8_eq (s[i]'hlt) 61
      have e35 := u8_eq (s[i]'hlt) 35
      have e59 := u8_eq (s[i]'hlt) 59
      have e92 := u8_eq (s[i]'hlt) 92
      rw [show (((10 : UInt8).toNat : Nat) : Int) = 10 from rfl] at e10
      rw [show (((32 : UInt8).toNat : Nat) : Int) = 32 from rfl] at e32
      rw [show (((9 : UInt8).toNat : Nat) : Int) = 9 from rfl] at e9
      rw [show (((13 : UInt8).toNat : Nat) : Int) = 13 from rfl] at e13
      rw [show (((91 : UInt8).toNat : Nat) : Int) = 91 from rfl] at e91
      rw [show (((93 : UInt8).toNat : Nat) : Int) = 93 from rfl] at e93
      rw [show (((61 : UInt8).toNat : Nat) : Int) = 61 from rfl] at e61
      rw [show (((35 : UInt8).toNat : Nat) : Int) = 35 from rfl] at e35
      rw [show (((59 : UInt8).toNat : Nat) : Int) = 59 from rfl] at e59
      rw [show (((92 : UInt8).toNat : Nat) : Int) = 92 from rfl] at e92
      have ei : ((i : Int) == 0) = decide (i = 0) := by rw [Bool.eq_iff_iff, beq_iff_eq, decide_eq_true_iff]; omega
      have ei2 : (i == 0) = decide (i = 0) := by rw [Bool.eq_iff_iff, beq_iff_eq, decide_eq_true_iff]
      have hb : badC sec (decide (i = 0)) (s[i]'hlt) = ((s[i]'hlt) == 10 || (s[i]'hlt) == 32 || (s[i]'hlt) == 9 || (s[i]'hlt) == 13 || (s[i]'hlt) == 91 || (s[i]'hlt) == 93 || ((s[i]'hlt) == 61 && !sec) || (((s[i]'hlt) == 35 || (s[i]'hlt) == 59) && (decide (i = 0)) && !sec) || (s[i]'hlt) == 92) := rfl
      have hnext : badC sec (decide (i = 0)) (s[i]'hlt) = false → ∀ (j : Nat) (hj : j < s.size), j < i + 1 → badC sec (decide (j = 0)) (s[j]'hj) = false := fun hbf j hj h => by
        by_cases hji : j = i
        · subst hji; exact hbf
        · exact Hhall.out j hj (by omega)
      rw [hb] at hnext
      clear hb
      generalize (s[i]'hlt == 10) = b10 at *
      generalize (s[i]'hlt == 32) = b32 at *
      generalize (s[i]'hlt == 9) = b9 at *
      generalize (s[i]'hlt == 13) = b13 at *
      generalize (s[i]'hlt == 91) = b91 at *
      generalize (s[i]'hlt == 93) = b93 at *
      generalize (s[i]'hlt == 61) = b61 at *
      generalize (s[i]'hlt == 35) = b35 at *
      generalize (s[i]'hlt == 59) = b59 at *
      generalize (s[i]'hlt == 92) = b92 at *
      generalize decide (i = 0) = bi at *
      have Hhnext := Lib.hid hnext
      clear hnext
      cases b10
      case true =>
        go_wp2_with fail
        go_ret
        exact ⟨_, rfl, (fun h => by cases h), rfl⟩
      case false =>
        cases b32
        case true =>
          go_wp2_with fail
          go_ret
          exact ⟨_, rfl, (fun h => by cases h), rfl⟩
        case false =>
          cases b9
          case true =>
            go_wp2_with fail
            go_ret
            exact ⟨_, rfl, (fun h => by cases h), rfl⟩
          case false =>
            cases b13
            case true =>
              go_wp2_with fail
              go_ret
              exact ⟨_, rfl, (fun h => by cases h), rfl⟩
            case false =>
              cases b91
              case true =>
                go_wp2_with fail
                go_ret
                exact ⟨_, rfl, (fun h => by cases h), rfl⟩
              case false =>
                cases b93
                case true =>
                  go_wp2_with fail
                  go_ret
                  exact ⟨_, rfl, (fun h => by cases h), rfl⟩
                case false =>
                  cases sec <;> cases b61 <;> cases b35 <;> cases b59 <;> cases bi <;> cases b92
                  all_goals first
                    | (go_wp2_with fail
                       go_roundw
                       case rel => exact ⟨i + 1, by omega, by go_num, Hhnext.out rfl, trivial⟩
                       case measure => simp [intOf]; omega)
                    | (go_wp2_with fail
                       go_ret
                       exact ⟨_, rfl, (fun h => by cases h), rfl⟩)
    · obtain rfl : i = s.size := by omega
      have hz : ¬ ((s.size : Int) < (s.size : Int)) := by omega
      have hW : WordP (bytes s) sec := ⟨fun h => by have := bytes_len s; rw [h] at this; simp at this; omega, by rw [bytes_len]; omega, fun j hj => by
        rw [bytes_len] at hj
        rw [← bytes_get s j hj]
        exact Hhall.out j hj hj⟩
      have HhW := Lib.hid hW
      clear hW
      go_wp2_with fail
      go_ret
      exact .inr ⟨rfl, HhW.out, rfl⟩
set_option maxRecDepth 100000 in
set_option maxHeartbeats 4000000 in
theorem value_calls (s : ByteArray) (hs : s.size ≤ maxLen) (w : World) :
    Calls Try.prog 34 #[.string s] w fun e w' => ∃ b, e = .returned (.bool b) ∧ (b = true → ValP (bytes s)) ∧ w = w' := by
  have hT := fun W => Trim_calls s hs W
  unfold maxLen at hs
  by_cases h60 : 60 < s.size
  · have f1 : decide (60 < s.size) = true := decide_eq_true h60
    have f1' : decide ((60 : Int) < (s.size : Int)) = true := decide_eq_true (by omega)
    have HhT := Lib.hid hT
    clear hT
    go_enter Try.func34, Try.ntmps34
    go_wp2_with fail
    go_ret
    first | exact ⟨_, rfl, (fun h => by cases h), rfl⟩ | exact .inl ⟨rfl, rfl⟩
  have f1 : decide (60 < s.size) = false := decide_eq_false h60
  have f1' : decide ((60 : Int) < (s.size : Int)) = false := decide_eq_false (by omega)
  by_cases hTs : trimL (bytes s) = bytes s
  · rw [hTs, str_bytes] at hT
    by_cases h0 : 0 < s.size
    · have hg1 : decide (0 < s.size) = true := decide_eq_true h0
      have hg2 : decide ((0 : Int) < (s.size : Int)) = true := decide_eq_true (by omega)
      have hp1 : s.size - 1 < s.size := by omega
      have hw1 : IntKind.i64.wrap ((s.size : Int) - 1) = ((s.size - 1 : Nat) : Int) := by
        rw [show ((s.size - 1 : Nat) : Int) = (s.size : Int) - 1 by omega]
        exact IntWalk.i64_in _ (by omega)
      have hz1 : ((s.size - 1 : Nat) : Int) < (s.size : Int) := by omega
      have e92 := u8_eq (s[s.size - 1]'hp1) 92
      rw [show (((92 : UInt8).toNat : Nat) : Int) = 92 from rfl] at e92
      have hlast : (bytes s).getLast? = some (s[s.size - 1]'hp1) := by
        rw [List.getLast?_eq_getElem?, bytes_len, List.getElem?_eq_getElem (by rw [bytes_len]; exact hp1), ← bytes_get s _ hp1]
      cases hb : s[s.size - 1]'hp1 == 92
      · rw [hb] at e92
        have hnl : (bytes s).getLast? ≠ some 92 := by
          rw [hlast]
          intro h
          rw [Option.some.inj h] at hb
          cases hb
        have HhT := Lib.hid hT
        clear hT
        have HhTs := Lib.hid hTs
        clear hTs
        have Hhnl := Lib.hid hnl
        clear hnl
        have Hhb := Lib.hid hb
        clear hb
        have Hhlast := Lib.hid hlast
        clear hlast
        go_enter Try.func34, Try.ntmps34
        go_wp2_with fail
        refine (HhT.out _).mono ?_
        rintro e w1 ⟨rfl, rfl⟩
        go_wp2_with fail
        go_loopw [3] (fun u3 wr => ∃ i : Nat, i ≤ s.size ∧ u3 = .int .i64 (i : Int) ∧ (∀ (j : Nat) (hj : j < s.size), j < i → s[j]'hj ≠ 10) ∧ w = wr) (fun u3 _ => s.size - (intOf u3).toNat)
        case atStart => exact ⟨0, Nat.zero_le _, rfl, fun j _ h => by omega, rfl⟩
        case round =>
          obtain ⟨i, hi, rfl, hall, rfl⟩ := hrel
          have Hhall := Lib.hid hall
          clear hall
          by_cases hlt : i < s.size
          · have hz : (i : Int) < (s.size : Int) := by omega
            have hwi : IntKind.i64.wrap ((i : Int) + 1) = (i : Int) + 1 := IntWalk.i64_in _ (by omega)
            have e10 := u8_eq (s[i]'hlt) 10
            rw [show (((10 : UInt8).toNat : Nat) : Int) = 10 from rfl] at e10
            cases h10 : s[i]'hlt == 10
            · rw [h10] at e10
              have Hh10 := Lib.hid h10
              clear h10
              go_wp2_with fail
              go_roundw
              case rel => exact ⟨i + 1, by omega, by go_num, fun j hj h => by
                by_cases hji : j = i
                · subst hji; exact by have := Hh10.out; simpa using this
                · exact Hhall.out j hj (by omega), trivial⟩
              case measure => simp [intOf]; omega
            · rw [h10] at e10
              have Hh10 := Lib.hid h10
              clear h10
              go_wp2_with fail
              go_ret
              first | exact ⟨_, rfl, (fun h => by cases h), rfl⟩ | exact .inl ⟨rfl, rfl⟩
          · obtain rfl : i = s.size := by omega
            have hz : ¬ ((s.size : Int) < (s.size : Int)) := by omega
            have hV : ValP (bytes s) := ⟨by rw [bytes_len]; omega, HhTs.out, Hhnl.out, fun hm => by
              obtain ⟨j, hj, he⟩ := List.getElem_of_mem hm
              rw [bytes_len] at hj
              exact Hhall.out j hj hj (by rw [bytes_get]; exact he)⟩
            have HhV := Lib.hid hV
            clear hV
            go_wp2_with fail
            go_ret
            first | exact ⟨_, rfl, (fun _ => HhV.out), rfl⟩ | exact .inr ⟨rfl, HhV.out, rfl⟩
      · rw [hb] at e92
        have HhT := Lib.hid hT
        clear hT
        have HhTs := Lib.hid hTs
        clear hTs
        have Hhb := Lib.hid hb
        clear hb
        have Hhlast := Lib.hid hlast
        clear hlast
        go_enter Try.func34, Try.ntmps34
        go_wp2_with fail
        refine (HhT.out _).mono ?_
        rintro e w1 ⟨rfl, rfl⟩
        go_wp2_with fail
        go_ret
        first | exact ⟨_, rfl, (fun h => by cases h), rfl⟩ | exact .inl ⟨rfl, rfl⟩
    · have hg1 : decide (0 < s.size) = false := decide_eq_false h0
      have hg2 : decide ((0 : Int) < (s.size : Int)) = false := decide_eq_false (by omega)
      have hnil : bytes s = [] := List.eq_nil_of_length_eq_zero (by rw [bytes_len]; omega)
      have hnl : (bytes s).getLast? ≠ some 92 := by rw [hnil]; simp
      obtain rfl : s = ⟨#[]⟩ := bytes_inj hnil
      have HhT := Lib.hid hT
      clear hT
      have HhTs := Lib.hid hTs
      clear hTs
      have Hhnl := Lib.hid hnl
      clear hnl
      clear hnil
      go_enter Try.func34, Try.ntmps34
      go_wp2_with fail
      refine (HhT.out _).mono ?_
      rintro e w1 ⟨rfl, rfl⟩
      go_wp2_with fail
      go_loopw [3] (fun u3 wr => u3 = .int .i64 0 ∧ w = wr) (fun u3 _ => (intOf u3).toNat)
      case atStart => exact ⟨rfl, rfl⟩
      case round =>
        obtain ⟨rfl, rfl⟩ := hrel
        go_wp2_with fail
        go_ret
        first | exact ⟨_, rfl, (fun _ => ⟨by simp [bytes], HhTs.out, Hhnl.out, by simp [bytes]⟩), rfl⟩ | exact .inr ⟨rfl, ⟨by simp [bytes], HhTs.out, Hhnl.out, by simp [bytes]⟩, rfl⟩
  · obtain ⟨t, ht⟩ : ∃ t, t = str (trimL (bytes s)) := ⟨_, rfl⟩
    rw [← ht] at hT
    have hne : (t.toList == s.toList) = false := by
      rw [beq_eq_false_iff_ne, ne_eq]
      intro h
      have h2 : t = s := bytes_inj (by unfold bytes; rw [← Lib.toList_data, ← Lib.toList_data]; exact h)
      have h3 := congrArg bytes (h2.symm.trans ht)
      rw [bytes_strX] at h3
      exact hTs h3.symm
    have HhT := Lib.hid hT
    clear hT
    have Hht := Lib.hid ht
    clear ht
    clear hTs
    go_enter Try.func34, Try.ntmps34
    go_wp2_with fail
    refine (HhT.out _).mono ?_
    rintro e w1 ⟨rfl, rfl⟩
    go_wp2_with fail
    go_ret
    first | exact ⟨_, rfl, (fun h => by cases h), rfl⟩ | exact .inl ⟨rfl, rfl⟩
end L12
end Go.Proofs.Yteheegkdcphapaa
