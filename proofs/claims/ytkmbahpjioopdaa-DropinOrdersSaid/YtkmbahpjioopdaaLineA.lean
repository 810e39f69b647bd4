/- Layer 12: blanks, trimmed texts, comments: plain, and the walks. -/
import Derived.Test.YtkmbahpjioopdaaApp
import Derived.Test.YtkmbahpjioopdaaKept
namespace Go.Proofs.Ytkmbahpjioopdaa
open Go.RowKit V
namespace L12
def blankB (c : Nat) : Bool := c == 32 || c == 9 || c == 13
def isB (c : UInt8) : Bool := blankB c.toNat
/-- a text without blanks at both ends -/
def trimL (l : List UInt8) : List UInt8 := ((l.dropWhile isB).reverse.dropWhile isB).reverse
abbrev bytes (s : ByteArray) : List UInt8 := s.data.toList
abbrev str (l : List UInt8) : ByteArray := ⟨l.toArray⟩
theorem bytes_len (s : ByteArray) : (bytes s).length = s.size := rfl
theorem str_size (l : List UInt8) : (str l).size = l.length := rfl
theorem bytes_inj {s t : ByteArray} (h : bytes s = bytes t) : s = t := by
  cases s; cases t; simp [bytes] at h; rw [h]
theorem str_bytes (s : ByteArray) : str (bytes s) = s := bytes_inj (by simp [bytes])
theorem bytes_ext (t : ByteArray) (a b : Nat) : bytes (t.extract a b) = ((bytes t).drop a).take (b - a) := by
  simp [bytes, ByteArray.data_extract, Array.toList_extract]
theorem bytes_get (t : ByteArray) (i : Nat) (h : i < t.size) : t[i]'h = (bytes t)[i]'(by rw [bytes_len]; exact h) := by rfl
theorem bytes_cons (t : ByteArray) (h : 0 < t.size) : bytes t = t[0]'h :: bytes (t.extract 1 t.size) := by
  rw [bytes_ext, bytes_get, List.take_of_length_le (by rw [List.length_drop, bytes_len]; omega)]
  have := List.drop_eq_getElem_cons (l := bytes t) (i := 0) (by rw [bytes_len]; exact h)
  rw [List.drop_zero] at this
  exact this
theorem bytes_snoc (t : ByteArray) (h : 0 < t.size) : bytes t = bytes (t.extract 0 (t.size - 1)) ++ [t[t.size - 1]'(by omega)] := by
  rw [bytes_ext, bytes_get, List.drop_zero, Nat.sub_zero]
  have := List.take_succ_eq_append_getElem (l := bytes t) (i := t.size - 1) (by rw [bytes_len]; omega)
  rw [← this, List.take_of_length_le (by rw [bytes_len]; omega)]
theorem ext_size (t : ByteArray) (a b : Nat) (hb : b ≤ t.size) : (t.extract a b).size = b - a := by
  rw [← bytes_len, bytes_ext, List.length_take, List.length_drop, bytes_len]; omega
set_option maxHeartbeats 400000 in
theorem blank_calls (c : Nat) (w : World) : Calls Try.prog 69 #[.int .u8 (c : Int)] w fun e w' => e = .returned (.bool (blankB c)) ∧ w = w' := by
  unfold blankB
  have e1 : ((c : Int) == 32) = (c == 32) := by rw [Bool.eq_iff_iff]; simp; omega
  have e2 : ((c : Int) == 9) = (c == 9) := by rw [Bool.eq_iff_iff]; simp; omega
  have e3 : ((c : Int) == 13) = (c == 13) := by rw [Bool.eq_iff_iff]; simp; omega
  generalize (c == 32) = b1 at *
  generalize (c == 9) = b2 at *
  generalize (c == 13) = b3 at *
  cases b1 <;> cases b2 <;> cases b3
  all_goals
    go_enter Try.func69, Try.ntmps69
    go_wp2
    go_ret
    exact ⟨rfl, rfl⟩
def strLen : Value → Nat
  | .string t => t.size
  | _ => 0
set_option maxHeartbeats 400000 in
theorem Trim_calls (s : ByteArray) (hs : s.size ≤ maxLen) (w : World) : Calls Try.prog 50 #[.string s] w fun e w' => e = .returned (.string (str (trimL (bytes s)))) ∧ w = w' := by
  have hB := fun c W => blank_calls c W
  unfold maxLen at hs
  obtain ⟨L, hL⟩ : ∃ L, L = (bytes s).dropWhile isB := ⟨_, rfl⟩
  obtain ⟨R, hR⟩ : ∃ R, R = L.reverse.dropWhile isB := ⟨_, rfl⟩
  have hT : trimL (bytes s) = R.reverse := by rw [hR, hL]; rfl
  rw [hT]
  have HhB := Lib.hid hB
  clear hB
  have HhT := Lib.hid hT
  clear hT
  have HhR := Lib.hid hR
  clear hR
  have HhL := Lib.hid hL
  clear hL
  go_enter Try.func50, Try.ntmps50
  go_wp2
  go_loopw [0] (fun u wr => ∃ t : ByteArray, u = .string t ∧ t.size ≤ s.size ∧ (bytes t).dropWhile isB = L ∧ w = wr) (fun u _ => strLen u)
  case atStart => exact ⟨s, rfl, Nat.le_refl _, HhL.out.symm, rfl⟩
  case round =>
    obtain ⟨t, rfl, hts, htl, rfl⟩ := hrel
    by_cases hgo : ∃ hp : 0 < t.size, blankB (t[0]'hp).toNat = true
    · obtain ⟨hp, hb⟩ := hgo
      have hc := HhB.out (t[0]'hp).toNat
      have htl2 : (bytes (t.extract 1 t.size)).dropWhile isB = L := by
        rw [← htl, bytes_cons t hp, List.dropWhile_cons_of_pos (by exact hb)]
      have hsz := ext_size t 1 t.size (Nat.le_refl _)
      rw [hb] at hc
      have Hhb := Lib.hid hb
      clear hb
      have Hhc := Lib.hid hc
      clear hc
      have Hhtl := Lib.hid htl
      clear htl
      have Hhtl2 := Lib.hid htl2
      clear htl2
      have Hhsz := Lib.hid hsz
      clear hsz
      go_wp2_with fail
      refine (Hhc.out _).mono ?_
      rintro e w1 ⟨rfl, rfl⟩
      go_wp2_with fail
      go_roundw
      case rel => exact ⟨_, rfl, by rw [Hhsz.out]; omega, Hhtl2.out, trivial⟩
      case measure => show (t.extract 1 t.size).size < t.size; rw [Hhsz.out]; omega
    · have htl2 : bytes t = L := by
        rw [← htl]
        by_cases hp : 0 < t.size
        · have hn : ¬ blankB (t[0]'hp).toNat = true := fun h => hgo ⟨hp, h⟩
          rw [bytes_cons t hp, List.dropWhile_cons_of_neg (by exact hn)]
        · have : bytes t = [] := List.eq_nil_of_length_eq_zero (by rw [bytes_len]; omega)
          rw [this]; rfl
      have Hhtl := Lib.hid htl
      clear htl
      have Hhtl2 := Lib.hid htl2
      clear htl2
      have hA : (t.size = 0) ∨ ∃ hp : 0 < t.size, blankB (t[0]'hp).toNat = false := by
        by_cases hp : 0 < t.size
        · exact .inr ⟨hp, by rw [Bool.eq_false_iff]; exact fun h => hgo ⟨hp, h⟩⟩
        · exact .inl (by omega)
      clear hgo
      rcases hA with hp | ⟨hp, hb⟩
      · have hz : bytes t = [] := List.eq_nil_of_length_eq_zero (by rw [bytes_len]; omega)
        have ht : t = str R.reverse := by
          rw [HhR.out, ← Hhtl2.out, hz]
          exact bytes_inj hz
        have HT := Lib.hid ht
        clear hz ht
        go_wp2_with fail
        go_loopw [0] (fun u wr => u = .string t ∧ w = wr) (fun u _ => 0)
        case atStart => exact ⟨rfl, rfl⟩
        case round =>
          obtain ⟨rfl, rfl⟩ := hrel
          go_wp2_with fail
          go_ret
          exact ⟨by rw [← HT.out]; rfl, rfl⟩
      · have hc := HhB.out (t[0]'hp).toNat
        rw [hb] at hc
        have Hhb := Lib.hid hb
        clear hb
        have Hhc := Lib.hid hc
        clear hc
        go_wp2_with fail
        refine (Hhc.out _).mono ?_
        rintro e w1 ⟨rfl, rfl⟩
        go_wp2_with fail
        go_loopw [0] (fun u wr => ∃ t : ByteArray, u = .string t ∧ t.size ≤ s.size ∧ (bytes t).reverse.dropWhile isB = R ∧ w = wr) (fun u _ => strLen u)
        case atStart => exact ⟨t, rfl, hts, by rw [HhR.out, ← Hhtl2.out], rfl⟩
        case round =>
          obtain ⟨t2, rfl, hts2, htr, rfl⟩ := hrel
          by_cases hp2 : 0 < t2.size
          · have hlt : t2.size - 1 < t2.size := by omega
            have hc2 := HhB.out (t2[t2.size - 1]'hlt).toNat
            have hsz := ext_size t2 0 (t2.size - 1) (by omega)
            have hsn := bytes_snoc t2 hp2
            have hrv : (bytes t2).reverse = t2[t2.size - 1]'hlt :: (bytes (t2.extract 0 (t2.size - 1))).reverse := by
              rw [hsn, List.reverse_append]; rfl
            rw [hrv] at htr
            cases hb2 : blankB (t2[t2.size - 1]'hlt).toNat
            all_goals
              rw [hb2] at hc2
            · rw [List.dropWhile_cons_of_neg (by show ¬ blankB _ = true; rw [hb2]; simp), ← hrv] at htr
              have Hhb2 := Lib.hid hb2
              clear hb2
              have Hhc2 := Lib.hid hc2
              clear hc2
              have Hhtr := Lib.hid htr
              clear htr
              have Hhsz := Lib.hid hsz
              clear hsz
              have Hhsn := Lib.hid hsn
              clear hsn
              have Hhrv := Lib.hid hrv
              clear hrv
              go_wp2_with fail
              refine (Hhc2.out _).mono ?_
              rintro e w1 ⟨rfl, rfl⟩
              go_wp2_with fail
              go_ret
              exact ⟨by rw [← Hhtr.out, List.reverse_reverse, str_bytes]; rfl, rfl⟩
            · rw [List.dropWhile_cons_of_pos (by show blankB _ = true; exact hb2)] at htr
              have Hhb2 := Lib.hid hb2
              clear hb2
              have Hhc2 := Lib.hid hc2
              clear hc2
              have Hhtr := Lib.hid htr
              clear htr
              have Hhsz := Lib.hid hsz
              clear hsz
              have Hhsn := Lib.hid hsn
              clear hsn
              have Hhrv := Lib.hid hrv
              clear hrv
              go_wp2_with fail
              refine (Hhc2.out _).mono ?_
              rintro e w1 ⟨rfl, rfl⟩
              go_wp2_with fail
              go_roundw
              case rel => exact ⟨_, rfl, by rw [Hhsz.out]; omega, Hhtr.out, trivial⟩
              case measure => show (t2.extract 0 (t2.size - 1)).size < t2.size; rw [Hhsz.out]; omega
          · have hz : bytes t2 = [] := List.eq_nil_of_length_eq_zero (by rw [bytes_len]; omega)
            have ht : t2 = str R.reverse := by
              rw [hz] at htr
              rw [← htr]
              exact bytes_inj hz
            have HT := Lib.hid ht
            clear hz ht htr
            go_wp2_with fail
            go_ret
            exact ⟨by rw [← HT.out]; rfl, rfl⟩
end L12
end Go.Proofs.Ytkmbahpjioopdaa
