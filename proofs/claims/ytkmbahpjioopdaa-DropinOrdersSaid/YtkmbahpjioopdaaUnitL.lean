/- Layer 13: the walk of the reference's Section. -/
import Derived.Test.YtkmbahpjioopdaaUnitK
namespace Go.Proofs.Ytkmbahpjioopdaa
open Go.RowKit Go.Shelf V
attribute [local go_sem] Oper.semAt_some Option.isSome_some
namespace L12
theorem u8_eq (x y : UInt8) : ((x.toNat : Int) == (y.toNat : Int)) = (x == y) := by
  rw [Bool.eq_iff_iff, beq_iff_eq, beq_iff_eq, ← UInt8.toNat_inj]; omega
theorem refSec_short {l : List UInt8} (h : l.length < 3) : refSec l = ([], false) := by
  unfold refSec
  split
  · rfl
  · rename_i x r
    rw [List.length_cons] at h
    rw [if_neg (fun hh => by omega)]
/-- the same over the string's places -/
theorem refSec_at (s : ByteArray) (h3 : 3 ≤ s.size) : refSec (bytes s) = if s[0]'(by omega) = 91 ∧ s[s.size - 1]'(by omega) = 93 ∧ (bytes (s.extract 1 (s.size - 1))).any (fun c => c == 91 || c == 93) = false then (bytes (s.extract 1 (s.size - 1)), true) else ([], false) := by
  have hc := bytes_cons s (by omega)
  have hn := bytes_snoc s (by omega)
  have hl : (bytes (s.extract 1 s.size)).length = s.size - 1 := by rw [bytes_len, ext_size s 1 s.size (Nat.le_refl _)]
  have hd : (bytes (s.extract 1 s.size)).dropLast = bytes (s.extract 1 (s.size - 1)) := by
    rw [List.dropLast_eq_take, hl, bytes_ext, bytes_ext, List.take_take]
    congr 1
    omega
  have hg : (bytes (s.extract 1 s.size)).getLast? = some (s[s.size - 1]'(by omega)) := by
    have h1 : (bytes s).getLast? = some (s[s.size - 1]'(by omega)) := by rw [hn]; simp
    rw [hc] at h1
    rw [← h1]
    cases hr : bytes (s.extract 1 s.size) with
    | nil => rw [hr] at hl; simp at hl; omega
    | cons y t => simp
  rw [hc]
  unfold refSec
  dsimp only
  rw [hg, hd, hl]
  congr 1
  rw [eq_iff_iff]
  constructor
  · rintro ⟨a, _, b, c⟩
    exact ⟨a, Option.some.inj b, c⟩
  · rintro ⟨a, b, c⟩
    exact ⟨a, by omega, by rw [b], c⟩
set_option maxRecDepth 100000 in
set_option maxHeartbeats 4000000 in
theorem refSection_calls (s : ByteArray) (hs : s.size ≤ 2000000000) (w : World) :
    Calls Try.prog 46 #[.string s] w fun e w' => e = .returned (secV (sectionL (bytes s))) ∧ w = w' := by
  rw [sectionL_ref]
  by_cases h3 : s.size < 3
  · rw [refSec_short (by rw [bytes_len]; exact h3)]
    have hd : decide (s.size < 3) = true := decide_eq_true h3
    have hd2 : decide ((s.size : Int) < 3) = true := decide_eq_true (by omega)
    go_enter Try.func46, Try.ntmps46
    go_wp2_with fail
    go_ret2
    exact ⟨rfl, rfl⟩
  · have hd : decide (s.size < 3) = false := decide_eq_false h3
    have hd2 : decide ((s.size : Int) < 3) = false := decide_eq_false (by omega)
    have hp0 : 0 < s.size := by omega
    have hp1 : s.size - 1 < s.size := by omega
    have hw1 : IntKind.i64.wrap ((s.size : Int) - 1) = ((s.size - 1 : Nat) : Int) := by
      rw [show ((s.size - 1 : Nat) : Int) = (s.size : Int) - 1 by omega]
      exact IntWalk.i64_in _ (by omega)
    have e1 : (((s[0]'hp0).toNat : Int) != 91) = !(s[0]'hp0 == 91) := by
      rw [show ((91 : Int)) = (((91 : UInt8).toNat : Nat) : Int) from rfl]
      show (!_) = _
      rw [u8_eq]
    have e2 : (((s[s.size - 1]'hp1).toNat : Int) != 93) = !(s[s.size - 1]'hp1 == 93) := by
      rw [show ((93 : Int)) = (((93 : UInt8).toNat : Nat) : Int) from rfl]
      show (!_) = _
      rw [u8_eq]
    obtain ⟨res, hres⟩ : ∃ res, res = secV (refSec (bytes s)) := ⟨_, rfl⟩
    rw [← hres]
    cases hb1 : s[0]'hp0 == 91
    · rw [hb1] at e1
      go_enter Try.func46, Try.ntmps46
      go_wp2_with fail
      go_ret2
      exact ⟨by rw [hres, refSec_at s (by omega), if_neg (fun h => by rw [h.1] at hb1; simp at hb1)]; rfl, rfl⟩
    · rw [hb1] at e1
      have hx0 : s[0]'hp0 = 91 := by simpa using hb1
      cases hb2 : s[s.size - 1]'hp1 == 93
      · rw [hb2] at e2
        go_enter Try.func46, Try.ntmps46
        go_wp2_with fail
        go_ret2
        exact ⟨by rw [hres, refSec_at s (by omega), if_neg (fun h => by rw [h.2.1] at hb2; simp at hb2)]; rfl, rfl⟩
      · rw [hb2] at e2
        have hx1 : s[s.size - 1]'hp1 = 93 := by simpa using hb2
        have hrs : res = secV (if (bytes (s.extract 1 (s.size - 1))).any (fun c => c == 91 || c == 93) = false then (bytes (s.extract 1 (s.size - 1)), true) else ([], false)) := by
          rw [hres, refSec_at s (by omega)]
          congr 1
          by_cases ha : (bytes (s.extract 1 (s.size - 1))).any (fun c => c == 91 || c == 93) = false
          · rw [if_pos ⟨hx0, hx1, ha⟩, if_pos ha]
          · rw [if_neg (fun h => ha h.2.2), if_neg ha]
        have hget : ∀ (k : Nat) (hk : k < s.size), 1 ≤ k → k < s.size - 1 → s[k]'hk ∈ bytes (s.extract 1 (s.size - 1)) := fun k hk h1 h2 => by
          rw [bytes_ext, bytes_get, List.mem_iff_getElem?]
          refine ⟨k - 1, ?_⟩
          rw [List.getElem?_take_of_lt (by omega), List.getElem?_drop, show 1 + (k - 1) = k by omega, List.getElem?_eq_getElem (by rw [bytes_len]; exact hk)]
        have Hhres := Lib.hid hres
        clear hres
        have Hhrs := Lib.hid hrs
        clear hrs
        have Hhget := Lib.hid hget
        clear hget
        clear hx0 hx1 hb1 hb2
        go_enter Try.func46, Try.ntmps46
        go_wp2_with fail
        go_loopw [4] (fun i wr => ∃ k : Nat, 1 ≤ k ∧ k ≤ s.size - 1 ∧ i = .int .i64 (k : Int) ∧ (∀ (j : Nat) (hj : j < s.size), 1 ≤ j → j < k → (s[j]'hj == 91 || s[j]'hj == 93) = false) ∧ w = wr) (fun i _ => s.size - (intOf i).toNat)
        case atStart => exact ⟨1, Nat.le_refl _, by omega, rfl, fun j _ h1 h2 => by omega, rfl⟩
        case round =>
          obtain ⟨k, hk1, hk2, rfl, hall, rfl⟩ := hrel
          have Hhall := Lib.hid hall
          clear hall
          by_cases hlt : k < s.size - 1
          · have hks : k < s.size := by omega
            have hz : (k : Int) < ((s.size - 1 : Nat) : Int) := by omega
            have hwk : IntKind.i64.wrap ((k : Int) + 1) = (k : Int) + 1 := IntWalk.i64_in _ (by omega)
            have hm := Hhget.out k hks hk1 hlt
            have e3 := u8_eq (s[k]'hks) 91
            have e4 := u8_eq (s[k]'hks) 93
            rw [show (((91 : UInt8).toNat : Nat) : Int) = 91 from rfl] at e3
            rw [show (((93 : UInt8).toNat : Nat) : Int) = 93 from rfl] at e4
            cases h9 : (s[k]'hks == 91 || s[k]'hks == 93)
            · have h91 : (s[k]'hks == 91) = false := by rw [Bool.or_eq_false_iff] at h9; exact h9.1
              have h93 : (s[k]'hks == 93) = false := by rw [Bool.or_eq_false_iff] at h9; exact h9.2
              rw [h91] at e3
              rw [h93] at e4
              have Hh9 := Lib.hid h9
              clear h9
              clear hm h91 h93
              go_wp2_with fail
              go_roundw
              case rel => exact ⟨k + 1, by omega, by omega, by go_num, fun j hj a b => by
                by_cases hjk : j = k
                · subst hjk; exact Hh9.out
                · exact Hhall.out j hj a (by omega), trivial⟩
              case measure => simp [intOf]; omega
            · have hf : res = secV ([], false) := by
                rw [Hhrs.out, if_neg]
                intro h
                have := List.any_eq_false.1 h _ hm
                rw [h9] at this
                exact this rfl
              have Hhf := Lib.hid hf
              clear hf
              rw [Bool.or_eq_true] at h9
              by_cases h91 : (s[k]'hks == 91) = true
              · rw [h91] at e3
                clear hm h9 h91 e4
                go_wp2_with fail
                go_ret2
                exact ⟨by rw [Hhf.out]; rfl, rfl⟩
              · have h93 := h9.resolve_left h91
                rw [Bool.eq_false_iff.2 h91] at e3
                rw [h93] at e4
                clear hm h9 h91 h93
                go_wp2_with fail
                go_ret2
                exact ⟨by rw [Hhf.out]; rfl, rfl⟩
          · have hke : k = s.size - 1 := by omega
            have hz : ¬ ((k : Int) < ((s.size - 1 : Nat) : Int)) := by omega
            have hno : (bytes (s.extract 1 (s.size - 1))).any (fun c => c == 91 || c == 93) = false := by
              rw [List.any_eq_false]
              intro c hc
              rw [bytes_ext, List.mem_iff_getElem?] at hc
              obtain ⟨i, hi⟩ := hc
              by_cases hil : i < s.size - 1 - 1
              · rw [List.getElem?_take_of_lt hil, List.getElem?_drop] at hi
                obtain ⟨hh, he⟩ := List.getElem?_eq_some_iff.1 hi
                rw [bytes_len] at hh
                have := Hhall.out (1 + i) hh (by omega) (by omega)
                rw [bytes_get, he] at this
                rw [this]; simp
              · rw [List.getElem?_take_eq_none (by omega)] at hi
                cases hi
            have hf : res = secV (bytes (s.extract 1 (s.size - 1)), true) := by
              rw [Hhrs.out, if_pos hno]
            have hst : str (bytes (s.extract 1 (s.size - 1))) = s.extract 1 (s.size - 1) := str_bytes _
            have hq1 : (1 : Int) ≤ ((s.size - 1 : Nat) : Int) := by omega
            have hq2 : ((s.size - 1 : Nat) : Int) ≤ (s.size : Int) := by omega
            unfold secV at hf
            rw [hst] at hf
            have Hhf := Lib.hid hf
            clear hf
            have Hhst := Lib.hid hst
            clear hst
            clear hno hke
            go_wp2_with fail
            go_ret2
            exact ⟨by rw [Hhf.out]; rfl, rfl⟩
end L12
end Go.Proofs.Ytkmbahpjioopdaa
