/- Layer 13: the walks of Section and Assignment. -/
import Derived.Test.YtkmbahpjioopdaaUnitB
namespace Go.Proofs.Ytkmbahpjioopdaa
open Go.RowKit Go.Shelf V
attribute [local go_sem] Oper.semAt_some Option.isSome_some
namespace L12
theorem br_ascii : asciiL (bytes ⟨#[91, 93]⟩) := by intro b hb; simp [bytes] at hb; rcases hb with rfl | rfl <;> decide
theorem bl_ascii : asciiL (bytes ⟨#[32, 9, 13]⟩) := by intro b hb; simp [bytes] at hb; rcases hb with rfl | rfl | rfl <;> decide
theorem containsRune_calls (c : UInt8) (w : World) :
    Calls Try.prog 75 #[.string ⟨#[32, 9, 13]⟩, .int .i32 (c.toNat : Int)] w fun e w' => e = .returned (.bool (isB c)) ∧ Ext w w' := by
  have hB : isB c = (bytes ⟨#[32, 9, 13]⟩).contains c := by
    unfold isB blankB
    rw [Bool.eq_iff_iff]
    simp [bytes, ← UInt8.toNat_inj, or_assoc]
  have hlt := c.toNat_lt
  by_cases h : c.toNat < 128
  · refine (Try.strings_ContainsRune_ascii ⟨#[32, 9, 13]⟩ (c.toNat : Int) w (by omega) (by omega)).mono ?_
    rintro e w' ⟨rfl, rfl⟩
    rw [show ((c.toNat : Int)).toNat.toUInt8 = c from by simp, ← Lib.contains_iff_indexByte, hB]
    exact ⟨rfl, Ext.refl _⟩
  · have hI := fun W => idxRune_high ⟨#[32, 9, 13]⟩ (by decide) bl_ascii (c.toNat : Int) (by omega) (by omega) W
    have hF : isB c = false := by
      rw [hB, Bool.eq_false_iff]
      intro hm
      rw [List.contains_iff_mem] at hm
      have := bl_ascii c hm
      omega
    rw [hF]
    have HhI := Lib.hid hI
    clear hI
    clear hB hF
    go_enter Try.func75, Try.ntmps75
    go_wp2_with fail
    refine (HhI.out _).mono ?_
    rintro e w1 ⟨rfl, hx⟩
    go_wp2_with fail
    go_ret
    exact ⟨rfl, hx⟩
def sectionL (l : List UInt8) : List UInt8 × Bool :=
  if Lib.hasPrefix l [91] = false then ([], false)
  else if Lib.hasSuffix (Lib.trimPrefix l [91]) [93] = false then ([], false)
  else if Lib.trimSuffix (Lib.trimPrefix l [91]) [93] = [] then ([], false)
  else if Lib.containsAny (Lib.trimSuffix (Lib.trimPrefix l [91]) [93]) [91, 93] = true then ([], false)
  else (Lib.trimSuffix (Lib.trimPrefix l [91]) [93], true)
theorem trimPrefix_len (l p : List UInt8) : (Lib.trimPrefix l p).length ≤ l.length := by
  unfold Lib.trimPrefix; split
  · rw [List.length_drop]; omega
  · exact Nat.le_refl _
def secV (r : List UInt8 × Bool) : Value := .tuple #[.string (str r.1), .bool r.2]
set_option maxRecDepth 100000 in
set_option maxHeartbeats 2000000 in
theorem Section_calls (s : ByteArray) (hs : s.size ≤ 2000000000) (w : World) :
    Calls Try.prog 54 #[.string s] w fun e w' => e = .returned (secV (sectionL (bytes s))) ∧ Ext w w' := by
  have hP := fun W => Try.strings_CutPrefix s ⟨#[91]⟩ W
  have hl1 := trimPrefix_len (bytes s) [91]
  rw [bytes_len] at hl1
  obtain ⟨p, hp⟩ : ∃ p, p = Lib.trimPrefix (bytes s) [91] := ⟨_, rfl⟩
  have hS := fun W => Try.strings_CutSuffix (str p) ⟨#[93]⟩ W (by rw [str_size, hp]; omega)
  obtain ⟨q, hq⟩ : ∃ q, q = Lib.trimSuffix p [93] := ⟨_, rfl⟩
  have hl2 := trimSuffix_len p [93]
  have hA := fun W => containsAny_calls (str q) ⟨#[91, 93]⟩ (by decide) (by decide) br_ascii (by rw [str_size, hq]; rw [hp] at hl2 ⊢; omega) W
  have hL : sectionL (bytes s) = if Lib.hasPrefix (bytes s) [91] = false then ([], false) else if Lib.hasSuffix p [93] = false then ([], false) else if q = [] then ([], false) else if Lib.containsAny q [91, 93] = true then ([], false) else (q, true) := by
    rw [hq, hp]; rfl
  rw [show s.data.toList = bytes s from rfl, show (⟨#[91]⟩ : ByteArray).data.toList = [91] from rfl, ← hp] at hP
  rw [show (str p).data.toList = p from by simp, show (⟨#[93]⟩ : ByteArray).data.toList = [93] from rfl, ← hq] at hS
  rw [show bytes (str q) = q from by simp [bytes], show bytes (⟨#[91, 93]⟩ : ByteArray) = [91, 93] from rfl] at hA
  rw [hL]
  generalize Lib.hasPrefix (bytes s) [91] = b1 at *
  generalize Lib.hasSuffix p [93] = b2 at *
  generalize Lib.containsAny q [91, 93] = b3 at *
  clear hl1 hl2 hL
  have HhP := Lib.hid hP
  clear hP
  have HhS := Lib.hid hS
  clear hS
  have HhA := Lib.hid hA
  clear hA
  have Hhp := Lib.hid hp
  clear hp
  have Hhq := Lib.hid hq
  clear hq
  by_cases hq0 : q = []
  · subst hq0
    cases b1 <;> cases b2
    all_goals
      go_enter Try.func54, Try.ntmps54
      go_wp2_with fail
      refine (HhP.out _).mono ?_
      rintro e w1 ⟨rfl, rfl⟩
      go_wp2_with fail
      refine (HhS.out _).mono ?_
      rintro e w1 ⟨rfl, rfl⟩
      go_wp2_with fail
      go_ret2
      exact ⟨rfl, Ext.refl _⟩
  · have hn : (!q.isEmpty) = true := by
      cases q with
      | nil => exact absurd rfl hq0
      | cons x r => rfl
    have hn2 : q.isEmpty = false := by
      cases q with
      | nil => exact absurd rfl hq0
      | cons x r => rfl
    cases b1 <;> cases b2
    case true.true =>
      rw [if_neg (by simp), if_neg (by simp), if_neg hq0]
      cases b3
      all_goals
        go_enter Try.func54, Try.ntmps54
        go_wp2_with fail
        refine (HhP.out _).mono ?_
        rintro e w1 ⟨rfl, rfl⟩
        go_wp2_with fail
        refine (HhS.out _).mono ?_
        rintro e w1 ⟨rfl, rfl⟩
        go_wp2_with fail
        refine (HhA.out _).mono ?_
        rintro e w2 ⟨rfl, hx⟩
        go_wp2_with fail
        go_ret2
        exact ⟨rfl, hx⟩
    all_goals
      go_enter Try.func54, Try.ntmps54
      go_wp2_with fail
      refine (HhP.out _).mono ?_
      rintro e w1 ⟨rfl, rfl⟩
      go_wp2_with fail
      refine (HhS.out _).mono ?_
      rintro e w1 ⟨rfl, rfl⟩
      go_wp2_with fail
      go_ret2
      exact ⟨rfl, Ext.refl _⟩
def rtrim (l : List UInt8) : List UInt8 := (l.reverse.dropWhile isB).reverse
def assignL (l : List UInt8) : List UInt8 × List UInt8 × Bool :=
  if l.contains 61 = false then ([], [], false)
  else if Lib.hasPrefix l [91] = true then ([], [], false)
  else if rtrim (hd1 61 l) = [] then ([], [], false)
  else if Lib.containsAny (rtrim (hd1 61 l)) [32, 9, 13] = true then ([], [], false)
  else (rtrim (hd1 61 l), trimL (tl1 61 l), true)
def asgV (r : List UInt8 × List UInt8 × Bool) : Value := .tuple #[.string (str r.1), .string (str r.2.1), .bool r.2.2]
set_option maxRecDepth 100000 in
set_option maxHeartbeats 4000000 in
theorem Assignment_calls (s : ByteArray) (hs : s.size ≤ 2000000000) (w : World) :
    Calls Try.prog 55 #[.string s] w fun e w' => e = .returned (asgV (assignL (bytes s))) ∧ Ext w w' := by
  have hC := fun W => Cut_calls s 61 (by unfold maxLen; omega) W
  have hP := fun W => Try.strings_HasPrefix s ⟨#[91]⟩ W
  rw [show s.data.toList = bytes s from rfl, show (⟨#[91]⟩ : ByteArray).data.toList = [91] from rfl] at hP
  obtain ⟨k0, hk0⟩ : ∃ k0, k0 = hd1 61 (bytes s) := ⟨_, rfl⟩
  obtain ⟨v0, hv0⟩ : ∃ v0, v0 = tl1 61 (bytes s) := ⟨_, rfl⟩
  obtain ⟨k, hk⟩ : ∃ k, k = rtrim k0 := ⟨_, rfl⟩
  have hkl : k0.length ≤ 2000000000 := by rw [hk0]; have := hd1_len 61 (bytes s); rw [bytes_len] at this; omega
  have hvl : v0.length ≤ 2000000000 := by rw [hv0, tl1_len, bytes_len]; omega
  have hT := fun W => Trim_calls (str v0) (by rw [str_size]; unfold maxLen; omega) W
  rw [show bytes (str v0) = v0 from by simp [bytes]] at hT
  have hL : assignL (bytes s) = if (bytes s).contains 61 = false then ([], [], false) else if Lib.hasPrefix (bytes s) [91] = true then ([], [], false) else if k = [] then ([], [], false)
      else if Lib.containsAny k [32, 9, 13] = true then ([], [], false) else (k, trimL v0, true) := by
    rw [hk, hv0, hk0]; rfl
  rw [hL]
  unfold cutT at hC
  rw [← hk0, ← hv0] at hC
  have hR := fun (c : UInt8) W => containsRune_calls c W
  have hA : ∀ (t : ByteArray), t.size ≤ 2000000000 → ∀ W, Calls Try.prog 74 #[.string t, .string ⟨#[32, 9, 13]⟩] W fun e w' => e = .returned (.bool (Lib.containsAny (bytes t) [32, 9, 13])) ∧ Ext W w' := fun t ht W => containsAny_calls t ⟨#[32, 9, 13]⟩ (by decide) (by decide) bl_ascii (by omega) W
  generalize hb1 : (bytes s).contains 61 = b1 at *
  generalize hb2 : Lib.hasPrefix (bytes s) [91] = b2 at *
  obtain ⟨R, hRR⟩ : ∃ R, R = k0.reverse.dropWhile isB := ⟨_, rfl⟩
  have hkR : k = R.reverse := by rw [hk, hRR]; rfl
  clear hL hb1 hb2 hk0 hv0 hk
  obtain ⟨res, hres⟩ : ∃ res, res = asgV (if b1 = false then ([], [], false) else if b2 = true then ([], [], false) else if k = [] then ([], [], false) else if Lib.containsAny k [32, 9, 13] = true then ([], [], false) else (k, trimL v0, true)) := ⟨_, rfl⟩
  rw [← hres]
  have Hhres := Lib.hid hres
  clear hres
  have HhP := Lib.hid hP
  clear hP
  have HhC := Lib.hid hC
  clear hC
  have HhT := Lib.hid hT
  clear hT
  have HhR := Lib.hid hR
  clear hR
  have HhA := Lib.hid hA
  clear hA
  have HhkR := Lib.hid hkR
  clear hkR
  have HhRR := Lib.hid hRR
  clear hRR
  go_enter Try.func55, Try.ntmps55
  go_wp2_with fail
  refine (HhC.out _).mono ?_
  rintro e w1 ⟨rfl, hx1⟩
  have Hhx1 := Lib.hid hx1
  clear hx1
  go_wp2_with fail
  go_loopw [2] (fun u wr => ∃ W : World, W = wr ∧ ∃ t : ByteArray, u = .string t ∧ t.size ≤ k0.length ∧ (bytes t).reverse.dropWhile isB = R ∧ Ext w W) (fun u _ => strLen u)
  case atStart => exact ⟨_, rfl, str k0, rfl, Nat.le_refl _, by rw [HhRR.out, show bytes (str k0) = k0 from by simp [bytes]], Hhx1.out⟩
  case round =>
    obtain ⟨W, rfl, t, rfl, hts, htr, hx⟩ := hrel
    have Hhx := Lib.hid hx
    clear hx
    by_cases hp : 0 < t.size
    · have hlt : t.size - 1 < t.size := by omega
      have hc := HhR.out (t[t.size - 1]'hlt)
      have hsz := ext_size t 0 (t.size - 1) (by omega)
      have hsn := bytes_snoc t hp
      have hw32 : wrap32 ((t[t.size - 1]'hlt).toNat : Int) = ((t[t.size - 1]'hlt).toNat : Int) := by
        have := (t[t.size - 1]'hlt).toNat_lt
        unfold wrap32; first | omega | (split <;> omega)
      have hrv : (bytes t).reverse = t[t.size - 1]'hlt :: (bytes (t.extract 0 (t.size - 1))).reverse := by
        rw [hsn, List.reverse_append]; rfl
      rw [hrv] at htr
      have hne : t.toList.isEmpty = false := by
        rw [Lib.toList_data]
        cases h : t.data.toList with
        | nil => have := Lib.size_eq t; rw [h, List.length_nil] at this; omega
        | cons _ _ => rfl
      cases hb : isB (t[t.size - 1]'hlt)
      all_goals
        rw [hb] at hc
      · rw [List.dropWhile_cons_of_neg (by rw [hb]; simp), ← hrv] at htr
        have hkt : k = bytes t := by rw [HhkR.out, ← htr, List.reverse_reverse]
        have hk0 : k ≠ [] := fun e => by rw [e] at hkt; have := bytes_len t; rw [← hkt] at this; simp at this; omega
        have hAt := HhA.out t (by omega)
        rw [← hkt] at hAt
        have hrs := Hhres.out
        rw [if_neg hk0] at hrs
        have htk : Value.string t = Value.string (str k) := by rw [hkt, str_bytes]
        generalize Lib.containsAny k [32, 9, 13] = b3 at *
        have Hhtk := Lib.hid htk
        clear htk
        have Hhkt := Lib.hid hkt
        clear hkt
        have Hhrs := Lib.hid hrs
        clear hrs
        have HhAt := Lib.hid hAt
        clear hAt
        have Hhb := Lib.hid hb
        clear hb
        have Hhc := Lib.hid hc
        clear hc
        have Hhtr := Lib.hid htr
        clear htr
        have Hhsz := Lib.hid hsz
        clear hsz
        have Hhsn := Lib.hid hsn
        clear hsn
        have Hhrv := Lib.hid hrv
        clear hrv
        clear hk0
        cases b1 <;> cases b2
        case true.false =>
          cases b3
          · go_wp2_with fail
            refine (Hhc.out _).mono ?_
            rintro e w2 ⟨rfl, hx2⟩
            have Hhx2 := Lib.hid hx2
            clear hx2
            go_wp2_with fail
            refine (HhP.out _).mono ?_
            rintro e w3 ⟨rfl, rfl⟩
            go_wp2_with fail
            refine (HhAt.out _).mono ?_
            rintro e w4 ⟨rfl, hx4⟩
            have Hhx4 := Lib.hid hx4
            clear hx4
            go_wp2_with fail
            refine (HhT.out _).mono ?_
            rintro e w5 ⟨rfl, rfl⟩
            go_wp2_with fail
            go_ret3
            exact ⟨by rw [Hhrs.out, if_neg (by simp), if_neg (by simp), if_neg (by simp)]; show Ending.returned (.tuple #[.string t, _, _]) = _; rw [Hhtk.out]; rfl, Hhx.out.trans (Hhx2.out.trans Hhx4.out)⟩
          · go_wp2_with fail
            refine (Hhc.out _).mono ?_
            rintro e w2 ⟨rfl, hx2⟩
            have Hhx2 := Lib.hid hx2
            clear hx2
            go_wp2_with fail
            refine (HhP.out _).mono ?_
            rintro e w3 ⟨rfl, rfl⟩
            go_wp2_with fail
            refine (HhAt.out _).mono ?_
            rintro e w4 ⟨rfl, hx4⟩
            have Hhx4 := Lib.hid hx4
            clear hx4
            go_wp2_with fail
            go_ret3
            exact ⟨by rw [Hhrs.out]; rfl, Hhx.out.trans (Hhx2.out.trans Hhx4.out)⟩
        case true.true =>
          go_wp2_with fail
          refine (Hhc.out _).mono ?_
          rintro e w2 ⟨rfl, hx2⟩
          have Hhx2 := Lib.hid hx2
          clear hx2
          go_wp2_with fail
          refine (HhP.out _).mono ?_
          rintro e w3 ⟨rfl, rfl⟩
          go_wp2_with fail
          go_ret3
          exact ⟨by rw [Hhrs.out]; rfl, Hhx.out.trans Hhx2.out⟩
        all_goals
          go_wp2_with fail
          refine (Hhc.out _).mono ?_
          rintro e w2 ⟨rfl, hx2⟩
          have Hhx2 := Lib.hid hx2
          clear hx2
          go_wp2_with fail
          go_ret3
          exact ⟨by rw [Hhrs.out]; rfl, Hhx.out.trans Hhx2.out⟩
      · rw [List.dropWhile_cons_of_pos hb] at htr
        have Hhb := Lib.hid hb
        clear hb
        have Hhc := Lib.hid hc
        clear hc
        have Hhtr := Lib.hid htr
        clear htr
        have Hhsz := Lib.hid hsz
        clear hsz
        have Hhsn := Lib.hid hsn
        clear hsn
        have Hhrv := Lib.hid hrv
        clear hrv
        go_wp2_with fail
        refine (Hhc.out _).mono ?_
        rintro e w2 ⟨rfl, hx2⟩
        have Hhx2 := Lib.hid hx2
        clear hx2
        go_wp2_with fail
        go_roundw
        case rel => exact ⟨_, rfl, _, rfl, by rw [Hhsz.out]; omega, Hhtr.out, Hhx.out.trans Hhx2.out⟩
        case measure => show (t.extract 0 (t.size - 1)).size < t.size; rw [Hhsz.out]; omega
    · have hz : bytes t = [] := List.eq_nil_of_length_eq_zero (by rw [bytes_len]; omega)
      have hkt : k = [] := by rw [HhkR.out, ← htr, hz]; rfl
      have ht : t = ⟨#[]⟩ := bytes_inj hz
      subst ht
      have hrs : res = asgV ([], [], false) := by rw [Hhres.out, hkt]; cases b1 <;> cases b2 <;> rfl
      have Hhrs := Lib.hid hrs
      clear hrs
      clear hz hkt htr hts hp
      cases b1 <;> cases b2
      case true.false =>
        go_wp2_with fail
        refine (HhP.out _).mono ?_
        rintro e w3 ⟨rfl, rfl⟩
        go_wp2_with fail
        go_ret3
        exact ⟨by rw [Hhrs.out]; rfl, Hhx.out⟩
      case true.true =>
        go_wp2_with fail
        refine (HhP.out _).mono ?_
        rintro e w3 ⟨rfl, rfl⟩
        go_wp2_with fail
        go_ret3
        exact ⟨by rw [Hhrs.out]; rfl, Hhx.out⟩
      all_goals
        go_wp2_with fail
        go_ret3
        exact ⟨by rw [Hhrs.out]; rfl, Hhx.out⟩
end L12
end Go.Proofs.Ytkmbahpjioopdaa
