/- Layer 10: the walks of the reference's ErrnoName, Errno, All, Flags. -/
import Derived.Test.YtojlpocpcakcbaaDoorNameF
namespace Go.Proofs.YtojlpocpcakcbaaDoor
open Go.RowKit Go.Shelf Go.Sort V
attribute [local go_sem] Oper.semAt_some
namespace L10
set_option maxRecDepth 100000 in
set_option maxHeartbeats 1000000 in
theorem rErrnoName_calls (n : Nat) (hn : n < 4294967296) (w : World) : Calls Tryd.prog 24 #[.int .u32 (n : Int)] w fun e w' => e = .returned (.string (str (enL n))) ∧ Ext w w' := by
  have hT := fun W => rErrnos_calls W
  have hF := fun v W (h : Rd W 2 encQ v errT) => rName_calls errT v n W h (by decide)
  have hI := fun W => rDigits_calls n hn W
  have hE : enL n = if ofL errT n = [] ∧ n ≤ 4095 then Lib.decDigits n else ofL errT n := rfl
  have hsb := str_emp (ofL errT n)
  rw [hE]
  clear hE
  generalize ofL errT n = L at *
  obtain ⟨res, hres⟩ : ∃ res, res = str (if L = [] ∧ n ≤ 4095 then Lib.decDigits n else L) := ⟨_, rfl⟩
  rw [← hres]
  generalize Lib.decDigits n = D at *
  have HhT := Lib.hid hT
  clear hT
  have HhF := Lib.hid hF
  clear hF
  have HhI := Lib.hid hI
  clear hI
  have hwn : IntKind.u64.wrap (n : Int) = (n : Int) := by simp [IntKind.wrap, IntKind.signed, IntKind.bits]; omega
  by_cases hL : L = []
  · rw [decide_eq_true hL] at hsb
    by_cases h9 : n ≤ 4095
    · have g1 : decide (n < 4096) = true := decide_eq_true (by omega)
      have g2 : decide ((n : Int) < 4096) = true := decide_eq_true (by omega)
      rw [if_pos ⟨hL, h9⟩] at hres
      have Hhres := Lib.hid hres
      clear hres
      clear hL
      generalize str L = ls at *
      generalize str D = ds at *
      go_enter Tryd.func24, Tryd.ntmps24
      go_wp2_with fail
      refine (HhT.out _).mono ?_
      rintro e w1 ⟨a, c, rfl, hx1, hr⟩
      go_wp2_with fail
      refine (HhF.out _ _ hr).mono ?_
      rintro e w2 ⟨rfl, hx2⟩
      have HX2 := Lib.hid (hx1.trans hx2)
      clear hx1 hx2 hr
      go_wp2_with fail
      refine (HhI.out _).mono ?_
      rintro e w3 ⟨rfl, hx3⟩
      go_wp2_with fail
      go_ret
      exact ⟨by rw [Hhres.out]; rfl, HX2.out.trans hx3⟩
    · have g1 : decide (n < 4096) = false := decide_eq_false (by omega)
      have g2 : decide ((n : Int) < 4096) = false := decide_eq_false (by omega)
      rw [if_neg (fun h => h9 h.2)] at hres
      have Hhres := Lib.hid hres
      clear hres
      clear hL
      generalize str L = ls at *
      go_enter Tryd.func24, Tryd.ntmps24
      go_wp2_with fail
      refine (HhT.out _).mono ?_
      rintro e w1 ⟨a, c, rfl, hx1, hr⟩
      go_wp2_with fail
      refine (HhF.out _ _ hr).mono ?_
      rintro e w2 ⟨rfl, hx2⟩
      have HX2 := Lib.hid (hx1.trans hx2)
      clear hx1 hx2 hr
      go_wp2_with fail
      go_ret
      exact ⟨by rw [Hhres.out]; rfl, HX2.out⟩
  · rw [decide_eq_false hL] at hsb
    rw [if_neg (fun h => hL h.1)] at hres
    have Hhres := Lib.hid hres
    clear hres
    clear hL
    generalize str L = ls at *
    go_enter Tryd.func24, Tryd.ntmps24
    go_wp2_with fail
    refine (HhT.out _).mono ?_
    rintro e w1 ⟨a, c, rfl, hx1, hr⟩
    go_wp2_with fail
    refine (HhF.out _ _ hr).mono ?_
    rintro e w2 ⟨rfl, hx2⟩
    have HX2 := Lib.hid (hx1.trans hx2)
    clear hx1 hx2 hr
    go_wp2_with fail
    go_ret
    exact ⟨by rw [Hhres.out]; rfl, HX2.out⟩
theorem findL_lt (s : List UInt8) (no : Int) : (findL errT s no).1 < 4294967296 := by
  have h : ∀ x ∈ errT, x.2 < 4294967296 := by decide
  unfold findL
  split
  · rename_i x hx
    exact h x (List.mem_of_find?_eq_some hx)
  · show 0 < 4294967296; omega
theorem bytes_get (t : ByteArray) (i : Nat) (h : i < t.size) : t[i]'h = (bytes t)[i]'(by rw [bytes_len]; exact h) := by rfl
set_option maxRecDepth 100000 in
set_option maxHeartbeats 4000000 in
theorem rErrno_calls (s : ByteArray) (hs : s.size ≤ 1000000) (w : World) : Calls Tryd.prog 12 #[.string s] w fun e w' => e = .returned (.tuple #[.int .u32 ((errnoL (bytes s)).1 : Int), .int .i64 (errnoL (bytes s)).2]) ∧ Ext w w' := by
  have hT := fun W => rErrnos_calls W
  have hF := fun v W (h : Rd W 2 encQ v errT) => rFind_calls errT v s 160 W h (by decide)
  have hE : errnoL (bytes s) = if (findL errT (bytes s) 160).2 = 0 then ((findL errT (bytes s) 160).1, 0) else numL (bytes s) := rfl
  have hok := findL_ok errT (bytes s) 160
  have hlt := findL_lt (bytes s) 160
  obtain ⟨RR, hRR⟩ : ∃ RR, RR = errnoL (bytes s) := ⟨_, rfl⟩
  rw [← hRR] at hE ⊢
  generalize findL errT (bytes s) 160 = R at *
  obtain ⟨r1, r2⟩ := R
  dsimp only at hE hok hF hlt
  have HhT := Lib.hid hT
  clear hT
  have HhF := Lib.hid hF
  clear hF
  clear hRR
  have hwr : IntKind.u32.wrap (r1 : Int) = (r1 : Int) := by simp [IntKind.wrap, IntKind.signed, IntKind.bits]; omega
  rcases hok with rfl | rfl
  · rw [if_pos rfl] at hE
    subst hE
    go_enter Tryd.func12, Tryd.ntmps12
    go_wp2_with fail
    refine (HhT.out _).mono ?_
    rintro e w1 ⟨a, c, rfl, hx1, hr⟩
    go_wp2_with fail
    refine (HhF.out _ _ hr).mono ?_
    rintro e w2 ⟨rfl, hx2⟩
    clear hr
    go_wp2_with fail
    go_ret2
    exact ⟨rfl, hx1.trans hx2⟩
  · rw [if_neg (by simp)] at hE
    have hN : RR = if (bytes s).all isD = true ∧ 1 ≤ (bytes s).length ∧ (bytes s).length ≤ 4 ∧ valL (bytes s) ≤ 4095 then (valL (bytes s), 0) else (0, 160) := hE
    clear hE
    have HhN := Lib.hid hN
    clear hN
    go_enter Tryd.func12, Tryd.ntmps12
    go_wp2_with fail
    refine (HhT.out _).mono ?_
    rintro e w1 ⟨a, c, rfl, hx1, hr⟩
    go_wp2_with fail
    refine (HhF.out _ _ hr).mono ?_
    rintro e w3 ⟨rfl, hx2⟩
    have HX3 := Lib.hid (hx1.trans hx2)
    clear hx1 hx2 hr
    go_wp2_with fail
    go_loopw [6, 7] (fun un ui wr => ∃ i n : Nat, i ≤ s.size ∧ i ≤ 4 ∧ ui = .int .i64 (i : Int) ∧ un = .int .i64 (n : Int) ∧ n ≤ 9999 ∧ ((bytes s).take i).all isD = true ∧ n = valL ((bytes s).take i) ∧ w3 = wr) (fun _ ui _ => s.size - (intOf ui).toNat)
    case atStart => exact ⟨0, 0, Nat.zero_le _, by omega, rfl, rfl, by omega, rfl, rfl, rfl⟩
    case round =>
      obtain ⟨i, n, hi, hi4, rfl, rfl, hn, hall, hval, rfl⟩ := hrel
      by_cases hlt : i < s.size
      · have hltb : i < (bytes s).length := hlt
        have hz : (i : Int) < (s.size : Int) := by omega
        have hwi : IntKind.i64.wrap ((i : Int) + 1) = (i : Int) + 1 := IntWalk.i64_in _ (by omega)
        have htk : (bytes s).take (i + 1) = (bytes s).take i ++ [s[i]'hlt] := by rw [bytes_get]; exact List.take_succ_eq_append_getElem hltb
        have hnot : isD (s[i]'hlt) = false → RR = (0, 160) := fun h => by
          rw [HhN.out, if_neg]
          intro hh
          have := List.all_eq_true.1 hh.1 _ (List.getElem_mem hltb)
          rw [← bytes_get s i hlt, h] at this
          cases this
        have hcl := (s[i]'hlt).toNat_lt
        have Hhtk := Lib.hid htk
        clear htk
        have Hhall := Lib.hid hall
        clear hall
        have Hhval := Lib.hid hval
        clear hval
        by_cases h48 : (s[i]'hlt).toNat < 48
        · have hf : RR = (0, 160) := hnot (by unfold isD; simp; omega)
          have g1 : decide (((s[i]'hlt).toNat : Int) < 48) = true := decide_eq_true (by omega)
          have g2 : decide ((s[i]'hlt).toNat < 48) = true := decide_eq_true h48
          have Hhf := Lib.hid hf
          clear hf
          clear hnot
          go_wp2_with fail
          go_ret2
          exact ⟨by rw [Hhf.out]; rfl, HX3.out⟩
        · have g1 : decide (((s[i]'hlt).toNat : Int) < 48) = false := decide_eq_false (by omega)
          have g2 : decide ((s[i]'hlt).toNat < 48) = false := decide_eq_false h48
          by_cases h57 : 57 < (s[i]'hlt).toNat
          · have hf : RR = (0, 160) := hnot (by unfold isD; simp; omega)
            have g3 : decide ((57 : Int) < ((s[i]'hlt).toNat : Int)) = true := decide_eq_true (by omega)
            have g4 : decide (57 < (s[i]'hlt).toNat) = true := decide_eq_true h57
            have Hhf := Lib.hid hf
            clear hf
            clear hnot
            go_wp2_with fail
            go_ret2
            exact ⟨by rw [Hhf.out]; rfl, HX3.out⟩
          · have g3 : decide ((57 : Int) < ((s[i]'hlt).toNat : Int)) = false := decide_eq_false (by omega)
            have g4 : decide (57 < (s[i]'hlt).toNat) = false := decide_eq_false h57
            have hD : isD (s[i]'hlt) = true := by unfold isD; simp; omega
            by_cases h3 : 3 < i
            · have g5 : decide (3 < i) = true := decide_eq_true h3
              have g6 : decide ((3 : Int) < (i : Int)) = true := decide_eq_true (by omega)
              have hf : RR = (0, 160) := by
                rw [HhN.out, if_neg]
                intro hh
                have := hh.2.2.1
                omega
              have Hhf := Lib.hid hf
              clear hf
              clear hnot
              go_wp2_with fail
              go_ret2
              exact ⟨by rw [Hhf.out]; rfl, HX3.out⟩
            · have g5 : decide (3 < i) = false := decide_eq_false h3
              have g6 : decide ((3 : Int) < (i : Int)) = false := decide_eq_false (by omega)
              obtain ⟨m, hm⟩ : ∃ m, m = 10 * n + ((s[i]'hlt).toNat - 48) := ⟨_, rfl⟩
              have hmi : 10 * (n : Int) + (((s[i]'hlt).toNat : Int) - 48) = (m : Int) := by omega
              have hal2 : ((bytes s).take (i + 1)).all isD = true := by
                rw [Hhtk.out, List.all_append, Hhall.out]
                simpa using hD
              have hv2 : m = valL ((bytes s).take (i + 1)) := by
                rw [Hhtk.out, valL_snoc, ← Hhval.out, hm]
              have hmb : m ≤ 9999 := by
                have h2 := valL_lt (i + 1) _ (by rw [List.length_take]; omega) hal2
                have h3 : 10 ^ (i + 1) ≤ 10 ^ 4 := Nat.pow_le_pow_right (by omega) (by omega)
                rw [← hv2] at h2
                omega
              have Hhmi := Lib.hid hmi
              clear hmi
              have Hhm := Lib.hid hm
              clear hm
              have HhD := Lib.hid hD
              clear hD
              have Hhal2 := Lib.hid hal2
              clear hal2
              have Hhv2 := Lib.hid hv2
              clear hv2
              clear hnot
              go_wp2_with fail
              go_roundw
              case rel => exact ⟨i + 1, m, by omega, by omega, by go_num, by rw [Hhmi.out], hmb, Hhal2.out, Hhv2.out, trivial⟩
              case measure => simp [intOf]; omega
      · obtain rfl : i = s.size := by omega
        have htl : (bytes s).take s.size = bytes s := List.take_of_length_le (by rw [bytes_len]; exact Nat.le_refl _)
        rw [htl] at hall hval
        have hN2 := HhN.out
        rw [hall, bytes_len, ← hval] at hN2
        have Hhall := Lib.hid hall
        clear hall
        have Hhval := Lib.hid hval
        clear hval
        have Hhtl := Lib.hid htl
        clear htl
        by_cases h1 : s.size < 1
        · obtain rfl : s = ⟨#[]⟩ := bytes_inj (List.eq_nil_of_length_eq_zero (by rw [bytes_len]; omega))
          rw [if_neg (fun h => by have := h.2.1; omega)] at hN2
          have HhN2 := Lib.hid hN2
          clear hN2
          clear h1
          go_wp2_with fail
          go_ret2
          exact ⟨by rw [HhN2.out]; rfl, HX3.out⟩
        · have hne : s.toList.isEmpty = false := by
            rw [Lib.toList_data]
            cases h : s.data.toList with
            | nil => have := Lib.size_eq s; rw [h, List.length_nil] at this; omega
            | cons _ _ => rfl
          by_cases h9 : 4095 < n
          · have g5 : decide (4095 < n) = true := decide_eq_true h9
            have g6 : decide ((4095 : Int) < (n : Int)) = true := decide_eq_true (by omega)
            rw [if_neg (fun h => by omega)] at hN2
            have HhN2 := Lib.hid hN2
            clear hN2
            go_wp2_with fail
            go_ret2
            exact ⟨by rw [HhN2.out]; rfl, HX3.out⟩
          · have g5 : decide (4095 < n) = false := decide_eq_false h9
            have g6 : decide ((4095 : Int) < (n : Int)) = false := decide_eq_false (by omega)
            rw [if_pos ⟨rfl, by omega, by omega, by omega⟩] at hN2
            have hwn : IntKind.u32.wrap (n : Int) = (n : Int) := by simp [IntKind.wrap, IntKind.signed, IntKind.bits]; omega
            have HhN2 := Lib.hid hN2
            clear hN2
            go_wp2_with fail
            go_ret2
            exact ⟨by rw [HhN2.out]; rfl, HX3.out⟩
end L10
end Go.Proofs.YtojlpocpcakcbaaDoor
