/- Layer 12: the walk of the law LinesJoined. -/
import Derived.Test.YteheegkdcphapaaLineP
import Derived.Test.YteheegkdcphapaaLineQ
namespace Go.Proofs.Yteheegkdcphapaa
open Go.RowKit V
namespace L12
def aheadN (m : Int) : Nat := ((m % 18446744073709551616) % 50).toNat
theorem aheadN_lt (m : Int) : aheadN m < 50 := by unfold aheadN; omega
set_option maxRecDepth 100000 in
set_option maxHeartbeats 4000000 in
theorem LinesJoined_calls (v : Value) (ts : List (List UInt8)) (hnl : ts.length ≤ maxLen) (hts : ∀ t ∈ ts, t.length ≤ maxLen) (m : Int) (cm : Bool) (w : World) (hv : Rd w 1 encS1 v ts) :
    Calls Try.prog 7 #[v, .int .i64 m, .bool cm] w fun e w' => e = .returned (.bool true) ∧ Ext w w' := by
  obtain ⟨a, c, rfl, hac, hca⟩ := rdS1_cell hv
  clear hv
  unfold maxLen at hnl
  have hA := fun W => awake_calls W
  have HhA := Lib.hid hA
  clear hA
  have Hhca := Lib.hid hca
  clear hca
  have Hhts := Lib.hid hts
  clear hts
  by_cases hz : ts.length = 0
  · have h1 : (ts.length == 0) = true := by simp [hz]
    have h1' : ((ts.length : Int) == 0) = true := by simp [hz]
    have Hhz := Lib.hid hz
    clear hz
    go_enter Try.func7, Try.ntmps7
    go_wp2_with fail
    refine (HhA.out _).mono ?_
    rintro e w1 ⟨rfl, hx⟩
    go_wp2_with fail
    go_ret
    exact ⟨rfl, hx⟩
  have h0 : (ts.length == 0) = false := by rw [beq_eq_false_iff_ne]; exact hz
  have h0' : ((ts.length : Int) == 0) = false := by rw [beq_eq_false_iff_ne]; omega
  by_cases hlen : 20 < ts.length
  · have h1 : decide (20 < ts.length) = true := decide_eq_true hlen
    have h1' : decide ((20 : Int) < (ts.length : Int)) = true := decide_eq_true (by omega)
    have Hhlen := Lib.hid hlen
    clear hlen
    go_enter Try.func7, Try.ntmps7
    go_wp2_with fail
    refine (HhA.out _).mono ?_
    rintro e w1 ⟨rfl, hx⟩
    go_wp2_with fail
    go_ret
    exact ⟨rfl, hx⟩
  have h1 : decide (20 < ts.length) = false := decide_eq_false hlen
  have h1' : decide ((20 : Int) < (ts.length : Int)) = false := decide_eq_false (by omega)
  obtain ⟨q, hq⟩ : ∃ q : Nat, (q : Int) = m % 18446744073709551616 := ⟨(m % 18446744073709551616).toNat, by omega⟩
  have hw1 : IntKind.u64.wrap m = (q : Int) := by rw [hq]; simp [IntKind.wrap, IntKind.signed, IntKind.bits]
  have hqb : q < 18446744073709551616 := by omega
  have hk : aheadN m = q % 50 := by unfold aheadN; omega
  have hkl := aheadN_lt m
  have Hhq := Lib.hid hq
  clear hq
  have Hhk := Lib.hid hk
  clear hk
  have Hhz := Lib.hid hz
  clear hz
  go_enter Try.func7, Try.ntmps7
  go_upto_region 5 with fail
  rw [show ((q : Int) % 50) = ((aheadN m : Nat) : Int) by rw [Hhk.out]; rfl]
  generalize aheadN m = ah at *
  go_wp2_with fail
  go_loopw [7, 9] (fun sv iv wr => ∃ (i : Nat) (S : List UInt8), i ≤ ah ∧ iv = .int .i64 i ∧ sv = .string (str S) ∧ S.length = i ∧ PJ S i 0 [] ∧ w = wr) (fun _ iv _ => ah - (intOf iv).toNat)
  case atStart => exact ⟨0, [], by omega, rfl, rfl, rfl, PJ.start, rfl⟩
  case round =>
    obtain ⟨i, S, hi, rfl, rfl, hSl, hPJ, rfl⟩ := hrel
    by_cases hlt : i < ah
    · have hstr : str S ++ (⟨#[10]⟩ : ByteArray) = str (S ++ [10]) := by rw [← str_app]
      have hP2 := hPJ.empty
      have Hhstr := Lib.hid hstr
      clear hstr
      have HhP2 := Lib.hid hP2
      clear hP2
      have HhPJ := Lib.hid hPJ
      clear hPJ
      go_wp2_with fail
      go_roundw
      case rel => exact ⟨i + 1, S ++ [10], by omega, by go_num, by rw [Hhstr.out], by simp; omega, HhP2.out, trivial⟩
      case measure => simp [intOf]; omega
    · obtain rfl : ah = i := by omega
      have HhPJ := Lib.hid hPJ
      clear hPJ
      go_wp2_with fail
      go_loopw [7, 8, 10] (fun sv tv iv wr => ∃ (j : Nat) (S2 txt : List UInt8), j ≤ ts.length ∧ iv = .int .i64 j ∧ sv = .string (str S2) ∧ tv = .string (str txt) ∧ S2.length ≤ 50 + 64 * j ∧ txt.length ≤ 61 * j ∧ (j < ts.length → ∃ n m', PJ S2 n m' txt ∧ n ≤ ah + 2 * j ∧ ((m' = 0 ∧ txt = [] ∧ n = ah) ∨ m' = ah + 1)) ∧ (j = ts.length → splitA S2 = (endL (ah + 1) txt [], 0)) ∧ Ext w wr) (fun _ _ iv _ => ts.length - (intOf iv).toNat)
      case atStart => exact ⟨0, S, [], by omega, rfl, rfl, rfl, by omega, by simp, fun _ => ⟨ah, 0, HhPJ.out, by omega, .inl ⟨rfl, rfl, rfl⟩⟩, fun h => absurd h (by have := Hhz.out; omega), Ext.refl _⟩
      case round =>
        obtain ⟨j, S2, txt, hj, rfl, rfl, rfl, hS2, htx, hmid, hend, hx⟩ := hrel
        have HX := Lib.hid hx
        have HM := Lib.hid hmid
        have HE := Lib.hid hend
        clear hmid hend
        by_cases hlt : j < ts.length
        · obtain ⟨b, o, rfl, c1⟩ := Hhca.out j hlt
          replace c1 := hx.cell c1
          obtain ⟨t, ht⟩ : ∃ t, t = str (ts[j]'hlt) := ⟨_, rfl⟩
          have htm : t.size ≤ maxLen := by rw [ht]; exact Hhts.out _ (List.getElem_mem hlt)
          rw [← ht] at c1
          have hC := fun W => Comment_calls t htm W
          clear hx ht
          rcases plain_cases t with h60 | ⟨h60, hcm⟩ | ⟨h60, hcm, hp, hq⟩ | ⟨h60, hcm, hq, hsf⟩
          · have f1 : decide (60 < t.size) = true := decide_eq_true h60
            have f1' : decide ((60 : Int) < (t.size : Int)) = true := decide_eq_true (by omega)
            have HhC := Lib.hid hC
            clear hC
            have Hh60 := Lib.hid h60
            clear h60
            have Hhtm := Lib.hid htm
            clear htm
            go_wp2_with fail
            refine (HhA.out _).mono ?_
            rintro e w1 ⟨rfl, hx⟩
            go_wp2_with fail
            go_ret
            exact ⟨rfl, HX.out.trans hx⟩
          all_goals
            have f1 : decide (60 < t.size) = false := decide_eq_false (by omega)
            have f1' : decide ((60 : Int) < (t.size : Int)) = false := decide_eq_false (by omega)
            rw [hcm] at hC
            have HCM := Lib.hid hcm
            clear hcm htm
          ·
            have HhC := Lib.hid hC
            clear hC
            go_wp2_with fail
            refine (HhC.out _).mono ?_
            rintro e w1 ⟨rfl, rfl⟩
            go_wp2_with fail
            refine (HhA.out _).mono ?_
            rintro e w1 ⟨rfl, hx⟩
            go_wp2_with fail
            go_ret
            exact ⟨rfl, HX.out.trans hx⟩
          ·
            have HhC := Lib.hid hC
            clear hC
            go_wp2_with fail
            refine (HhC.out _).mono ?_
            rintro e w1 ⟨rfl, rfl⟩
            go_wp2_with fail
            refine (HhA.out _).mono ?_
            rintro e w1 ⟨rfl, hx⟩
            go_wp2_with fail
            go_ret
            exact ⟨rfl, HX.out.trans hx⟩
          ·
            have HhC := Lib.hid hC
            clear hC
            have Hhsf := Lib.hid hsf
            clear hsf
            have hT := fun W => Trim_calls t (by unfold maxLen; omega) W
            have HhT := Lib.hid hT
            clear hT
            rcases hq with hq | ⟨hp, hq⟩
            all_goals
              go_wp2_with fail
              refine (HhC.out _).mono ?_
              rintro e w1 ⟨rfl, rfl⟩
              go_wp2_with fail
              go_loopw [12] (fun kv wx => ∃ k : Nat, k ≤ t.size ∧ kv = .int .i64 k ∧ (10 : UInt8) ∉ (bytes t).take k ∧ wr = wx) (fun kv _ => t.size - (intOf kv).toNat)
              case atStart => exact ⟨0, by omega, rfl, by simp, rfl⟩
              case round =>
                obtain ⟨k, hk, rfl, hno, rfl⟩ := hrel
                by_cases hkl : k < t.size
                · first
                    | (exfalso; omega)
                    | (have hb10 := byte10 (t[k]'hkl)
                       have htk : (bytes t).take (k + 1) = (bytes t).take k ++ [t[k]'hkl] := List.take_succ_eq_append_getElem (by rw [bytes_len]; exact hkl)
                       cases h10 : ((t[k]'hkl) == 10)
                       · rw [h10] at hb10
                         have hno2 : (10 : UInt8) ∉ (bytes t).take (k + 1) := by
                           rw [htk]
                           intro h
                           rcases List.mem_append.1 h with h | h
                           · exact hno h
                           · rw [List.mem_singleton] at h
                             rw [← h] at h10
                             cases h10
                         have Hhtk := Lib.hid htk
                         clear htk
                         have Hhno := Lib.hid hno
                         clear hno
                         have Hhno2 := Lib.hid hno2
                         clear hno2
                         have Hh10 := Lib.hid h10
                         clear h10
                         go_wp2_with fail
                         first
                           | (go_roundw
                              case rel => exact ⟨k + 1, by omega, by go_num, Hhno2.out, trivial⟩
                              case measure => simp [intOf]; omega)
                           | exact ⟨⟨k + 1, by omega, by go_num, Hhno2.out, trivial⟩, by simp [intOf]; omega⟩
                       · rw [h10] at hb10
                         have Hhtk := Lib.hid htk
                         clear htk
                         have Hhno := Lib.hid hno
                         clear hno
                         have Hh10 := Lib.hid h10
                         clear h10
                         go_wp2_with fail
                         refine (HhA.out _).mono ?_
                         rintro e w1 ⟨rfl, hx⟩
                         go_wp2_with fail
                         go_ret
                         exact ⟨rfl, HX.out.trans hx⟩)
                · obtain rfl : k = t.size := by omega
                  have hno2 : (10 : UInt8) ∉ bytes t := by
                    rw [List.take_of_length_le (by rw [bytes_len]; exact Nat.le_refl _)] at hno
                    exact hno
                  have Hhno := Lib.hid hno
                  clear hno
                  have Hhno2 := Lib.hid hno2
                  clear hno2
                  go_upto_region 22 with fail
                  obtain ⟨n, m', hP, hn, hm⟩ := HM.out hlt
                  by_cases hl : j + 1 < ts.length
                  · have g1 : decide ((j : Int) < (ts.length : Int) - 1) = true := decide_eq_true (by omega)
                    have hp2 := hP.part Hhno2.out HCM.out
                    have hmm : (if m' = 0 then n + 1 else m') = ah + 1 := by
                      rcases hm with ⟨e1, -, e3⟩ | e1
                      · rw [if_pos e1, e3]
                      · rw [if_neg (by omega), e1]
                    rw [hmm] at hp2
                    have hs1 : str S2 ++ t ++ (⟨#[92, 10]⟩ : ByteArray) = str (S2 ++ (bytes t ++ [92, 10])) := by
                      rw [← str_app, ← str_app, str_bytes]
                      exact bytes_inj (by simp [bytes])
                    have hs2 : str txt ++ t ++ (⟨#[32]⟩ : ByteArray) = str (txt ++ (bytes t ++ [32])) := by
                      rw [← str_app, ← str_app, str_bytes]
                      exact bytes_inj (by simp [bytes])
                    have hs3 : str (S2 ++ (bytes t ++ [92, 10])) ++ (⟨#[59, 10]⟩ : ByteArray) = str ((S2 ++ (bytes t ++ [92, 10])) ++ [59, 10]) := by rw [show (⟨#[59, 10]⟩ : ByteArray) = str [59, 10] from rfl, str_app]
                    have hl1 : (S2 ++ (bytes t ++ [92, 10])).length ≤ 50 + 64 * j + 62 := by
                      rw [List.length_append, List.length_append, bytes_len]; simp; omega
                    have hl2 : (txt ++ (bytes t ++ [32])).length ≤ 61 * (j + 1) := by
                      rw [List.length_append, List.length_append, bytes_len]; simp; omega
                    have hl3 : ((S2 ++ (bytes t ++ [92, 10])) ++ [59, 10]).length ≤ 50 + 64 * (j + 1) := by
                      rw [List.length_append, List.length_append, List.length_append, bytes_len]; simp; omega
                    have hp3 := hp2.comment
                    have Hhp2 := Lib.hid hp2
                    clear hp2
                    have Hhp3 := Lib.hid hp3
                    clear hp3
                    have Hhmm := Lib.hid hmm
                    clear hmm
                    have Hhm := Lib.hid hm
                    clear hm
                    have Hhs1 := Lib.hid hs1
                    clear hs1
                    have Hhs2 := Lib.hid hs2
                    clear hs2
                    have Hhs3 := Lib.hid hs3
                    clear hs3
                    have Hhl1 := Lib.hid hl1
                    clear hl1
                    have Hhl2 := Lib.hid hl2
                    clear hl2
                    have Hhl3 := Lib.hid hl3
                    clear hl3
                    have HhP := Lib.hid hP
                    clear hP
                    cases cm
                    · go_wp2_with fail
                      first
                        | (go_roundw
                           case rel => exact ⟨j + 1, S2 ++ (bytes t ++ [92, 10]), txt ++ (bytes t ++ [32]), by omega, by go_num, by rw [← Hhs1.out], by rw [← Hhs2.out], by have := Hhl1.out; omega, Hhl2.out, fun _ => ⟨n + 1, ah + 1, Hhp2.out, by omega, .inr rfl⟩, fun h => absurd h (by omega), HX.out⟩
                           case measure => simp [intOf]; omega)
                        | exact ⟨⟨j + 1, S2 ++ (bytes t ++ [92, 10]), txt ++ (bytes t ++ [32]), by omega, by go_num, by rw [← Hhs1.out], by rw [← Hhs2.out], by have := Hhl1.out; omega, Hhl2.out, fun _ => ⟨n + 1, ah + 1, Hhp2.out, by omega, .inr rfl⟩, fun h => absurd h (by omega), HX.out⟩, by simp [intOf]; omega⟩
                    · go_wp2_with fail
                      first
                        | (go_roundw
                           case rel => exact ⟨j + 1, (S2 ++ (bytes t ++ [92, 10])) ++ [59, 10], txt ++ (bytes t ++ [32]), by omega, by go_num, by rw [← Hhs3.out, ← Hhs1.out], by rw [← Hhs2.out], Hhl3.out, Hhl2.out, fun _ => ⟨n + 1 + 1, ah + 1, Hhp3.out, by omega, .inr rfl⟩, fun h => absurd h (by omega), HX.out⟩
                           case measure => simp [intOf]; omega)
                        | exact ⟨⟨j + 1, (S2 ++ (bytes t ++ [92, 10])) ++ [59, 10], txt ++ (bytes t ++ [32]), by omega, by go_num, by rw [← Hhs3.out, ← Hhs1.out], by rw [← Hhs2.out], Hhl3.out, Hhl2.out, fun _ => ⟨n + 1 + 1, ah + 1, Hhp3.out, by omega, .inr rfl⟩, fun h => absurd h (by omega), HX.out⟩, by simp [intOf]; omega⟩
                  · have g1 : decide ((j : Int) < (ts.length : Int) - 1) = false := decide_eq_false (by omega)
                    have hs1 : str S2 ++ t = str (S2 ++ bytes t) := by rw [← str_app, str_bytes]
                    have hs2 : str txt ++ t = str (txt ++ bytes t) := by rw [← str_app, str_bytes]
                    have hl1 : (S2 ++ bytes t).length ≤ 50 + 64 * (j + 1) := by rw [List.length_append, bytes_len]; omega
                    have hl2 : (txt ++ bytes t).length ≤ 61 * (j + 1) := by rw [List.length_append, bytes_len]; omega
                    have hfin := hP.last (k := ah + 1) Hhno2.out HCM.out Hhsf.out (by rcases hm with ⟨e1, e2, e3⟩ | e1; exact .inl ⟨e1, e2, by omega⟩; exact .inr ⟨e1, by omega⟩) (by omega) (by omega)
                    have Hhfin := Lib.hid hfin
                    clear hfin
                    have Hhm := Lib.hid hm
                    clear hm
                    have Hhs1 := Lib.hid hs1
                    clear hs1
                    have Hhs2 := Lib.hid hs2
                    clear hs2
                    have Hhl1 := Lib.hid hl1
                    clear hl1
                    have Hhl2 := Lib.hid hl2
                    clear hl2
                    have HhP := Lib.hid hP
                    clear hP
                    go_wp2_with fail
                    first
                      | (go_roundw
                         case rel => exact ⟨j + 1, S2 ++ bytes t, txt ++ bytes t, by omega, by go_num, by rw [← Hhs1.out], by rw [← Hhs2.out], Hhl1.out, Hhl2.out, fun h => absurd h (by omega), fun _ => Hhfin.out, HX.out⟩
                         case measure => simp [intOf]; omega)
                      | exact ⟨⟨j + 1, S2 ++ bytes t, txt ++ bytes t, by omega, by go_num, by rw [← Hhs1.out], by rw [← Hhs2.out], Hhl1.out, Hhl2.out, fun h => absurd h (by omega), fun _ => Hhfin.out, HX.out⟩, by simp [intOf]; omega⟩
        · obtain rfl : j = ts.length := by omega
          clear hx
          have hsp := HE.out rfl
          obtain ⟨tt, htt⟩ : ∃ tt, tt = trimL txt := ⟨_, rfl⟩
          have hel : endL (ah + 1) txt [] = if tt = [] then [] else [(ah + 1, tt)] := by rw [htt]; rfl
          rw [hel] at hsp
          have hT := fun W => Trim_calls (str txt) (by rw [str_size]; unfold maxLen; omega) W
          rw [show bytes (str txt) = txt from by simp [bytes], ← htt] at hT
          have Hhel := Lib.hid hel
          clear hel
          have Hhtt := Lib.hid htt
          clear htt
          have HhT := Lib.hid hT
          clear hT
          by_cases hte : tt = []
          · rw [if_pos hte] at hsp
            subst hte
            have hI := fun W => is_calls (str S2) (by rw [str_size]; omega) _ [] W (rd_none _ _ _)
            rw [show isA (bytes (str S2)) [] = true from by unfold isA; rw [show bytes (str S2) = S2 from by simp [bytes], hsp]; rfl] at hI
            have HhI := Lib.hid hI
            clear hI
            have Hhsp := Lib.hid hsp
            clear hsp
            go_wp2_with fail
            refine (HhT.out _).mono ?_
            rintro e w2 ⟨rfl, rfl⟩
            go_wp2_with fail
            refine (HhI.out _).mono ?_
            rintro e w3 ⟨rfl, hx3⟩
            go_wp2_with fail
            refine (HhA.out _).mono ?_
            rintro e w4 ⟨rfl, hx4⟩
            go_wp2_with fail
            go_ret
            exact ⟨rfl, (HX.out.trans hx3).trans hx4⟩
          · rw [if_neg hte] at hsp
            have hn : (!tt.isEmpty) = true := by
              cases tt with
              | nil => exact absurd rfl hte
              | cons x r => rfl
            have hn2 : tt.isEmpty = false := by
              cases tt with
              | nil => exact absurd rfl hte
              | cons x r => rfl
            have hn3 : (tt == []) = false := by
              cases tt with
              | nil => exact absurd rfl hte
              | cons x r => rfl
            have hI := fun v W h => is_calls (str S2) (by rw [str_size]; omega) v [(ah + 1, tt)] W h
            rw [show isA (bytes (str S2)) [(ah + 1, tt)] = true from by unfold isA; rw [show bytes (str S2) = S2 from by simp [bytes], hsp]; simp] at hI
            have HhI := Lib.hid hI
            clear hI
            have Hhsp := Lib.hid hsp
            clear hsp
            go_wp2_with fail
            refine (HhT.out _).mono ?_
            rintro e w2 ⟨rfl, rfl⟩
            go_wp2_with fail
            refine (HhT.out _).mono ?_
            rintro e w2 ⟨rfl, rfl⟩
            go_wp2_with fail
            refine (of_callsI _ _ _).mono ?_
            rintro e w3 ⟨rfl, hx3⟩
            have HX3 := Lib.hid (HX.out.trans hx3)
            clear hx3
            go_wp2_with fail
            refine (HhI.out _ _ (rd_lit encN_len w3 [(ah + 1, tt)] _ _ rfl)).mono ?_
            rintro e w4 ⟨rfl, hx4⟩
            have HX4 := Lib.hid ((HX3.out.alloc _).trans hx4)
            clear hx4
            go_wp2_with fail
            refine (HhA.out _).mono ?_
            rintro e w5 ⟨rfl, hx5⟩
            go_wp2_with fail
            go_ret
            exact ⟨rfl, HX4.out.trans hx5⟩
end L12
end Go.Proofs.Yteheegkdcphapaa
