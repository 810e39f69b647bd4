/- Layer 12: the walk of the law LinesPlain. -/
import Derived.Test.YteheegkdcphapaaLineK
import Derived.Test.YteheegkdcphapaaLineO
import Derived.Deep.DeepCutAuto
namespace Go.Proofs.Yteheegkdcphapaa
open Go.RowKit V
namespace L12
theorem of_callsI (m : Int) (s : ByteArray) (w : World) : Calls Try.prog 21 #[.int .i64 m, .string s] w fun e w' => e = .returned (.agg #[.int .i64 m, .string s]) ∧ Ext w w' := by
  go_enter Try.func21, Try.ntmps21
  go_wp2
  exact bodyPost_ret (v := .agg #[.int .i64 m, .string s]) (by simp [results, Try.results21, go_sem]) rfl ⟨rfl, (Ext.refl _).alloc _⟩
/-- a text that may stand in a file of plain lines, or why not -/
theorem plain_cases (t : ByteArray) : (60 < t.size) ∨ (t.size ≤ 60 ∧ commentL (bytes t) = true) ∨ (t.size ≤ 60 ∧ commentL (bytes t) = false ∧ ∃ hp : 0 < t.size, (((t[t.size - 1]'(by omega)).toNat : Int) == 92) = true) ∨
    (t.size ≤ 60 ∧ commentL (bytes t) = false ∧ (t.size = 0 ∨ ∃ hp : 0 < t.size, (((t[t.size - 1]'(by omega)).toNat : Int) == 92) = false) ∧ Lib.hasSuffix (bytes t) [92] = false) := by
  by_cases h : 60 < t.size
  · exact .inl h
  have h' : t.size ≤ 60 := by omega
  cases hc : commentL (bytes t)
  · by_cases hp : 0 < t.size
    · have h1 := suffix_last (l := bytes t) (by rw [bytes_len]; exact hp)
      have e1 : (((t[t.size - 1]'(by omega)).toNat : Int) == 92) = ((t[t.size - 1]'(by omega)) == 92) := by rw [Bool.eq_iff_iff]; simp; rw [← UInt8.toNat_inj]; show ((_ : Int) = 92) ↔ _ = 92; omega
      have e2 : (bytes t)[(bytes t).length - 1]'(by rw [bytes_len]; omega) = t[t.size - 1]'(by omega) := by rw [bytes_get]; rfl
      rw [e2, ← e1] at h1
      cases hq : (((t[t.size - 1]'(by omega)).toNat : Int) == 92)
      · exact .inr (.inr (.inr ⟨h', rfl, .inr ⟨hp, hq⟩, by rw [h1, hq]⟩))
      · exact .inr (.inr (.inl ⟨h', rfl, hp, hq⟩))
    · exact .inr (.inr (.inr ⟨h', rfl, .inl (by omega), suffix_zero (List.eq_nil_of_length_eq_zero (by rw [bytes_len]; omega))⟩))
  · exact .inr (.inl ⟨h', rfl⟩)
theorem byte10 (x : UInt8) : ((x.toNat : Int) == 10) = (x == 10) := by rw [Bool.eq_iff_iff]; simp; rw [← UInt8.toNat_inj]; show ((x.toNat : Int) = 10) ↔ x.toNat = 10; omega
set_option maxRecDepth 100000 in
set_option maxHeartbeats 4000000 in
theorem LinesPlain_calls (v : Value) (ts : List (List UInt8)) (hnl : ts.length ≤ maxLen) (hts : ∀ t ∈ ts, t.length ≤ maxLen) (bits : Nat) (w : World) (hv : Rd w 1 encS1 v ts) :
    Calls Try.prog 6 #[v, .int .u64 (bits : Int)] w fun e w' => e = .returned (.bool true) ∧ Ext w w' := by
  obtain ⟨a, c, rfl, hac, hca⟩ := rdS1_cell hv
  clear hv
  unfold maxLen at hnl
  have hA := fun W => awake_calls W
  have HhA := Lib.hid hA
  clear hA
  have Hhca := Lib.hid hca
  clear hca
  have Hhts := Lib.hid hts
  clear hts
  by_cases hlen : 60 < ts.length
  · have h1 : decide (60 < ts.length) = true := decide_eq_true hlen
    have h1' : decide ((60 : Int) < (ts.length : Int)) = true := decide_eq_true (by omega)
    have Hhlen := Lib.hid hlen
    clear hlen
    go_enter Try.func6, Try.ntmps6
    go_wp2_with fail
    refine (HhA.out _).mono ?_
    rintro e w1 ⟨rfl, hx⟩
    go_wp2_with fail
    go_ret
    exact ⟨rfl, hx⟩
  have h1 : decide (60 < ts.length) = false := decide_eq_false hlen
  have h1' : decide ((60 : Int) < (ts.length : Int)) = false := decide_eq_false (by omega)
  go_enter Try.func6, Try.ntmps6
  go_wp2_with fail
  go_loopw [5, 6, 7, 8] (fun sv nv u iv wr => ∃ (i n : Nat) (S : List UInt8) (ys : List LN) (au : Option Addr) (cu : Nat), i ≤ ts.length ∧ iv = .int .i64 i ∧ nv = .int .i64 n ∧ sv = .string (str S) ∧ u = .slice au ys.length cu ∧ n ≤ 2 * i ∧ S.length ≤ 80 * i ∧ ys.length ≤ i ∧ PL S n ys ∧
    wr.ownsRow w.heap.size 35 2 (.slice au ys.length cu) ys.length (ys.flatMap encN) ∧ Ext w wr) (fun _ _ _ iv _ => ts.length - (intOf iv).toNat)
  case atStart => exact ⟨0, 0, [], [], none, 0, by omega, rfl, rfl, rfl, rfl, by omega, by simp, by simp, PL.start, World.ownsRow_nil _ _ _ _, Ext.refl _⟩
  case round =>
    obtain ⟨i, n, S, ys, au, cu, hi, rfl, rfl, rfl, rfl, hn2, hSl, hyl, hPL, ho, hx⟩ := hrel
    have HO := Lib.hid ho
    have HX := Lib.hid hx
    have HP := Lib.hid hPL
    by_cases hlt : i < ts.length
    · obtain ⟨b, o, rfl, c1⟩ := Hhca.out i hlt
      replace c1 := hx.cell c1
      obtain ⟨t, ht⟩ : ∃ t, t = str (ts[i]'hlt) := ⟨_, rfl⟩
      have htm : t.size ≤ maxLen := by rw [ht]; exact Hhts.out _ (List.getElem_mem hlt)
      rw [← ht] at c1
      have hC := fun W => Comment_calls t htm W
      clear hx ho hPL ht
      rcases plain_cases t with h60 | ⟨h60, hcm⟩ | ⟨h60, hcm, hp, hq⟩ | ⟨h60, hcm, hq, hsf⟩
      · have f1 : decide (60 < t.size) = true := decide_eq_true h60
        have f1' : decide ((60 : Int) < (t.size : Int)) = true := decide_eq_true (by omega)
        have HhC := Lib.hid hC
        clear hC
        have Hh60 := Lib.hid h60
        clear h60
        have Hhtm := Lib.hid htm
        clear htm
        go_wp2_with fail
        refine (HhA.out _).mono ?_
        rintro e w1 ⟨rfl, hx⟩
        go_wp2_with fail
        go_ret
        exact ⟨rfl, HX.out.trans hx⟩
      all_goals
        have f1 : decide (60 < t.size) = false := decide_eq_false (by omega)
        have f1' : decide ((60 : Int) < (t.size : Int)) = false := decide_eq_false (by omega)
        rw [hcm] at hC
        have HCM := Lib.hid hcm
        clear hcm htm
      ·
        have HhC := Lib.hid hC
        clear hC
        go_wp2_with fail
        refine (HhC.out _).mono ?_
        rintro e w1 ⟨rfl, rfl⟩
        go_wp2_with fail
        refine (HhA.out _).mono ?_
        rintro e w1 ⟨rfl, hx⟩
        go_wp2_with fail
        go_ret
        exact ⟨rfl, HX.out.trans hx⟩
      ·
        have HhC := Lib.hid hC
        clear hC
        go_wp2_with fail
        refine (HhC.out _).mono ?_
        rintro e w1 ⟨rfl, rfl⟩
        go_wp2_with fail
        refine (HhA.out _).mono ?_
        rintro e w1 ⟨rfl, hx⟩
        go_wp2_with fail
        go_ret
        exact ⟨rfl, HX.out.trans hx⟩
      ·
        have HhC := Lib.hid hC
        clear hC
        have Hhsf := Lib.hid hsf
        clear hsf
        have hT := fun W => Trim_calls t (by unfold maxLen; omega) W
        have HhT := Lib.hid hT
        clear hT
        rcases hq with hq | ⟨hp, hq⟩
        all_goals
          go_wp2_with fail
          refine (HhC.out _).mono ?_
          rintro e w1 ⟨rfl, rfl⟩
          go_wp2_with fail
          go_loopw [10] (fun kv wx => ∃ k : Nat, k ≤ t.size ∧ kv = .int .i64 k ∧ (10 : UInt8) ∉ (bytes t).take k ∧ wr = wx) (fun kv _ => t.size - (intOf kv).toNat)
          case atStart => exact ⟨0, by omega, rfl, by simp, rfl⟩
          case round =>
            obtain ⟨k, hk, rfl, hno, rfl⟩ := hrel
            by_cases hkl : k < t.size
            · first
                | (exfalso; omega)
                | (have hb10 := byte10 (t[k]'hkl)
                   have htk : (bytes t).take (k + 1) = (bytes t).take k ++ [t[k]'hkl] := List.take_succ_eq_append_getElem (by rw [bytes_len]; exact hkl)
                   cases h10 : ((t[k]'hkl) == 10)
                   · rw [h10] at hb10
                     have hno2 : (10 : UInt8) ∉ (bytes t).take (k + 1) := by
                       rw [htk]
                       intro h
                       rcases List.mem_append.1 h with h | h
                       · exact hno h
                       · rw [List.mem_singleton] at h
                         rw [← h] at h10
                         cases h10
                     have Hhtk := Lib.hid htk
                     clear htk
                     have Hhno := Lib.hid hno
                     clear hno
                     have Hhno2 := Lib.hid hno2
                     clear hno2
                     have Hh10 := Lib.hid h10
                     clear h10
                     go_wp2_with fail
                     first
                       | (go_roundw
                          case rel => exact ⟨k + 1, by omega, by go_num, Hhno2.out, trivial⟩
                          case measure => simp [intOf]; omega)
                       | exact ⟨⟨k + 1, by omega, by go_num, Hhno2.out, trivial⟩, by simp [intOf]; omega⟩
                   · rw [h10] at hb10
                     have Hhtk := Lib.hid htk
                     clear htk
                     have Hhno := Lib.hid hno
                     clear hno
                     have Hh10 := Lib.hid h10
                     clear h10
                     go_wp2_with fail
                     refine (HhA.out _).mono ?_
                     rintro e w1 ⟨rfl, hx⟩
                     go_wp2_with fail
                     go_ret
                     exact ⟨rfl, HX.out.trans hx⟩)
            · obtain rfl : k = t.size := by omega
              have hno2 : (10 : UInt8) ∉ bytes t := by
                rw [List.take_of_length_le (by rw [bytes_len]; exact Nat.le_refl _)] at hno
                exact hno
              have Hhno := Lib.hid hno
              clear hno
              have Hhno2 := Lib.hid hno2
              clear hno2
              go_upto_if 63 with fail
              go_cut [5, 6] (fun sv nv wx => ∃ (S2 : List UInt8) (n3 : Nat), sv = .string (str S2) ∧ nv = .int .i64 n3 ∧ PL S2 n3 ys ∧ S2.length ≤ 80 * i + 14 ∧ n3 ≤ 2 * i + 1 ∧ wr = wx)
              case first =>
                have hcs : str S ++ (⟨#[32, 35, 32, 97, 32, 99, 111, 109, 109, 101, 110, 116, 92, 10]⟩ : ByteArray) = str (S ++ (cmtL ++ [10])) := by rw [← str_app]; rfl
                have hpc := HP.out.comment cmtL_no cmtL_comment
                have Hhpc := Lib.hid hpc
                clear hpc
                have Hhcs := Lib.hid hcs
                clear hcs
                go_wp2_with fail
                · go_meet
                  exact ⟨S ++ (cmtL ++ [10]), n + 1, by rw [Hhcs.out], by go_num, Hhpc.out, by simp [cmtL]; omega, by omega, by first | rfl | trivial⟩
                · go_meet
                  exact ⟨S, n, rfl, rfl, HP.out, by omega, by omega, by first | rfl | trivial⟩
              case rest =>
                obtain ⟨S2, n3, rfl, rfl, hP2, hS2, hn3, rfl⟩ := hcut
                have hstr : str S2 ++ t ++ (⟨#[10]⟩ : ByteArray) = str (S2 ++ (bytes t ++ [10])) := by
                  rw [← str_app, ← str_app, str_bytes]
                  exact bytes_inj (by simp [bytes])
                have hP3 := hP2.text Hhno2.out HCM.out Hhsf.out
                have hS3 : (S2 ++ (bytes t ++ [10])).length ≤ 80 * (i + 1) := by
                  rw [List.length_append, List.length_append, bytes_len, List.length_singleton]; omega
                obtain ⟨tt, htt⟩ : ∃ tt, tt = trimL (bytes t) := ⟨_, rfl⟩
                have hT3 := HhT.out
                rw [← htt] at hT3
                have hel : endL (n3 + 1) (bytes t) ys = if tt = [] then ys else ys ++ [(n3 + 1, tt)] := by rw [htt]; rfl
                rw [hel] at hP3
                have Hhel := Lib.hid hel
                clear hel
                have Hhtt := Lib.hid htt
                clear htt
                have Hhstr := Lib.hid hstr
                clear hstr
                have HhS3 := Lib.hid hS3
                clear hS3
                by_cases h0 : tt = []
                · rw [if_pos h0] at hP3
                  subst h0
                  have HhP3 := Lib.hid hP3
                  clear hP3
                  have HhT3 := Lib.hid hT3
                  clear hT3
                  have HhP2 := Lib.hid hP2
                  clear hP2
                  go_wp2_with fail
                  refine (HhT3.out _).mono ?_
                  rintro e w2 ⟨rfl, rfl⟩
                  go_wp2_with fail
                  first
                    | (go_roundw
                       case rel => exact ⟨i + 1, n3 + 1, S2 ++ (bytes t ++ [10]), ys, au, cu, by omega, by go_num, by go_num, by rw [Hhstr.out], rfl, by omega, HhS3.out, by omega, HhP3.out, HO.out, HX.out⟩
                       case measure => simp [intOf]; omega)
                    | exact ⟨⟨i + 1, n3 + 1, S2 ++ (bytes t ++ [10]), ys, au, cu, by omega, by go_num, by go_num, by rw [Hhstr.out], rfl, by omega, HhS3.out, by omega, HhP3.out, HO.out, HX.out⟩, by simp [intOf]; omega⟩
                · rw [if_neg h0] at hP3
                  have hn : (!tt.isEmpty) = true := by
                    cases tt with
                    | nil => exact absurd rfl h0
                    | cons x r => rfl
                  have hn2 : tt.isEmpty = false := by
                    cases tt with
                    | nil => exact absurd rfl h0
                    | cons x r => rfl
                  have HhP3 := Lib.hid hP3
                  clear hP3
                  have HhT3 := Lib.hid hT3
                  clear hT3
                  have HhP2 := Lib.hid hP2
                  clear hP2
                  go_wp2_with fail
                  refine (HhT3.out _).mono ?_
                  rintro e w2 ⟨rfl, rfl⟩
                  go_wp2_with fail
                  refine (HhT3.out _).mono ?_
                  rintro e w2 ⟨rfl, rfl⟩
                  go_wp2_with fail
                  refine (of_callsI _ _ _).mono ?_
                  rintro e w2 ⟨rfl, hx2⟩
                  have HX2 := Lib.hid (HX.out.trans hx2)
                  have HO2 := Lib.hid (ownsRow_keep (S := fun b => b < wr.heap.size) HO.out (Keep.of_below hx2 (fun _ h => h)) (fun b hb => (HO.out.lt b hb).2))
                  clear hx2
                  go_wp2_with (at_builtin
                               refine wpList_app_rd rfl (.tmp 77) (.tmp 82) _ rfl Try.underlying24 infoN rfl (by decide) encN_len encN_one w _ _ ys [(n3 + 1, tt)] rfl rfl (World.ownsRow.alloc HO2.out _) (rd_lit encN_len w2 [(n3 + 1, tt)] _ _ rfl) (by simp; omega) (by decide) (HX2.out.alloc _) ?_
                               intro au5 cu5 w5 ho5 hx5
                               have HO5 := Lib.hid ho5
                               have HX5 := Lib.hid hx5
                               clear ho5 hx5)
                  first
                    | (go_roundw
                       case rel => exact ⟨i + 1, n3 + 1, S2 ++ (bytes t ++ [10]), ys ++ [(n3 + 1, tt)], au5, cu5, by omega, by go_num, by go_num, by rw [Hhstr.out], by simp, by omega, HhS3.out, by simp; omega, HhP3.out, by simpa using HO5.out, HX5.out⟩
                       case measure => simp [intOf]; omega)
                    | exact ⟨⟨i + 1, n3 + 1, S2 ++ (bytes t ++ [10]), ys ++ [(n3 + 1, tt)], au5, cu5, by omega, by go_num, by go_num, by rw [Hhstr.out], by simp, by omega, HhS3.out, by simp; omega, HhP3.out, by simpa using HO5.out, HX5.out⟩, by simp [intOf]; omega⟩
    · obtain rfl : i = ts.length := by omega
      clear hx ho hPL
      have hisA := HP.out.is (by omega) (by omega)
      have hcnt := HP.out.lines
      have hrd := rd_of_own encN_len HO.out
      have hI := is_calls (str S) (by rw [str_size]; omega) _ ys wr hrd
      rw [show bytes (str S) = S from by simp [bytes], hisA] at hI
      have hcv := fun W => conv_str W (str S)
      have hCn := fun u W (h : Rd W 1 encB u S) => Count_calls u S (by omega) W h
      rw [hcnt] at hCn
      have HhI := Lib.hid hI
      clear hI
      have HhCn := Lib.hid hCn
      clear hCn
      have HhisA := Lib.hid hisA
      clear hisA
      have Hhcnt := Lib.hid hcnt
      clear hcnt
      have Hhrd := Lib.hid hrd
      clear hrd
      go_wp2_with fail
      refine HhI.out.mono ?_
      rintro e w2 ⟨rfl, hx2⟩
      have HX2 := Lib.hid (HX.out.trans hx2)
      clear hx2
      go_wp2_with fail
      have hrb := rd_bytes w2 (str S) (grownCap w2 (str S).size 0 5) (grownCap_ge _ _ _ _)
      rw [show bytes (str S) = S from by simp [bytes]] at hrb
      have hrb2 := fun fr => (hrb fr).ext ((Ext.refl _).drew)
      refine (HhCn.out _ _ (hrb2 _)).mono ?_
      rintro e w3 ⟨rfl, hx3⟩
      have HX3 := Lib.hid (((HX2.out.alloc _).drew).trans hx3)
      clear hx3 hrb hrb2 hcv
      go_wp2_with fail
      refine (HhA.out _).mono ?_
      rintro e w11 ⟨rfl, hx11⟩
      go_wp2_with fail
      go_ret
      exact ⟨rfl, HX3.out.trans hx11⟩
end L12
end Go.Proofs.Yteheegkdcphapaa
