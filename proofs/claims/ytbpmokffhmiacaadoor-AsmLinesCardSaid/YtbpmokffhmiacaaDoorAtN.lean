/- Layer 7: the walk of the law AsmLines. -/
import Derived.Test.YtbpmokffhmiacaaDoorAtK
import Derived.Test.YtbpmokffhmiacaaDoorAtN0
import Derived.Test.YtbpmokffhmiacaaDoorAsmQ
import Derived.Test.YtbpmokffhmiacaaDoorAsmN
namespace Go.Proofs.YtbpmokffhmiacaaDoor
open Go.RowKit Go.Shelf Go.Sort V
attribute [local go_sem] Oper.semAt_some
namespace L07
theorem idx_at {l : List UInt8} {k : Nat} {x : UInt8} (h : l[k]? = some x) : ∀ W : World, (Instr.index 9 (.string (str l)) (.int .i64 (k : Int))).run Tryd.prog W = .ok (.int .u8 (x.toNat : Int)) W := fun W => by
  obtain ⟨hk, rfl⟩ := List.getElem?_eq_some_iff.1 h
  rw [run_index_string W 9 (str l) .i64 _ Tryd.underlying9, dif_pos (by rw [str_size]; omega)]
  rfl
theorem u8_ne (x : UInt8) (n : Nat) (h : x ≠ UInt8.ofNat n) (hn : n < 256) : ((x.toNat : Int) == (n : Int)) = false ∧ ((x.toNat : Int) != (n : Int)) = true := by
  have h1 : ((x.toNat : Int) == (n : Int)) = false := by
    rw [beq_eq_false_iff_ne]
    intro e
    apply h
    apply UInt8.toNat_inj.1
    rw [UInt8.toNat_ofNat']
    omega
  exact ⟨h1, by rw [bne, h1]; rfl⟩
set_option maxRecDepth 100000 in
set_option maxHeartbeats 8000000 in
theorem AsmLines_calls (P : List In) (v : Value) (hP : ∀ i ∈ P, OkN i) (hl : P.length ≤ maxLen) (W : World) (ht : Tb W) (hv : Rd W 4 encN v P) :
    Calls Tryd.prog 5 #[v] W fun e w' => e = .returned (.bool true) ∧ Ext W w' := by
  have hvR := hv
  obtain ⟨a, c, rfl, -, hca⟩ := rdI_cell hv
  unfold maxLen at hl
  have hA := awake_calls W ht
  have HhA := Lib.hid hA
  clear hA
  by_cases hlong : 200 < P.length
  · have d1 : decide (200 < P.length) = true := decide_eq_true hlong
    have d2 : decide ((200 : Int) < (P.length : Int)) = true := decide_eq_true (by omega)
    clear hv hvR ht hP hca
    go_enter Tryd.func5, Tryd.ntmps5
    go_wp2_with (go_at_call 16; refine HhA.out.mono ?_; rintro e w1 ⟨rfl, hx1⟩; have HX1 := Lib.hid hx1; clear hx1)
    go_ret
    exact ⟨rfl, HX1.out⟩
  have d1 : decide (200 < P.length) = false := decide_eq_false hlong
  have d2 : decide ((200 : Int) < (P.length : Int)) = false := decide_eq_false (by omega)
  have hTx := fun w (hx : Ext W w) => Text_calls P _ hP (by omega) w (ht.ext hx).tab (hvR.ext hx)
  have HT := Lib.hid ht
  cases hc : canL P
  · simp only [hc] at hTx
    have HhTx := Lib.hid hTx
    clear hTx
    clear hv hvR ht hP hc hca
    go_enter Tryd.func5, Tryd.ntmps5
    go_wp2_with (first
      | (go_at_call 16; refine HhA.out.mono ?_; rintro e w1 ⟨rfl, hx1⟩; have HX1 := Lib.hid hx1; clear hx1)
      | (go_at_call 11; refine (HhTx.out _ HX1.out).mono ?_; rintro e w2 ⟨hx2, rfl⟩; have HX2 := Lib.hid (HX1.out.trans hx2); clear hx2))
    go_ret
    exact ⟨rfl, HX2.out⟩
  · simp only [hc] at hTx
    have hcl := hc
    rw [canL_eq] at hcl
    simp only [Bool.and_eq_true, decide_eq_true_eq] at hcl
    have hsc := scan_text hcl.2.1 P.length (Nat.le_refl _)
    have hpl := hcl.2.1
    have htl := text_len hP hc P.length (Nat.le_refl _)
    replace hTx : ∀ w, Ext W w → Calls Tryd.prog 11 #[.slice a P.length c] w fun e w' => Ext w w' ∧ e = .returned (.tuple #[.string (str (textK P P.length)), .int .i64 0]) := hTx
    generalize textK P P.length = T at *
    have HSC := Lib.hid hsc
    have HP := Lib.hid (And.intro hP hpl)
    have HV := Lib.hid hca
    have HhTx := Lib.hid hTx
    clear hTx
    clear hv hvR ht hP hc hca hcl hpl hsc
    go_enter Tryd.func5, Tryd.ntmps5
    go_wp2_with (first
      | (go_at_call 16; refine HhA.out.mono ?_; rintro e w1 ⟨rfl, hx1⟩; have HX1 := Lib.hid hx1; clear hx1)
      | (go_at_call 11; refine (HhTx.out _ HX1.out).mono ?_; rintro e w2 ⟨hx2, rfl⟩; have HX2 := Lib.hid (HX1.out.trans hx2); clear hx2))
    go_loopw [5, 6, 7] (fun na nl ni wr => ∃ (n m : Nat) (l : List UInt8), na = .int .i64 (n : Int) ∧ nl = .string (str l) ∧ ni = .int .i64 (m : Int) ∧ m ≤ T.length ∧ n ≤ m ∧ l.length ≤ m ∧ scanC P (T.take m) (0, []) = some (n, l) ∧ Ext W wr) (fun _ _ ni _ => T.length - (intOf ni).toNat)
    case atStart => exact ⟨0, 0, [], rfl, rfl, rfl, Nat.zero_le _, Nat.le_refl _, Nat.le_refl _, rfl, HX2.out⟩
    case round =>
      obtain ⟨n, m, l, rfl, rfl, rfl, hm, hn, hll, hs, hx⟩ := hrel
      have hts : (str T).size = T.length := str_size T
      by_cases hlt : m < T.length
      · obtain ⟨s', hst, hnx⟩ := scan_at HSC.out hlt hs
        have hit := idx_at (List.getElem?_eq_getElem hlt)
        have hb1 : (m : Int) < ((str T).size : Int) := by rw [hts]; omega
        have hb2 : decide ((m : Int) < ((str T).size : Int)) = true := decide_eq_true hb1
        generalize T[m] = ch at *
        have HX := Lib.hid hx
        have HN := Lib.hid hnx
        have HT2 := Lib.hid hts
        clear hs hx hnx hts
        by_cases hc : ch = 10
        · rw [hc] at hst hit
          have hst2 := stepC_end hst
          clear hst hc
          rcases hst2 with ⟨hlb, hh, rfl⟩ | ⟨hlb, hk, hle, rfl⟩
          · simp only at hlb hh
            unfold labB at hlb
            simp only [Bool.and_eq_true, decide_eq_true_eq, beq_iff_eq] at hlb
            obtain ⟨hl1, hl2⟩ := hlb
            obtain ⟨x, hx1, hx2⟩ := last_at l (fun e => by rw [e] at hl1; cases hl1)
            rw [hl2] at hx1
            cases hx1
            have hi0 := idx_at (l := l) (k := 0) (x := 76) (by rw [← List.head?_eq_getElem?]; exact hh)
            rw [← str_size] at hl1
            have hlx : ∀ W : World, (Instr.index 9 (.string (str l)) (.int .i64 (((str l).size : Int) - 1))).run Tryd.prog W = .ok (.int .u8 58) W := hx2
            have hi0' : ∀ W : World, (Instr.index 9 (.string (str l)) (.int .i64 0)).run Tryd.prog W = .ok (.int .u8 76) W := hi0
            have d5 : decide (1 < (str l).size) = true := decide_eq_true hl1
            have d6 : decide ((1 : Int) < ((str l).size : Int)) = true := decide_eq_true (by omega)
            have hw : IntKind.i64.wrap (((str l).size : Int) - 1) = ((str l).size : Int) - 1 := IntWalk.i64_in _ (by have := str_size l; omega)
            generalize str l = sl at *
            clear hh hl2 hx2 hi0
            go_wp2_with fail
            go_roundw
            case rel => exact ⟨n, m + 1, [], by go_num, rfl, by go_num, hlt, by omega, Nat.zero_le _, HN.out, HX.out⟩
            case measure => simp [intOf]; omega
          · simp only at hlb hk hle
            have hLc := fun w h => Line_calls P[n] (HP.out.1 _ (List.getElem_mem hk)) (n : Int) (by omega) (by omega) w h
            rw [line_plain HP.out.2 hk, ← hle] at hLc
            obtain ⟨pb, po, rfl, g1, g2, g3, g4⟩ := HV.out n hk
            replace g1 := HX.out.cell g1; replace g2 := HX.out.cell g2; replace g3 := HX.out.cell g3; replace g4 := HX.out.cell g4
            have d7 : decide (P.length ≤ n) = false := decide_eq_false (by omega)
            have d8 : decide ((P.length : Int) ≤ (n : Int)) = false := decide_eq_false (by omega)
            have hkI : (n : Int) < (P.length : Int) := by omega
            unfold inV at hLc
            clear hle
            generalize P[n] = i at *
            have HhLc := Lib.hid hLc
            clear hLc
            by_cases hl1 : 1 < l.length
            · unfold labB at hlb
              rw [decide_eq_true hl1, Bool.true_and] at hlb
              obtain ⟨x, hx1, hx2⟩ := last_at l (fun e => by rw [e] at hl1; cases hl1)
              have hx3 : x ≠ UInt8.ofNat 58 := fun e => by
                rw [hx1, e] at hlb
                exact absurd hlb (by decide)
              have ⟨q1, q2⟩ := u8_ne x 58 hx3 (by decide)
              rw [← str_size] at hl1
              have hlx : ∀ W : World, (Instr.index 9 (.string (str l)) (.int .i64 (((str l).size : Int) - 1))).run Tryd.prog W = .ok (.int .u8 (x.toNat : Int)) W := hx2
              have d5 : decide (1 < (str l).size) = true := decide_eq_true hl1
              have d6 : decide ((1 : Int) < ((str l).size : Int)) = true := decide_eq_true (by omega)
              have hw : IntKind.i64.wrap (((str l).size : Int) - 1) = ((str l).size : Int) - 1 := IntWalk.i64_in _ (by have := str_size l; omega)
              simp only [Int.cast_ofNat_Int] at q1 q2
              generalize str l = sl at *
              clear hlb hx1 hx2 hx3
              skip
              go_wp2_with (go_at_call 8; refine (HhLc.out _ (HT.out.ext HX.out).tab).mono ?_; rintro e w5 ⟨rfl, hx5⟩; have HX5 := Lib.hid (HX.out.trans hx5); clear hx5)
              go_roundw
              case rel => exact ⟨n + 1, m + 1, [], by go_num, rfl, by go_num, hlt, by omega, Nat.zero_le _, HN.out, HX5.out⟩
              case measure => simp [intOf]; omega
            · rw [← str_size] at hl1
              have d5 : decide (1 < (str l).size) = false := decide_eq_false hl1
              have d6 : decide ((1 : Int) < ((str l).size : Int)) = false := decide_eq_false (by omega)
              generalize str l = sl at *
              clear hlb
              skip
              go_wp2_with (go_at_call 8; refine (HhLc.out _ (HT.out.ext HX.out).tab).mono ?_; rintro e w5 ⟨rfl, hx5⟩; have HX5 := Lib.hid (HX.out.trans hx5); clear hx5)
              go_roundw
              case rel => exact ⟨n + 1, m + 1, [], by go_num, rfl, by go_num, hlt, by omega, Nat.zero_le _, HN.out, HX5.out⟩
              case measure => simp [intOf]; omega
        · obtain rfl := stepC_mid hc hst
          have ⟨q1, q2⟩ := u8_ne ch 10 hc (by decide)
          have hcv : (convert 37 9 (.slice (some ⟨wr.heap.size, 0, none⟩) 1 1)).run Tryd.prog (wr.alloc (.cells #[.int .u8 (ch.toNat : Int)] 5)) = .ok (.string (str [ch])) (wr.alloc (.cells #[.int .u8 (ch.toNat : Int)] 5)) := conv_rd (l := [ch]) (rd_lit encB_len wr [ch] 5 _ rfl)
          have hcat : str l ++ str [ch] = str (l ++ [ch]) := str_app l [ch]
          have hz1 : (str l).size ≤ 100000 := by rw [str_size]; omega
          have hz2 : (str [ch]).size ≤ 100000 := by show 1 ≤ 100000; decide
          clear hst hc
          simp only [Int.cast_ofNat_Int] at q1 q2
          go_wp2_with fail
          go_roundw
          case rel => exact ⟨n, m + 1, l ++ [ch], by go_num, rfl, by go_num, hlt, by omega, (by rw [List.length_append, List.length_singleton]; omega), HN.out, HX.out.alloc _⟩
          case measure => simp [intOf]; omega
      · have hmm : m = T.length := by omega
        rw [hmm, List.take_length, HSC.out] at hs
        simp only [Option.some.injEq, Prod.mk.injEq] at hs
        obtain ⟨rfl, rfl⟩ := hs
        have hb2 : decide ((m : Int) < ((str T).size : Int)) = false := decide_eq_false (by rw [hts]; omega)
        have hb3 : decide (m < (str T).size) = false := decide_eq_false (by rw [hts]; omega)
        have HX := Lib.hid hx
        rw [show str [] = ⟨#[]⟩ from rfl]
        clear hx hts hmm
        go_wp2_with fail
        go_ret
        exact ⟨rfl, HX.out⟩
end L07
end Go.Proofs.YtbpmokffhmiacaaDoor
