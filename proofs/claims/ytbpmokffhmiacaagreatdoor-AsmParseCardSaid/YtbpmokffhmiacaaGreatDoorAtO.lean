/- Layer 7: the walk of the law AsmParse. -/
import Derived.Test.YtbpmokffhmiacaaGreatDoorAtJ
import Derived.Test.YtbpmokffhmiacaaGreatDoorAsmW0
import Derived.Laws.IdiomStrings
import Derived.Laws.BitsAllLaws
namespace Go.Proofs.YtbpmokffhmiacaaGreatDoor
open Go.RowKit Go.Shelf Go.Sort V
attribute [local go_sem] Oper.semAt_some
namespace L07
def noneP : In := ⟨0, 0, 0, 0⟩
theorem conv_str (w : World) (s : ByteArray) : (convert 9 24 (.string s)).run Tryz.prog w = .ok (.slice (some ⟨w.heap.size, 0, none⟩) s.size (grownCap w s.size 0 5))
      (w.drew.alloc (.cells (bytesRow s (grownCap w s.size 0 5)) 5 ((bytesRow s (grownCap w s.size 0 5)).size, (bytesRow s (grownCap w s.size 0 5)).size + 1))) :=
  run_bytes_of_string w _ _ _ s Tryz.underlying9 Tryz.underlying24 Tryz.underlying5
theorem rd_bytes (w : World) (s : ByteArray) (cap : Nat) (hc : s.size ≤ cap) (fr : Nat × Nat) : Rd (w.alloc (.cells (bytesRow s cap) 5 fr)) 1 encB (.slice (some ⟨w.heap.size, 0, none⟩) s.size cap) (bytes s) := by
  refine ⟨_, cap, by rw [bytes_len], by rw [bytes_len]; exact hc, (fun e => by cases e), fun i hi => ⟨w.heap.size, 0, rfl, fun j hj => ?_⟩⟩
  have hj0 : j = 0 := by simp [encB] at hj; exact hj
  subst hj0
  have hi' : i < s.data.size := by rw [bytes_len] at hi; exact hi
  rw [show 0 + i * 1 + 0 = i by omega, World.cell?_alloc_mark, bytesRow_at s cap i hi']
  simp [encB, bytes]
theorem rd_set {W : World} {B n cap k : Nat} {T : List UInt8} (h : Rd W 1 encB (.slice (some ⟨B, 0, none⟩) n cap) T) (hk : k < T.length) (z : UInt8) : Rd (W.setCell ⟨B, k, none⟩ (.int .u8 (z.toNat : Int))) 1 encB (.slice (some ⟨B, 0, none⟩) n cap) (T.set k z) := by
  obtain ⟨a, c, e, h1, h2, h3⟩ := h
  simp only [Value.slice.injEq] at e
  obtain ⟨rfl, rfl, rfl⟩ := e
  refine ⟨_, cap, by rw [List.length_set], by rw [List.length_set]; exact h1, (fun e => by cases e), fun i hi => ⟨B, 0, rfl, fun j hj => ?_⟩⟩
  have hj0 : j = 0 := by simp [encB] at hj; exact hj
  subst hj0
  rw [List.length_set] at hi
  obtain ⟨b, o, e, hat⟩ := h3 i hi
  simp only [Option.some.injEq, Addr.mk.injEq, and_true] at e
  obtain ⟨rfl, rfl⟩ := e
  have h5 := hat 0 (by simp [encB])
  obtain ⟨b', o', e', hatk⟩ := h3 k hk
  simp only [Option.some.injEq, Addr.mk.injEq, and_true] at e'
  obtain ⟨rfl, rfl⟩ := e'
  have h6 := hatk 0 (by simp [encB])
  simp only [Nat.zero_add, Nat.mul_one, Nat.add_zero] at h5 h6 ⊢
  by_cases hik : i = k
  · subst hik
    rw [World.cell?_setCell_same' W _ _ (by rw [h6]; rfl)]
    simp [encB]
  · rw [World.cell?_setCell_other (h := fun e => hik (by cases e; rfl)), h5]
    simp [encB, List.getElem_set_ne (fun e => hik e.symm)]
set_option maxRecDepth 100000 in
set_option maxHeartbeats 16000000 in
theorem AsmParse_calls (s : ByteArray) (hs : s.size ≤ maxLen) (P : List In) (v : Value) (hP : ∀ i ∈ P, OkN i) (hl : P.length ≤ maxLen) (at' : Int) (hat : -9223372036854775808 ≤ at' ∧ at' ≤ 9223372036854775807) (by' : Nat) (hby : by' < 256) (W : World) (ht : Tb W) (hv : Rd W 4 encN v P) :
    Calls Tryz.prog 3 #[.string s, v, .int .i64 at', .int .u8 (by' : Int)] W fun e w' => e = .returned (.bool true) ∧ Ext W w' := by
  have hvR := hv
  obtain ⟨a, c, rfl, -, -⟩ := rdI_cell hv
  unfold maxLen at hl hs
  by_cases hbig : 3000 < s.size
  · have d3 : decide (3000 < s.size) = true := decide_eq_true hbig
    have d4 : decide ((3000 : Int) < (s.size : Int)) = true := decide_eq_true (by omega)
    clear hv hvR ht hP
    go_enter Tryz.func3, Tryz.ntmps3
    go_wp2_with fail
    go_ret
    exact ⟨rfl, Ext.refl _⟩
  have d3 : decide (3000 < s.size) = false := decide_eq_false hbig
  have d4 : decide ((3000 : Int) < (s.size : Int)) = false := decide_eq_false (by omega)
  by_cases hlong : 200 < P.length
  · have d1 : decide (200 < P.length) = true := decide_eq_true hlong
    have d2 : decide ((200 : Int) < (P.length : Int)) = true := decide_eq_true (by omega)
    clear hv hvR ht hP
    go_enter Tryz.func3, Tryz.ntmps3
    go_wp2_with fail
    go_ret
    exact ⟨rfl, Ext.refl _⟩
  have d1 : decide (200 < P.length) = false := decide_eq_false hlong
  have d2 : decide ((200 : Int) < (P.length : Int)) = false := decide_eq_false (by omega)
  have hCn := fun w (hx : Ext W w) => rCan_calls P _ hP (by omega) w (hvR.ext hx)
  have HT := Lib.hid ht
  cases hc : canL P
  · simp only [hc] at hCn
    have hPs := fun w (h : Tb w) => Parse_calls (bytes s) (by rw [bytes_len]; omega) w h
    rw [str_bytes] at hPs
    have HhCn := Lib.hid hCn
    clear hCn
    have HhPs := Lib.hid hPs
    clear hPs
    clear hv hvR ht hP hc
    go_enter Tryz.func3, Tryz.ntmps3
    go_upto_region 9 with (go_at_call 4; refine (HhCn.out _ (Ext.refl _)).mono ?_; rintro e w2 ⟨rfl, hx2⟩; have HX2 := Lib.hid hx2; clear hx2)
    go_wp2_with fail
    refine (HhPs.out _ (HT.out.ext HX2.out)).mono ?_
    rintro e w3 ⟨hx3, ⟨q, u, hq, rfl, hr3, hk3⟩ | ⟨hq, rfl⟩⟩
    · obtain ⟨hcq, htq⟩ := parse_sound hq
      have hCq := fun w (hx : Ext w3 w) => rCan_calls q _ hk3 (by rw [canL_eq] at hcq; simp only [Bool.and_eq_true, decide_eq_true_eq] at hcq; omega) w (hr3.ext hx)
      rw [hcq] at hCq
      have hTq := fun w (hx : Ext w3 w) => rText_calls q _ hk3 (by rw [canL_eq] at hcq; simp only [Bool.and_eq_true, decide_eq_true_eq] at hcq; omega) (by rw [canL_eq] at hcq; simp only [Bool.and_eq_true, decide_eq_true_eq] at hcq; exact hcq.2.1) w (hr3.ext hx)
      rw [htq, str_bytes] at hTq
      obtain ⟨au, cu, hau, -⟩ := rdI_cell hr3
      subst hau
      have HX3 := Lib.hid (HX2.out.trans hx3)
      have HhCq := Lib.hid hCq
      clear hCq
      have HhTq := Lib.hid hTq
      clear hTq
      clear hx3 hr3 hk3 hq hcq htq
      go_wp2_with (first
        | (go_at_call 4; with_reducible refine (Calls.mono (HhCq.out _ (Ext.refl _)) ?_); rintro e w4 ⟨rfl, hx4⟩; have HX4 := Lib.hid hx4; clear hx4)
        | (go_at_call 5; with_reducible refine (Calls.mono (HhTq.out _ HX4.out) ?_); rintro e w5 ⟨rfl, hx5⟩; have HX5 := Lib.hid (HX3.out.trans (HX4.out.trans hx5)); clear hx5))
      go_ret
      exact ⟨by simp, HX5.out⟩
    · have HX3 := Lib.hid (HX2.out.trans hx3)
      clear hx3 hq
      go_wp2_with (go_at_call 4; refine (HhCn.out _ HX3.out).mono ?_; rintro e w4 ⟨rfl, hx4⟩; have HX4 := Lib.hid (HX3.out.trans hx4); clear hx4)
      go_ret
      exact ⟨rfl, HX4.out⟩
  · simp only [hc] at hCn
    have hl2 : P.length ≤ 4096 := by omega
    have hpl : P.all plainI = true := by rw [canL_eq] at hc; simp only [Bool.and_eq_true, decide_eq_true_eq] at hc; exact hc.2.1
    have hTx := fun w (hx : Ext W w) => rText_calls P _ hP hl2 hpl w (hvR.ext hx)
    have hback := parse_back hP hc
    have htl := text_len hP hc P.length (Nat.le_refl _)
    replace hTx : ∀ w, Ext W w → Calls Tryz.prog 5 #[.slice a P.length c] w fun e w' => e = .returned (.string (str (textK P P.length))) ∧ Ext w w' := hTx
    replace hback : parseA (textK P P.length) = some P := hback
    generalize textK P P.length = T at *
    have hcs := fun w => conv_str w (str T)
    have HhCn := Lib.hid hCn
    clear hCn
    have HhTx := Lib.hid hTx
    clear hTx
    have HB := Lib.hid hback
    clear hv hvR ht hP hc hpl hback
    go_enter Tryz.func3, Tryz.ntmps3
    go_upto_region 6 with (first
      | (go_at_call 4; refine (HhCn.out _ (Ext.refl _)).mono ?_; rintro e w2 ⟨rfl, hx2⟩; have HX2 := Lib.hid hx2; clear hx2)
      | (go_at_call 5; refine (HhTx.out _ HX2.out).mono ?_; rintro e w3 ⟨rfl, hx3⟩; have HX3 := Lib.hid (HX2.out.trans hx3); have hc3 := hcs w3; clear hx3))
    have hrd := rd_bytes w3 (str T) (grownCap w3 (str T).size 0 5) (grownCap_ge _ _ _ _) ((bytesRow (str T) (grownCap w3 (str T).size 0 5)).size, (bytesRow (str T) (grownCap w3 (str T).size 0 5)).size + 1)
    rw [bytes_str] at hrd
    replace hrd := hrd.ext (Ext.refl _).drew
    have hfz : ∀ j, j < T.length → (w3.alloc (.cells (bytesRow (str T) (grownCap w3 (str T).size 0 5)) 5 ((bytesRow (str T) (grownCap w3 (str T).size 0 5)).size, (bytesRow (str T) (grownCap w3 (str T).size 0 5)).size + 1))).drew.frozen? ⟨w3.heap.size, j, none⟩ = false := fun j hj => by
      show (w3.alloc _).frozen? _ = false
      rw [World.frozen?_alloc_mark, decide_eq_false (by have : T.length ≤ (bytesRow (str T) (grownCap w3 (str T).size 0 5)).size := (by unfold bytesRow; rw [Array.size_append, Array.size_map]; have : (str T).data.size = T.length := str_size T; omega); omega)]
      rfl
    have hx6 : Ext W (w3.alloc (.cells (bytesRow (str T) (grownCap w3 (str T).size 0 5)) 5 ((bytesRow (str T) (grownCap w3 (str T).size 0 5)).size, (bytesRow (str T) (grownCap w3 (str T).size 0 5)).size + 1))).drew := (HX3.out.alloc _).drew
    obtain ⟨W6, hW6⟩ : ∃ W6, (w3.alloc (.cells (bytesRow (str T) (grownCap w3 (str T).size 0 5)) 5 ((bytesRow (str T) (grownCap w3 (str T).size 0 5)).size, (bytesRow (str T) (grownCap w3 (str T).size 0 5)).size + 1))).drew = W6 := ⟨_, rfl⟩
    rw [hW6] at hrd hfz hx6 ⊢
    clear hW6
    generalize grownCap w3 (str T).size 0 5 = cap at *
    obtain ⟨nT, hnT⟩ : ∃ nT, (str T).size = nT := ⟨_, rfl⟩
    rw [hnT] at hrd ⊢
    have hn2 : nT = T.length := hnT.symm.trans (str_size T)
    obtain ⟨B, hB⟩ : ∃ B, w3.heap.size = B := ⟨_, rfl⟩
    rw [hB] at hrd hfz ⊢
    have hBw : W.heap.size ≤ B := by rw [← hB]; exact HX3.out.size
    have HN2 := Lib.hid hn2
    clear hcs hc3 hnT hn2 hB
    by_cases h0 : at' < 0
    · have f1 : decide (0 ≤ at') = false := decide_eq_false (by omega)
      have hcv := conv_rd hrd
      clear hfz
      have HXo := Lib.hid hx6
      have HR := Lib.hid hrd
      clear hx6 hrd
      go_upto_region 9 with fail
      have hPs := fun w (h : Tb w) => Parse_calls T (by omega) w h
      have HhPs := Lib.hid hPs
      clear hPs
      go_wp2_with fail
      refine (HhPs.out _ (HT.out.ext HXo.out)).mono ?_
      rintro e w8 ⟨hx8, ⟨q, u, hq, rfl, hr3, hk3⟩ | ⟨hq, rfl⟩⟩
      · obtain ⟨hcq, htq⟩ := parse_sound hq
        have hCq := fun w (hx : Ext w8 w) => rCan_calls q _ hk3 (by rw [canL_eq] at hcq; simp only [Bool.and_eq_true, decide_eq_true_eq] at hcq; omega) w (hr3.ext hx)
        rw [hcq] at hCq
        have hTq := fun w (hx : Ext w8 w) => rText_calls q _ hk3 (by rw [canL_eq] at hcq; simp only [Bool.and_eq_true, decide_eq_true_eq] at hcq; omega) (by rw [canL_eq] at hcq; simp only [Bool.and_eq_true, decide_eq_true_eq] at hcq; exact hcq.2.1) w (hr3.ext hx)
        rw [htq] at hTq
        obtain ⟨au, cu, hau, -⟩ := rdI_cell hr3
        subst hau
        have HX8 := Lib.hid (HXo.out.trans hx8)
        have HhCq := Lib.hid hCq
        clear hCq
        have HhTq := Lib.hid hTq
        clear hTq
        clear hx8 hr3 hk3 hq hcq htq
        go_wp2_with (first
          | (go_at_call 4; with_reducible refine (Calls.mono (HhCq.out _ (Ext.refl _)) ?_); rintro e w4 ⟨rfl, hx4⟩; have HX4 := Lib.hid hx4; clear hx4)
          | (go_at_call 5; with_reducible refine (Calls.mono (HhTq.out _ HX4.out) ?_); rintro e w5 ⟨rfl, hx5⟩; have HX5 := Lib.hid (HX8.out.trans (HX4.out.trans hx5)); clear hx5))
        go_ret
        exact ⟨by simp, HX5.out⟩
      · rw [HB.out] at hq
        cases hq
    have f1 : decide (0 ≤ at') = true := decide_eq_true (by omega)
    by_cases h1 : (nT : Int) ≤ at'
    · have f2 : decide (at' < (nT : Int)) = false := decide_eq_false (by omega)
      have hcv := conv_rd hrd
      clear hfz
      have HXo := Lib.hid hx6
      have HR := Lib.hid hrd
      clear hx6 hrd
      go_upto_region 9 with fail
      have hPs := fun w (h : Tb w) => Parse_calls T (by omega) w h
      have HhPs := Lib.hid hPs
      clear hPs
      go_wp2_with fail
      refine (HhPs.out _ (HT.out.ext HXo.out)).mono ?_
      rintro e w8 ⟨hx8, ⟨q, u, hq, rfl, hr3, hk3⟩ | ⟨hq, rfl⟩⟩
      · obtain ⟨hcq, htq⟩ := parse_sound hq
        have hCq := fun w (hx : Ext w8 w) => rCan_calls q _ hk3 (by rw [canL_eq] at hcq; simp only [Bool.and_eq_true, decide_eq_true_eq] at hcq; omega) w (hr3.ext hx)
        rw [hcq] at hCq
        have hTq := fun w (hx : Ext w8 w) => rText_calls q _ hk3 (by rw [canL_eq] at hcq; simp only [Bool.and_eq_true, decide_eq_true_eq] at hcq; omega) (by rw [canL_eq] at hcq; simp only [Bool.and_eq_true, decide_eq_true_eq] at hcq; exact hcq.2.1) w (hr3.ext hx)
        rw [htq] at hTq
        obtain ⟨au, cu, hau, -⟩ := rdI_cell hr3
        subst hau
        have HX8 := Lib.hid (HXo.out.trans hx8)
        have HhCq := Lib.hid hCq
        clear hCq
        have HhTq := Lib.hid hTq
        clear hTq
        clear hx8 hr3 hk3 hq hcq htq
        go_wp2_with (first
          | (go_at_call 4; with_reducible refine (Calls.mono (HhCq.out _ (Ext.refl _)) ?_); rintro e w4 ⟨rfl, hx4⟩; have HX4 := Lib.hid hx4; clear hx4)
          | (go_at_call 5; with_reducible refine (Calls.mono (HhTq.out _ HX4.out) ?_); rintro e w5 ⟨rfl, hx5⟩; have HX5 := Lib.hid (HX8.out.trans (HX4.out.trans hx5)); clear hx5))
        go_ret
        exact ⟨by simp, HX5.out⟩
      · rw [HB.out] at hq
        cases hq
    obtain ⟨k, rfl⟩ : ∃ k : Nat, at' = (k : Int) := ⟨at'.toNat, by omega⟩
    have hk : k < nT := by omega
    have f2 : decide ((k : Int) < (nT : Int)) = true := decide_eq_true (by omega)
    have f3 : decide (k < nT) = true := decide_eq_true hk
    have f4 : (k : Int) < (nT : Int) := by omega
    have hfk := hfz k (by rw [← HN2.out]; exact hk)
    have hkT : k < T.length := by rw [← HN2.out]; exact hk
    have hck : W6.cell? ⟨B, k, none⟩ = some (.int .u8 (T[k].toNat : Int)) := by
      obtain ⟨a', c', e, -, -, h3⟩ := hrd
      simp only [Value.slice.injEq] at e
      obtain ⟨b, o, e', hat⟩ := h3 k hkT
      rw [← e.1] at e'
      simp only [Option.some.injEq, Addr.mk.injEq, and_true] at e'
      obtain ⟨rfl, rfl⟩ := e'
      have h6 := hat 0 (by simp [encB])
      simp only [Nat.zero_add, Nat.mul_one, Nat.add_zero] at h6
      simpa [encB] using h6
    have hxor := u8_xor_nat T[k].toNat by' (UInt8.toNat_lt _) hby
    obtain ⟨z, hz⟩ : ∃ z : UInt8, z.toNat = T[k].toNat ^^^ by' := ⟨UInt8.ofNat (T[k].toNat ^^^ by'), by
      rw [UInt8.toNat_ofNat']
      exact Nat.mod_eq_of_lt (Nat.xor_lt_two_pow (n := 8) (UInt8.toNat_lt _) hby)⟩
    rw [← hz] at hxor
    have hrd7 := rd_set hrd hkT z
    have hx7 := hx6.setCell (p := ⟨B, k, none⟩) hBw (.int .u8 (z.toNat : Int))
    have hcv := conv_rd hrd7
    have HL : Hid ((T.set k z).length ≤ 100000) := Lib.hid (by rw [List.length_set]; omega)
    generalize T.set k z = T' at *
    generalize T[k] = x at *
    have HXo := Lib.hid hx7
    clear hx6 hrd hfz hz hkT hrd7 hx7
    go_upto_region 9 with fail
    have hPs := fun w (h : Tb w) => Parse_calls T' (by exact HL.out) w h
    have HhPs := Lib.hid hPs
    clear hPs
    go_wp2_with fail
    refine (HhPs.out _ (HT.out.ext HXo.out)).mono ?_
    rintro e w8 ⟨hx8, ⟨q, u, hq, rfl, hr3, hk3⟩ | ⟨hq, rfl⟩⟩
    · obtain ⟨hcq, htq⟩ := parse_sound hq
      have hCq := fun w (hx : Ext w8 w) => rCan_calls q _ hk3 (by rw [canL_eq] at hcq; simp only [Bool.and_eq_true, decide_eq_true_eq] at hcq; omega) w (hr3.ext hx)
      rw [hcq] at hCq
      have hTq := fun w (hx : Ext w8 w) => rText_calls q _ hk3 (by rw [canL_eq] at hcq; simp only [Bool.and_eq_true, decide_eq_true_eq] at hcq; omega) (by rw [canL_eq] at hcq; simp only [Bool.and_eq_true, decide_eq_true_eq] at hcq; exact hcq.2.1) w (hr3.ext hx)
      rw [htq] at hTq
      obtain ⟨au, cu, hau, -⟩ := rdI_cell hr3
      subst hau
      have HX8 := Lib.hid (HXo.out.trans hx8)
      have HhCq := Lib.hid hCq
      clear hCq
      have HhTq := Lib.hid hTq
      clear hTq
      clear hx8 hr3 hk3 hq hcq htq
      go_wp2_with (first
        | (go_at_call 4; with_reducible refine (Calls.mono (HhCq.out _ (Ext.refl _)) ?_); rintro e w4 ⟨rfl, hx4⟩; have HX4 := Lib.hid hx4; clear hx4)
        | (go_at_call 5; with_reducible refine (Calls.mono (HhTq.out _ HX4.out) ?_); rintro e w5 ⟨rfl, hx5⟩; have HX5 := Lib.hid (HX8.out.trans (HX4.out.trans hx5)); clear hx5))
      go_ret
      exact ⟨by simp, HX5.out⟩
    · have HX8 := Lib.hid (HXo.out.trans hx8)
      have hne : ((str T').toList == (str T).toList) = false := by
        rw [beq_eq_false_iff_ne]
        intro e
        rw [ByteArray.toList_eq, ByteArray.toList_eq] at e
        have e2 : T' = T := (bytes_str _).symm.trans (e.trans (bytes_str _))
        rw [e2, HB.out] at hq
        cases hq
      have hTx2 := HhTx.out
      generalize str T = sT at *
      generalize str T' = st at *
      have HTx2 := Lib.hid hTx2
      clear hx8 hq hTx2
      go_wp2_with (first
        | (go_at_call 4; with_reducible refine (Calls.mono (HhCn.out _ HX8.out) ?_); rintro e w9 ⟨rfl, hx9⟩; have HX9 := Lib.hid (HX8.out.trans hx9); clear hx9)
        | (go_at_call 5; with_reducible refine (Calls.mono (HTx2.out _ HX9.out) ?_); rintro e w10 ⟨rfl, hx10⟩; have HX10 := Lib.hid (HX9.out.trans hx10); clear hx10))
      go_ret
      exact ⟨by simp, HX10.out⟩
end L07
end Go.Proofs.YtbpmokffhmiacaaGreatDoor
