/- Layer 8: the law ArchLists. -/
import Derived.Deep.RegionLaw
import Derived.Test.YtimpokibippenaaArchE
namespace Go.Proofs.Ytimpokibippenaa
open Go.RowKit V
namespace L08
theorem inA_yes {xs : List Int} {a : Int} (h : a ∈ xs) : inA xs a = true := by unfold inA; rw [List.contains_iff_mem.2 h, Bool.or_true]
theorem inA_turn (xs : List Int) (k : Nat) (a : Int) : inA (xs.drop k ++ xs.take k) a = inA xs a := by
  unfold inA
  congr 1
  · rw [Bool.eq_iff_iff, decide_eq_true_iff, decide_eq_true_iff, List.length_append, List.length_drop, List.length_take]; omega
  · rw [Bool.eq_iff_iff, List.contains_iff_mem, List.contains_iff_mem, List.mem_append]
    conv => rhs; rw [← List.take_append_drop k xs, List.mem_append]
    exact or_comm
set_option maxRecDepth 100000 in
set_option maxHeartbeats 2000000 in
theorem ArchLists_calls (v : Value) (xs : List Int) (a at_ : Int) (hnl : xs.length ≤ maxLen) (w : World) (hv : Rd w 1 encI v xs) :
    Calls Try.prog 5 #[v, .int .i64 a, .int .i64 at_] w fun e w' => e = .returned (.bool true) ∧ Ext w w' := by
  have hrd0 := hv
  obtain ⟨ad, c, rfl, hac, hca⟩ := rdI_cell hv
  clear hv
  have Hhrd0 := Lib.hid hrd0
  clear hrd0
  have Hhca := Lib.hid hca
  clear hca
  unfold maxLen at hnl
  have hnil := fun w => In_calls (.slice none 0 0) [] a (by simp) w (rd_none w 1 encI)
  rw [show inA [] a = true from rfl] at hnil
  have Hhnil := Lib.hid hnil
  clear hnil
  by_cases h0 : xs.length = 0
  · have hd : ((xs.length : Int) == 0) = true := by rw [h0]; rfl
    have Hh0 := Lib.hid h0
    clear h0
    go_enter Try.func5, Try.ntmps5
    go_wp2_with fail
    refine (Hhnil.out _).mono ?_; rintro e w1 ⟨rfl, hx1⟩
    go_wp2_with (go_at_call 12; refine (awake_calls _).mono ?_; rintro e w2 ⟨rfl, hx2⟩)
    go_ret
    exact ⟨rfl, hx1.trans hx2⟩
  have hd : ((xs.length : Int) == 0) = false := beq_eq_false_iff_ne.2 (by omega)
  by_cases hlen : 40 < xs.length
  · have hd2 : decide (40 < xs.length) = true := decide_eq_true hlen
    have hd2' : decide (40 < (xs.length : Int)) = true := decide_eq_true (by omega)
    have Hh0 := Lib.hid h0
    clear h0
    have Hhlen := Lib.hid hlen
    clear hlen
    go_enter Try.func5, Try.ntmps5
    go_wp2_with fail
    refine (Hhnil.out _).mono ?_; rintro e w1 ⟨rfl, hx1⟩
    go_wp2_with (go_at_call 12; refine (awake_calls _).mono ?_; rintro e w2 ⟨rfl, hx2⟩)
    go_ret
    exact ⟨rfl, hx1.trans hx2⟩
  have hd2 : decide (40 < xs.length) = false := decide_eq_false hlen
  have hd2' : decide (40 < (xs.length : Int)) = false := decide_eq_false (by omega)
  have hll : xs.length ≤ 40 := by omega
  have hpos : 0 < xs.length := by omega
  obtain ⟨k, hkl, hkm⟩ : ∃ k : Nat, k < xs.length ∧ (IntKind.u64.wrap at_).tmod (xs.length : Int) = (k : Int) := by
    have hw : 0 ≤ IntKind.u64.wrap at_ := by rw [IntKind.wrap_u64]; omega
    have h3 := Int.emod_nonneg (IntKind.u64.wrap at_) (by omega : (xs.length : Int) ≠ 0)
    have h4 := Int.emod_lt_of_pos (IntKind.u64.wrap at_) (by omega : (0 : Int) < (xs.length : Int))
    rw [Int.tmod_eq_emod_of_nonneg hw]
    exact ⟨((IntKind.u64.wrap at_) % (xs.length : Int)).toNat, by omega, by omega⟩
  obtain ⟨b, o, rfl, g1⟩ := Hhca.out k hkl
  have hsz : (Try.prog.info? 3).map (·.size) = some 1 := by kernel_rfl
  obtain ⟨A, hsl, hsA, hsN⟩ := run_slice_from (P := Try.prog) Try.underlying36 (by kernel_rfl) hsz (some ⟨b, o, none⟩) xs.length c k (by omega)
  replace hsl := hsl (k : Int) rfl
  have hRd : ∀ W, Ext w W → Rd W 1 encI (.slice A (xs.length - k) (c - k)) (xs.drop k) := fun W hx => (Hhrd0.out.ext hx).drop (by omega) (fun h => hsA (by omega)) (fun h => by have := hsN h; cases this) (by omega)
  have hRt : ∀ W, Ext w W → Rd W 1 encI (.slice (some ⟨b, o, none⟩) k c) (xs.take k) := fun W hx => (Hhrd0.out.ext hx).take (by omega) (by omega) (by intro h; cases h)
  have hbk : (k : Int) < (xs.length : Int) := by omega
  have hbk0 : (0 : Int) ≤ (k : Int) := by omega
  have hbk1 : (k : Int) ≤ (c : Int) := by omega
  have hbk2 : (k : Int) ≤ (xs.length : Int) := by omega
  have hmem : xs[k] ∈ xs := List.getElem_mem hkl
  have hI1 := fun w1 (hx : Ext w w1) => In_calls _ xs xs[k] (by omega) w1 (Hhrd0.out.ext hx)
  have hI2 := fun w1 (hx : Ext w w1) => In_calls _ xs a (by omega) w1 (Hhrd0.out.ext hx)
  have hI3 := fun v w1 (h : Rd w1 1 encI v (xs.drop k ++ xs.take k)) => In_calls v _ a (by simp; omega) w1 h
  have hI4 := fun v w1 (h : Rd w1 1 encI v (xs.drop k ++ xs.take k ++ [a])) => In_calls v _ a (by simp; omega) w1 h
  rw [inA_yes hmem] at hI1
  rw [inA_turn] at hI3
  rw [inA_yes (by simp)] at hI4
  have hl1 : ([] : List Int).length + (xs.drop k).length = xs.length - k := by simp
  have hl2 : (xs.drop k).length + (xs.take k).length = xs.length := by simp; omega
  have hl3 : (xs.drop k).length = xs.length - k := by simp
  have hl4 : (xs.drop k ++ xs.take k).length = xs.length := by rw [List.length_append]; exact hl2
  have hl5 : (xs.drop k ++ xs.take k).length + [a].length = xs.length + 1 := by rw [hl4]; rfl
  have hl6 : (xs.drop k ++ xs.take k ++ [a]).length = xs.length + 1 := by rw [List.length_append]; exact hl5
  clear hsA hsN hmem
  generalize xs[k] = x at *
  generalize inA xs a = ia at *
  have HhRd := Lib.hid hRd
  clear hRd
  have HhRt := Lib.hid hRt
  clear hRt
  have HhI1 := Lib.hid hI1
  clear hI1
  have HhI2 := Lib.hid hI2
  clear hI2
  have HhI3 := Lib.hid hI3
  clear hI3
  have HhI4 := Lib.hid hI4
  clear hI4
  have Hh0 := Lib.hid h0
  clear h0
  have Hhlen := Lib.hid hlen
  clear hlen
  have Hhl2 := Lib.hid hl2
  clear hl2
  have Hhl3 := Lib.hid hl3
  clear hl3
  have Hhl4 := Lib.hid hl4
  clear hl4
  have Hhl6 := Lib.hid hl6
  clear hl6
  go_enter Try.func5, Try.ntmps5
  go_wp2_with fail
  (go_region_law (first
    | (refine step_app_rd rfl (.tmp 33) (.tmp 36) _ rfl Try.underlying36 infoI rfl (by decide) encI_len encI_one w _ _ (xs.drop k) (xs.take k) (by rfl) (by rfl) (by rw [Hhl3.out]; exact HO1.out) (HhRt.out _ HX1.out) (by rw [Hhl2.out]; omega) (by decide) HX1.out ?_; intro au2 cu2 w2 ho2 hx2; rw [Hhl2.out] at ho2 ⊢; have HO2 := Lib.hid ho2; have HX2 := Lib.hid hx2; clear ho2 hx2)
    | (refine step_app_rd rfl (.tmp 29) (.tmp 32) _ rfl Try.underlying36 infoI rfl (by decide) encI_len encI_one w _ _ [] (xs.drop k) (by rfl) (by rfl) (by exact own_lit encI_len w [] _ _ w.heap.size rfl (Nat.le_refl _) (by simp)) (HhRd.out _ (by repeat (first | exact Ext.refl _ | apply Ext.drew | apply Ext.alloc))) (by rw [hl1]; omega) (by decide) (by repeat (first | exact Ext.refl _ | apply Ext.drew | apply Ext.alloc)) ?_; intro au1 cu1 w1 ho1 hx1; rw [hl1] at ho1 ⊢; have HO1 := Lib.hid ho1; have HX1 := Lib.hid hx1; clear ho1 hx1)))
  have g2 := HX2.out.cell g1
  go_wp2_with fail
  refine (HhI1.out _ HX2.out).mono ?_; rintro e w3 ⟨rfl, hx3⟩
  have HX3 := Lib.hid (HX2.out.trans hx3)
  have hrd3 := (rd_of_own (n := 1) (enc := encI) (xs := xs.drop k ++ xs.take k) encI_len (by rw [Hhl4.out]; exact HO2.out)).ext hx3
  go_wp2_with fail
  refine (HhI3.out _ _ hrd3).mono ?_; rintro e w4 ⟨rfl, hx4⟩
  have HX4 := Lib.hid (HX3.out.trans hx4)
  go_wp2_with fail
  refine (HhI2.out _ HX4.out).mono ?_; rintro e w5 ⟨rfl, hx5⟩
  have HX5 := Lib.hid (HX4.out.trans hx5)
  have hx25 := (hx3.trans hx4).trans hx5
  have ho5 : w5.ownsRow w.heap.size 3 1 (.slice au2 xs.length cu2) xs.length ((xs.drop k ++ xs.take k).flatMap encI) := by
    have h9 := HO2.out
    refine ⟨h9.1, ?_⟩
    rcases h9.2 with h | ⟨g, cap, cur, hv, hg, hh, r⟩
    · exact .inl h
    · exact .inr ⟨g, cap, cur, hv, hg, (hx25.block (Array.getElem?_eq_some_iff.1 hh).1).trans hh, r⟩
  have HO5 := Lib.hid ho5
  clear hx3 hx4 hx5 hrd3 ho5 hx25
  go_wp2_with (at_builtin; go_loud (refine wpList_app_rd_w (by rfl) (.tmp 54) (.tmp 56) _ rfl Try.underlying36 infoI rfl (by decide) encI_len encI_one w _ _ (xs.drop k ++ xs.take k) [a] rfl rfl (by rw [Hhl4.out]; exact World.ownsRow.alloc HO5.out _) (rd_lit encI_len w5 [a] _ _ rfl) (by rw [hl5]; omega) (by decide) (HX5.out.alloc _) ?_; intro au6 cu6 w6 ho6 hx6; rw [hl5] at ho6 ⊢; have HO6 := Lib.hid ho6; have HX6 := Lib.hid hx6; clear ho6 hx6))
  refine (HhI4.out _ _ (rd_of_own (n := 1) (enc := encI) encI_len (by rw [Hhl6.out]; exact HO6.out))).mono ?_; rintro e w7 ⟨rfl, hx7⟩
  go_wp2_with (go_at_call 12; refine (awake_calls _).mono ?_; rintro e w8 ⟨rfl, hx8⟩)
  go_ret
  exact ⟨by simp, (HX6.out.trans hx7).trans hx8⟩
end L08
end Go.Proofs.Ytimpokibippenaa
