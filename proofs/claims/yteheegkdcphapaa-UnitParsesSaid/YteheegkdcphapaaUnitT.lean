/- Layer 13: the walk of the law UnitParses. -/
import Derived.Test.YteheegkdcphapaaUnitO
import Derived.Test.YteheegkdcphapaaUnitQ
import Derived.Test.YteheegkdcphapaaLineL
namespace Go.Proofs.Yteheegkdcphapaa
open Go.RowKit Go.Shelf V
attribute [local go_sem] Oper.semAt_some Option.isSome_some
namespace L12
set_option maxRecDepth 100000 in
set_option maxHeartbeats 2000000 in
theorem Great_calls (fn : ByteArray) (d : Int) (v : Value) (bs : List UInt8) (w : World) (hv : Rd w 1 encB v bs) :
    Calls Try.prog 23 #[fileV fn d v] w fun e w' => e = .returned (.bool (decide (70000 < bs.length) || decide (200 < fn.size))) ∧ Ext w w' := by
  obtain ⟨av, cv, rfl, -⟩ := rdB_cell hv
  have q0 : (w.alloc (.cells #[.string fn, .int .i64 d, .slice av bs.length cv] 48)).cell? ⟨w.heap.size, 0, none⟩ = some (.string fn) := cells_new w [.string fn, .int .i64 d, .slice av bs.length cv] _ 0 _ rfl
  have q2 : (w.alloc (.cells #[.string fn, .int .i64 d, .slice av bs.length cv] 48)).cell? ⟨w.heap.size, 2, none⟩ = some (.slice av bs.length cv) := cells_new w [.string fn, .int .i64 d, .slice av bs.length cv] _ 2 _ rfl
  have hx := (Ext.refl w).alloc (.cells #[.string fn, .int .i64 d, .slice av bs.length cv] 48)
  unfold fileV
  clear hv
  have e1 : decide ((70000 : Int) < (bs.length : Int)) = decide (70000 < bs.length) := by rw [Bool.eq_iff_iff, decide_eq_true_iff, decide_eq_true_iff]; omega
  have e2 : decide ((200 : Int) < (fn.size : Int)) = decide (200 < fn.size) := by rw [Bool.eq_iff_iff, decide_eq_true_iff, decide_eq_true_iff]; omega
  cases h1 : decide (70000 < bs.length) <;> cases h2 : decide (200 < fn.size)
  all_goals
    rw [h1] at e1
    rw [h2] at e2
    have Hhx := Lib.hid hx
    clear hx
    go_enter Try.func23, Try.ntmps23
    go_wp2_with fail
    go_ret
    exact ⟨rfl, Hhx.out⟩
theorem in_file {w w3 w5 : World} {k au cu : _} {fn : ByteArray} {d : Int} {u : Value} {bs : List UInt8} (b3 : w3.heap[k]? = some (.cells #[.string fn, .int .i64 d, u] 48 (0, 0))) (hx3 : Ext w w3) (hx5 : Ext w3 w5) (hk : w.heap.size ≤ k)
    (ho : w5.ownsRow w3.heap.size 5 1 (.slice au bs.length cu) bs.length (bs.flatMap encB)) :
    (w5.cell? ⟨k, 0, none⟩ = some (.string fn) ∧ w5.cell? ⟨k, 1, none⟩ = some (.int .i64 d) ∧ w5.cell? ⟨k, 2, none⟩ = some u ∧ w5.frozen? ⟨k, 2, none⟩ = false ∧ k < w5.heap.size) ∧
    (∀ W6, W6 = w5.setCell ⟨k, 2, none⟩ (.slice au bs.length cu) → Ext w W6 ∧ Rd W6 1 encB (.slice au bs.length cu) bs ∧ W6.cell? ⟨k, 0, none⟩ = some (.string fn) ∧ W6.cell? ⟨k, 1, none⟩ = some (.int .i64 d) ∧ W6.cell? ⟨k, 2, none⟩ = some (.slice au bs.length cu) ∧
      (∀ b j x, b < k → w3.cell? ⟨b, j, none⟩ = some x → W6.cell? ⟨b, j, none⟩ = some x)) := by
  have hk3 : k < w3.heap.size := (Array.getElem?_eq_some_iff.1 b3).1
  have hb5 := (hx5.block hk3).trans b3
  refine ⟨⟨by simp [World.cell?, hb5], by simp [World.cell?, hb5], by simp [World.cell?, hb5], by simp [World.frozen?, hb5], (Array.getElem?_eq_some_iff.1 hb5).1⟩, ?_⟩
  rintro W6 rfl
  have hb6 : (w5.setCell ⟨k, 2, none⟩ (.slice au bs.length cu)).heap[k]? = some (.cells #[.string fn, .int .i64 d, .slice au bs.length cu] 48 (0, 0)) := by
    obtain ⟨hlt, hk⟩ := Array.getElem?_eq_some_iff.1 hb5
    show (w5.heap.modify k _)[k]? = _
    rw [Array.getElem?_eq_getElem (by rw [Array.size_modify]; exact hlt), Array.getElem_modify_self, hk]
    rfl
  refine ⟨(hx3.trans hx5).setCell hk _, rd_of_own encB_len (ownsRow_setCell_below ho hk3 _), by simp [World.cell?, hb6], by simp [World.cell?, hb6], by simp [World.cell?, hb6], fun b j x hb hx => ?_⟩
  exact (World.cell?_of_block (a := ⟨b, j, none⟩) (Below.heap_setCell _ _ _ b (by show b ≠ k; omega))).trans (hx5.cell hx)
set_option maxRecDepth 100000 in
set_option maxHeartbeats 4000000 in
theorem UnitParses_calls (fn : ByteArray) (d : Int) (v : Value) (bs : List UInt8) (w : World) (hv : Rd w 1 encB v bs) :
    Calls Try.prog 8 #[fileV fn d v] w fun e w' => e = .returned (.bool true) ∧ Ext w w' := by
  have hA := fun W => awake13_calls W
  have hGt := fun W (h : Rd W 1 encB v bs) => Great_calls fn d v bs W h
  have HV := Lib.hid hv
  obtain ⟨av, cv, rfl, -⟩ := rdB_cell hv
  obtain ⟨W2, hW2⟩ : ∃ W2, W2 = w.alloc (.cells #[.string fn, .int .i64 d, .slice av bs.length cv] 48) := ⟨_, rfl⟩
  have s2 : W2.heap.size = w.heap.size + 1 := by rw [hW2]; simp
  have e2 : Ext w W2 := by rw [hW2]; exact (Ext.refl w).alloc _
  have q0 : W2.cell? ⟨w.heap.size, 0, none⟩ = some (.string fn) := by rw [hW2]; exact cells_new w [.string fn, .int .i64 d, .slice av bs.length cv] _ 0 _ rfl
  have q1 : W2.cell? ⟨w.heap.size, 1, none⟩ = some (.int .i64 d) := by rw [hW2]; exact cells_new w [.string fn, .int .i64 d, .slice av bs.length cv] _ 1 _ rfl
  have q2 : W2.cell? ⟨w.heap.size, 2, none⟩ = some (.slice av bs.length cv) := by rw [hW2]; exact cells_new w [.string fn, .int .i64 d, .slice av bs.length cv] _ 2 _ rfl
  have HE2 := Lib.hid e2
  have HS2 := Lib.hid s2
  have HW := Lib.hid hW2
  unfold fileV at hGt ⊢
  clear hv e2 s2 hW2
  have HhA := Lib.hid hA
  clear hA
  by_cases hg : (decide (70000 < bs.length) || decide (200 < fn.size)) = true
  · rw [hg] at hGt
    have HhGt := Lib.hid hGt
    clear hGt
    clear hg
    go_enter Try.func8, Try.ntmps8
    go_wp2_with fail
    rw [← HW.out]
    refine (HhGt.out _ (HV.out.ext HE2.out)).mono ?_
    rintro e w1 ⟨rfl, hx1⟩
    go_wp2_with fail
    go_ret
    exact ⟨rfl, HE2.out.trans hx1⟩
  · rw [Bool.eq_false_iff.2 hg] at hGt
    have HhGt := Lib.hid hGt
    clear hGt
    have hbl : bs.length ≤ 70000 := by
      have := Bool.eq_false_iff.2 hg
      rw [Bool.or_eq_false_iff] at this
      have := of_decide_eq_false this.1
      omega
    clear hg
    go_enter Try.func8, Try.ntmps8
    go_wp2_with fail
    rw [← HW.out]
    refine (HhGt.out _ (HV.out.ext HE2.out)).mono ?_
    rintro e w1 ⟨rfl, hx1⟩
    replace q0 := hx1.cell q0
    replace q1 := hx1.cell q1
    replace q2 := hx1.cell q2
    have HX1 := Lib.hid (HE2.out.trans hx1)
    clear hx1
    obtain ⟨A, hAo⟩ : ∃ A, A = Obj.cells #[.string fn, .int .i64 d, .slice av bs.length cv] 48 := ⟨_, rfl⟩
    obtain ⟨w3, hw3⟩ : ∃ w3, w3 = w1.alloc A := ⟨_, rfl⟩
    have hx3 : Ext w1 w3 := by rw [hw3]; exact (Ext.refl _).alloc _
    have s3 : w3.heap.size = w1.heap.size + 1 := by rw [hw3]; simp
    have k2 : ∀ o, (w3.alloc o).cell? ⟨w.heap.size, 2, none⟩ = some (.slice av bs.length cv) := fun o => (hx3.alloc o).cell q2
    have b3 : w3.heap[w1.heap.size]? = some (.cells #[.string fn, .int .i64 d, .slice av bs.length cv] 48 (0, 0)) := by rw [hw3, hAo]; exact heap_alloc_new w1 _
    have HB0 := Lib.hid (own_lit encB_len w3 ([] : List UInt8) 5 w3.heap.size w3.heap.size rfl (Nat.le_refl _) (by unfold maxLen; simp))
    have HRD3 := Lib.hid (HV.out.ext (HX1.out.trans hx3))
    have HX3 := Lib.hid (HX1.out.trans hx3)
    have HX13 := Lib.hid hx3
    have HS3 := Lib.hid s3
    have HB3 := Lib.hid b3
    have HLO := Lib.hid HX1.out.size
    have HW3 := Lib.hid hw3
    have HAo := Lib.hid hAo
    clear hw3 hAo hx3 s3 b3
    go_upto_region 4 with fail
    rw [← HAo.out, ← HW3.out]
    go_wp2_with (at_builtin
                 refine wpList_app_rd rfl (.tmp 11) (.tmp 13) _ rfl Try.underlying22 infoB rfl (by decide) encB_len encB_one w3 _ _ [] bs rfl rfl HB0.out (HRD3.out.ext ((Ext.refl w3).alloc _)) (by simp; omega) (by decide) ((Ext.refl w3).alloc _) ?_
                 intro au5 cu5 w5 ho5 hx5
                 have HN := Lib.hid (in_file HB3.out HX3.out hx5 HLO.out (by simpa using ho5))
                 obtain ⟨g0, g1, g2, f2, bl⟩ := HN.out.1
                 clear ho5 hx5)
    obtain ⟨W6, hW6⟩ : ∃ W6, W6 = w5.setCell ⟨w1.heap.size, 2, none⟩ (.slice au5 bs.length cu5) := ⟨_, rfl⟩
    obtain ⟨hE6, hR6, i0, i1, i2, hold⟩ := HN.out.2 W6 hW6
    rw [← hW6]
    have hwl := World.block_lt_of_cell? _ _ q0
    replace q0 := hold _ _ _ hwl (HX13.out.cell q0)
    replace q1 := hold _ _ _ hwl (HX13.out.cell q1)
    replace q2 := hold _ _ _ hwl (HX13.out.cell q2)
    have HE6 := Lib.hid hE6
    have HR6 := Lib.hid hR6
    clear g0 g1 g2 f2 bl hold hE6 hR6 k2 hW6
    have hP := fun u W (h : Rd W 1 encB u bs) => Parse_calls fn d u bs (by omega) W h
    have hP2 := fun u W (h : Rd W 1 encB u bs) => refParse_calls fn d u bs (by omega) W h
    have hl1 : (parseL bs).1.length ≤ 100000 := by
      have h := foldU_len (splitA bs).1 ⟨[], false, [], []⟩
      have h2 := splitA_len bs
      unfold parseL
      split
      · exact Nat.zero_le _
      split
      · exact Nat.zero_le _
      · show (foldU bs).al.length ≤ 100000
        have : foldU bs = (splitA bs).1.foldl stepU ⟨[], false, [], []⟩ := rfl
        rw [this]
        simp only [List.length_nil] at h
        omega
    have hl2 : (parseL bs).2.length ≤ 100000 := by have := foldU_nl bs; omega
    unfold fileV at hP hP2
    generalize (parseL bs).1 = zs at *
    generalize (parseL bs).2 = ns at *
    have hSa := fun u v W (h : Rd W 5 (encAs fn) u zs) (h2 : Rd W 5 (encAs fn) v zs) => sameAs_calls fn u v zs zs hl1 hl1 W h h2
    have hSn := fun u v W (h : Rd W 4 (encNt fn) u ns) (h2 : Rd W 4 (encNt fn) v ns) => sameNt_calls fn u v ns ns hl2 hl2 W h h2
    rw [decide_eq_true rfl] at hSa hSn
    have HhP := Lib.hid hP
    clear hP
    have HhP2 := Lib.hid hP2
    clear hP2
    have HhSa := Lib.hid hSa
    clear hSa
    have HhSn := Lib.hid hSn
    clear hSn
    refine (HhP.out _ _ HR6.out).mono ?_
    rintro e w7 ⟨ua, un, rfl, hx7, ho1, ho2⟩
    obtain ⟨a1, c1, rfl⟩ := own_form ho1
    obtain ⟨a2, c2, rfl⟩ := own_form ho2
    have HR71 := Lib.hid (rd_of_own (encAs_len fn) ho1)
    have HR72 := Lib.hid (rd_of_own (encNt_len fn) ho2)
    have HX7 := Lib.hid hx7
    replace q0 := hx7.cell q0
    replace q1 := hx7.cell q1
    replace q2 := hx7.cell q2
    clear hx7 ho1 ho2
    go_wp2_with fail
    refine (HhP2.out _ _ (HV.out.ext (HE6.out.trans HX7.out))).mono ?_
    rintro e w8 ⟨va, vn, rfl, hx8, ho1, ho2⟩
    obtain ⟨a3, c3, rfl⟩ := own_form ho1
    obtain ⟨a4, c4, rfl⟩ := own_form ho2
    have HR81 := Lib.hid (rd_of_own (encAs_len fn) ho1)
    have HR82 := Lib.hid (rd_of_own (encNt_len fn) ho2)
    have HX8 := Lib.hid hx8
    clear hx8 ho1 ho2
    go_wp2_with fail
    refine (HhSa.out _ _ _ (HR71.out.ext HX8.out) HR81.out).mono ?_
    rintro e w9 ⟨rfl, hx9⟩
    have HX9 := Lib.hid hx9
    clear hx9
    go_wp2_with fail
    refine (HhSn.out _ _ _ (HR72.out.ext (HX8.out.trans HX9.out)) (HR82.out.ext HX9.out)).mono ?_
    rintro e w10 ⟨rfl, hx10⟩
    have HX10 := Lib.hid ((HX7.out.trans HX8.out).trans (HX9.out.trans hx10))
    have hcv1 := conv_rd (HR6.out.ext HX10.out)
    have hcv2 := conv_rd (HV.out.ext (HE6.out.trans HX10.out))
    replace i2 := HX10.out.cell i2
    replace q2 := (HX8.out.trans (HX9.out.trans hx10)).cell q2
    clear hx10 q0 q1 i0 i1
    go_wp2_with fail
    refine (HhA.out _).mono ?_
    rintro e w11 ⟨rfl, hx11⟩
    go_wp2_with fail
    go_ret
    exact ⟨rfl, (HE6.out.trans HX10.out).trans hx11⟩
end L12
end Go.Proofs.Yteheegkdcphapaa
