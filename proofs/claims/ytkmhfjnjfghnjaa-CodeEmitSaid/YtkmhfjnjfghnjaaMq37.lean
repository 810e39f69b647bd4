import Derived.Test.YtkmhfjnjfghnjaaMq6
/- Layer 21: the walks of Equal, sameRule, EqualFunc, Same, and of the reference's SameRule, Same, and of Great. -/
namespace Go.Proofs.Ytkmhfjnjfghnjaa
open Go.RowKit V
namespace L21
theorem hgT : Try.prog.eqGuardType Try.prog.depth 37 = false := by kernel_rfl
def aggT (t : Test) : Value := .agg #[.int .i64 t.arg, .int .u64 (t.mask : Int), .int .u64 (t.value : Int), .int .u32 (t.action : Int)]
theorem natBeq (a b : Nat) : ((a : Int) == (b : Int)) = (a == b) := by rw [Bool.eq_iff_iff]; simp; omega
theorem run_equalT (s t : Test) (w : World) : (Op.equalIn 10000 37 (.agg #[.int .i64 s.arg, .int .u64 (s.mask : Int), .int .u64 (s.value : Int), .int .u32 (s.action : Int)])
    (.agg #[.int .i64 t.arg, .int .u64 (t.mask : Int), .int .u64 (t.value : Int), .int .u32 (t.action : Int)])).run Try.prog w = .ok (sameT s t) w := by
  simp [go_sem]
  by_cases h1 : s.arg = t.arg <;> by_cases h2 : s.mask = t.mask <;> by_cases h3 : s.value = t.value <;> by_cases h4 : s.action = t.action <;> simp [sameT, h1, h2, h3, h4, Int.ofNat_inj]
theorem run_neqT (s t : Test) (w : World) : (binOp .neq 37 (.agg #[.int .i64 s.arg, .int .u64 (s.mask : Int), .int .u64 (s.value : Int), .int .u32 (s.action : Int)])
    (.agg #[.int .i64 t.arg, .int .u64 (t.mask : Int), .int .u64 (t.value : Int), .int .u32 (t.action : Int)])).run Try.prog w = .ok (.bool (!sameT s t)) w := by
  rw [run_neq_struct, run_equalT]; rfl
set_option maxRecDepth 100000 in
theorem EqualT_calls (u v : Value) (xs ys : List Test) (ha : xs.length ≤ 140737488351232) (w : World) (hu : Rd w 4 encT u xs) (hv : Rd w 4 encT v ys) :
    Calls Try.prog 77 #[u, v] w fun e w' => e = .returned (.bool (sameL sameT xs ys)) ∧ Ext w w' := by
  obtain ⟨a, c, rfl, hac, hca⟩ := rdT_cell hu
  obtain ⟨b, d, rfl, hbd, hcb⟩ := rdT_cell hv
  by_cases hl : xs.length = ys.length
  · have hl2 : ((xs.length : Int) != (ys.length : Int)) = false := by rw [hl]; simp
    have HL := Lib.hid hl
    clear hl
    go_enter Try.func77, Try.ntmps77
    go_wp2
    go_loopw [13] (fun i wr => ∃ k : Nat, k ≤ xs.length ∧ i = .int .i64 k ∧ Ext w wr ∧ sameL sameT xs ys = sameL sameT (xs.drop k) (ys.drop k)) (fun i _ => xs.length - (intOf i).toNat)
    case atStart => exact ⟨0, by omega, rfl, Ext.refl _, rfl⟩
    case round =>
      obtain ⟨k, hk, rfl, hx, heq⟩ := hrel
      by_cases hlt : k < xs.length
      · have hlt' : k < ys.length := by rw [← HL.out]; exact hlt
        obtain ⟨b1, o1, rfl, h1, h2, h3, h4⟩ := hca k hlt
        obtain ⟨b2, o2, rfl, g1, g2, g3, g4⟩ := hcb k hlt'
        have HX := Lib.hid hx
        have HE := Lib.hid heq
        replace h1 := hx.cell h1; replace h2 := hx.cell h2; replace h3 := hx.cell h3; replace h4 := hx.cell h4
        replace g1 := hx.cell g1; replace g2 := hx.cell g2; replace g3 := hx.cell g3; replace g4 := hx.cell g4
        have hstep := sameL_step (f := sameT) hlt hlt'
        have HS := Lib.hid hstep
        clear hca hcb hx heq hstep
        generalize xs[k] = s at h1 h2 h3 h4 HS
        generalize ys[k] = t at g1 g2 g3 g4 HS
        have hq := run_neqT s t
        have hg := hgT
        cases hst : sameT s t
        all_goals
          have HST := Lib.hid hst
          rw [hst] at hq
          clear hst
          go_wp2_with (go_quiet (fail))
        · go_ret
          exact ⟨by rw [HE.out, HS.out, HST.out]; rfl, HX.out.drewN _⟩
        · go_roundw
          case rel => exact ⟨k + 1, by omega, by go_num, HX.out.drewN _, by rw [HE.out, HS.out, HST.out]; rfl⟩
          case measure => simp [intOf]; omega
      · obtain rfl : k = xs.length := by omega
        have HE := Lib.hid heq
        clear heq
        go_wp2
        go_ret
        exact ⟨by rw [HE.out, sameL_end HL.out]; rfl, hx⟩
  · have hl2 : ((xs.length : Int) != (ys.length : Int)) = true := by rw [bne_iff_ne]; omega
    have HL := Lib.hid hl
    clear hl
    go_enter Try.func77, Try.ntmps77
    go_wp2
    go_ret
    exact ⟨by rw [sameL_len HL.out]; rfl, Ext.refl _⟩
/-- a rule's value -/
def aggR (r : Rule) (u : Value) : Value := .agg #[.int .u32 (r.nr : Int), u, .int .u32 (r.action : Int)]
set_option maxRecDepth 100000 in
theorem sameRule_calls (r s : Rule) (u v : Value) (hr : r.tests.length ≤ 140737488351232) (w : World) (hu : Rd w 4 encT u r.tests) (hv : Rd w 4 encT v s.tests) :
    Calls Try.prog 43 #[.agg #[.int .u32 (r.nr : Int), u, .int .u32 (r.action : Int)], .agg #[.int .u32 (s.nr : Int), v, .int .u32 (s.action : Int)]] w fun e w' => e = .returned (.bool (sameR r s)) ∧ Ext w w' := by
  obtain ⟨a, c, rfl, -⟩ := id hu
  obtain ⟨b, d, rfl, -⟩ := id hv
  have hn := natBeq r.nr s.nr
  have hx := natBeq r.action s.action
  cases h1 : r.nr == s.nr
  · rw [h1] at hn
    have H1 := Lib.hid h1
    clear h1
    go_enter Try.func43, Try.ntmps43
    go_wp2
    go_ret
    exact ⟨by simp [sameR, H1.out], ((Ext.refl _).alloc _).alloc _⟩
  · rw [h1] at hn
    have H1 := Lib.hid h1
    clear h1
    cases h2 : r.action == s.action
    · rw [h2] at hx
      have H2 := Lib.hid h2
      clear h2
      go_enter Try.func43, Try.ntmps43
      go_wp2
      go_ret
      exact ⟨by simp [sameR, H1.out, H2.out], ((Ext.refl _).alloc _).alloc _⟩
    · rw [h2] at hx
      have H2 := Lib.hid h2
      clear h2
      go_enter Try.func43, Try.ntmps43
      go_wp2_with (go_at_call 77; refine (EqualT_calls _ _ _ _ hr _ (hu.ext (((Ext.refl _).alloc _).alloc _)) (hv.ext (((Ext.refl _).alloc _).alloc _))).mono ?_; rintro e w1 ⟨rfl, hx1⟩)
      go_ret
      exact ⟨by simp [sameR, H1.out, H2.out], (((Ext.refl _).alloc _).alloc _).trans hx1⟩
end L21
end Go.Proofs.Ytkmhfjnjfghnjaa

