import Derived.Test.YtkmhfjnjfghnjaaMq37
/- Layer 21: the walks of EqualFunc over rules, Same, and of the reference's SameRule and Same. -/
namespace Go.Proofs.Ytkmhfjnjfghnjaa
open Go.RowKit V
namespace L21
set_option maxRecDepth 100000 in
theorem EqualFuncR_calls (u v : Value) (xs ys : List Rule) (ha : xs.length ≤ 140737488351232) (hok : ∀ r ∈ xs, OkR r) (w : World) (hu : RdR w 3 (IsR w) u xs) (hv : RdR w 3 (IsR w) v ys) :
    Calls Try.prog 42 #[u, v, .func (.func 43) #[] #[]] w fun e w' => e = .returned (.bool (sameL sameR xs ys)) ∧ Ext w w' := by
  obtain ⟨a, c, rfl, hac, hca⟩ := rdR_cell hu
  obtain ⟨b, d, rfl, hbd, hcb⟩ := rdR_cell hv
  clear hu hv
  by_cases hl : xs.length = ys.length
  · have hl2 : ((xs.length : Int) != (ys.length : Int)) = false := by rw [hl]; simp
    have HL := Lib.hid hl
    clear hl
    go_enter Try.func42, Try.ntmps42
    go_wp2
    go_loopw [17] (fun i wr => ∃ k : Nat, k ≤ xs.length ∧ i = .int .i64 k ∧ Ext w wr ∧ sameL sameR xs ys = sameL sameR (xs.drop k) (ys.drop k)) (fun i _ => xs.length - (intOf i).toNat)
    case atStart => exact ⟨0, by omega, rfl, Ext.refl _, rfl⟩
    case round =>
      obtain ⟨k, hk, rfl, hx, heq⟩ := hrel
      have HE := Lib.hid heq
      clear heq
      by_cases hlt : k < xs.length
      · have hlt' : k < ys.length := by rw [← HL.out]; exact hlt
        obtain ⟨b1, o1, u1, rfl, h1, h2, h3, ht1⟩ := hca k hlt
        obtain ⟨b2, o2, u2, rfl, g1, g2, g3, gt1⟩ := hcb k hlt'
        have HX := Lib.hid hx
        replace h1 := hx.cell h1; replace h2 := hx.cell h2; replace h3 := hx.cell h3; replace ht1 := ht1.ext hx
        replace g1 := hx.cell g1; replace g2 := hx.cell g2; replace g3 := hx.cell g3; replace gt1 := gt1.ext hx
        have hb2 : b2 < wr.heap.size := World.block_lt_of_cell? _ _ g1
        have hstep := sameL_step (f := sameR) hlt hlt'
        have HS := Lib.hid hstep
        have hrl := (hok xs[k] (List.getElem_mem hlt)).l
        clear hca hcb hx hstep hok
        generalize xs[k] = s at h1 h2 h3 ht1 HS hrl
        generalize ys[k] = t at g1 g2 g3 gt1 HS
        obtain ⟨au1, cu1, rfl, -⟩ := id ht1
        obtain ⟨au2, cu2, rfl, -⟩ := id gt1
        cases hst : sameR s t
        all_goals
          have HST := Lib.hid hst
          clear hst
          go_wp2_with (go_at_call 43; refine (sameRule_calls s t _ _ hrl _ (ht1.ext (((Ext.refl _).alloc _).alloc _)) (gt1.ext (((Ext.refl _).alloc _).alloc _))).mono ?_; rw [HST.out]; rintro e w1 ⟨rfl, hx1⟩)
        · go_ret
          exact ⟨by rw [HE.out, HS.out, HST.out]; rfl, ((HX.out.alloc _).alloc _).trans hx1⟩
        · go_roundw
          case rel => exact ⟨k + 1, by omega, by go_num, ((HX.out.alloc _).alloc _).trans hx1, by rw [HE.out, HS.out, HST.out]; rfl⟩
          case measure => simp [intOf]; omega
      · obtain rfl : k = xs.length := by omega
        go_wp2
        go_ret
        exact ⟨by rw [HE.out, sameL_end HL.out]; rfl, hx⟩
  · have hl2 : ((xs.length : Int) != (ys.length : Int)) = true := by rw [bne_iff_ne]; omega
    have HL := Lib.hid hl
    clear hl
    go_enter Try.func42, Try.ntmps42
    go_wp2
    go_ret
    exact ⟨by rw [sameL_len HL.out]; rfl, Ext.refl _⟩
theorem intBeq (a b : Int) : (a == b) = decide (a = b) := by rw [Bool.eq_iff_iff]; simp
set_option maxRecDepth 100000 in
theorem Same_calls (f g : Filter) (u v : Value) (hf : OkF f) (w : World) (hu : RdR w 3 (IsR w) u f.rules) (hv : RdR w 3 (IsR w) v g.rules) :
    Calls Try.prog 16 #[.agg #[.int .i64 f.arch, u, .int .u32 (f.dflt : Int)], .agg #[.int .i64 g.arch, v, .int .u32 (g.dflt : Int)]] w fun e w' => e = .returned (.bool (sameF f g)) ∧ Ext w w' := by
  obtain ⟨a, c, rfl, -⟩ := id hu
  obtain ⟨b, d, rfl, -⟩ := id hv
  have hx := natBeq f.dflt g.dflt
  cases h1 : f.arch == g.arch
  · have H1 := Lib.hid h1
    go_enter Try.func16, Try.ntmps16
    go_wp2
    go_ret
    exact ⟨by simp [sameF, H1.out], ((Ext.refl _).alloc _).alloc _⟩
  · have H1 := Lib.hid h1
    cases h2 : f.dflt == g.dflt
    · rw [h2] at hx
      have H2 := Lib.hid h2
      clear h2
      go_enter Try.func16, Try.ntmps16
      go_wp2
      go_ret
      exact ⟨by simp [sameF, H1.out, H2.out], ((Ext.refl _).alloc _).alloc _⟩
    · rw [h2] at hx
      have H2 := Lib.hid h2
      clear h2
      have hl := hf.l
      have hr := hf.r
      go_enter Try.func16, Try.ntmps16
      go_wp2_with (go_at_call 42; refine (EqualFuncR_calls _ _ _ _ hl hr _ (rdRR_ext (((Ext.refl _).alloc _).alloc _) hu) (rdRR_ext (((Ext.refl _).alloc _).alloc _) hv)).mono ?_; rintro e w1 ⟨rfl, hx1⟩)
      go_ret
      exact ⟨by simp [sameF, H1.out, H2.out], (((Ext.refl _).alloc _).alloc _).trans hx1⟩
end L21
end Go.Proofs.Ytkmhfjnjfghnjaa

