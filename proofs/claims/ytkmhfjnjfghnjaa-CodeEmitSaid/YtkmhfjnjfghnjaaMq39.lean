import Derived.Test.YtkmhfjnjfghnjaaMq38
/- Layer 21: the walks of the reference's SameRule and Same. -/
namespace Go.Proofs.Ytkmhfjnjfghnjaa
open Go.RowKit V
namespace L21
set_option maxRecDepth 100000 in
theorem refSameRule_calls (r s : Rule) (u v : Value) (hr : r.tests.length ≤ 140737488351232) (w : World) (hu : Rd w 4 encT u r.tests) (hv : Rd w 4 encT v s.tests) :
    Calls Try.prog 24 #[.agg #[.int .u32 (r.nr : Int), u, .int .u32 (r.action : Int)], .agg #[.int .u32 (s.nr : Int), v, .int .u32 (s.action : Int)]] w fun e w' => e = .returned (.bool (sameR r s)) ∧ Ext w w' := by
  obtain ⟨a, c, rfl, hac, hca⟩ := rdT_cell hu
  obtain ⟨b, d, rfl, hbd, hcb⟩ := rdT_cell hv
  have hn := natBeq r.nr s.nr
  have hx := natBeq r.action s.action
  have hn' : ((r.nr : Int) != (s.nr : Int)) = !(r.nr == s.nr) := by rw [← hn]; rfl
  have hx' : ((r.action : Int) != (s.action : Int)) = !(r.action == s.action) := by rw [← hx]; rfl
  clear hu hv hn hx
  cases h1 : r.nr == s.nr
  · rw [h1] at hn'
    have H1 := Lib.hid h1
    clear h1
    go_enter Try.func24, Try.ntmps24
    go_wp2
    go_ret
    exact ⟨by simp [sameR, H1.out], ((Ext.refl _).alloc _).alloc _⟩
  cases h2 : r.action == s.action
  · rw [h1] at hn'
    rw [h2] at hx'
    have H2 := Lib.hid h2
    clear h1 h2
    go_enter Try.func24, Try.ntmps24
    go_wp2
    go_ret
    exact ⟨by simp [sameR, H2.out], ((Ext.refl _).alloc _).alloc _⟩
  rw [h1] at hn'
  rw [h2] at hx'
  have H1 := Lib.hid h1
  have H2 := Lib.hid h2
  clear h1 h2
  have hsr : sameR r s = sameL sameT r.tests s.tests := by simp [sameR, H1.out, H2.out]
  rw [hsr]
  clear hsr H1 H2
  generalize r.tests = xs at *
  generalize s.tests = ys at *
  generalize r.nr = rn at *
  generalize s.nr = sn at *
  generalize r.action = ra at *
  generalize s.action = sa at *
  by_cases hl : xs.length = ys.length
  · have hl2 : ((xs.length : Int) != (ys.length : Int)) = false := by rw [hl]; simp
    have HL := Lib.hid hl
    clear hl
    go_enter Try.func24, Try.ntmps24
    go_wp2
    generalize hW : ((w.alloc _).alloc _) = W
    have hE : Ext w W := by rw [← hW]; exact ((Ext.refl _).alloc _).alloc _
    have c1 : W.cell? ⟨w.heap.size, 1, none⟩ = some (.slice a xs.length c) := by rw [← hW]; simp [go_sem]
    have c2 : W.cell? ⟨w.heap.size + 1, 1, none⟩ = some (.slice b ys.length d) := by rw [← hW]; simp [go_sem]
    clear hW
    go_loopw [5] (fun i wr => ∃ k : Nat, k ≤ xs.length ∧ i = .int .i64 k ∧ Ext W wr ∧ sameL sameT xs ys = sameL sameT (xs.drop k) (ys.drop k)) (fun i _ => xs.length - (intOf i).toNat)
    case atStart => exact ⟨0, by omega, rfl, Ext.refl _, rfl⟩
    case round =>
      obtain ⟨k, hk, rfl, hx, heq⟩ := hrel
      have HE := Lib.hid heq
      have HX := Lib.hid (hE.trans hx)
      have HX2 := Lib.hid hx
      clear heq
      replace c1 := hx.cell c1
      replace c2 := hx.cell c2
      by_cases hlt : k < xs.length
      · have hlt' : k < ys.length := by rw [← HL.out]; exact hlt
        obtain ⟨b1, o1, rfl, h1, h2, h3, h4⟩ := hca k hlt
        obtain ⟨b2, o2, rfl, g1, g2, g3, g4⟩ := hcb k hlt'
        replace hx := hE.trans hx
        replace h1 := hx.cell h1; replace h2 := hx.cell h2; replace h3 := hx.cell h3; replace h4 := hx.cell h4
        replace g1 := hx.cell g1; replace g2 := hx.cell g2; replace g3 := hx.cell g3; replace g4 := hx.cell g4
        have hstep := sameL_step (f := sameT) hlt hlt'
        have HS := Lib.hid hstep
        clear hca hcb hx hstep hE
        generalize xs[k] = s at h1 h2 h3 h4 HS
        generalize ys[k] = t at g1 g2 g3 g4 HS
        have hq := run_neqT s t
        have hg := hgT
        cases hst : sameT s t
        all_goals
          have HST := Lib.hid hst
          rw [hst] at hq
          clear hst
          go_wp2_with (go_quiet (fail))
        · go_ret
          exact ⟨by rw [HE.out, HS.out, HST.out]; rfl, HX.out.drewN _⟩
        · go_roundw
          case rel => exact ⟨k + 1, by omega, by go_num, HX2.out.drewN _, by rw [HE.out, HS.out, HST.out]; rfl⟩
          case measure => simp [intOf]; omega
      · obtain rfl : k = xs.length := by omega
        go_wp2
        go_ret
        exact ⟨by rw [HE.out, sameL_end HL.out]; rfl, HX.out⟩
  · have hl2 : ((xs.length : Int) != (ys.length : Int)) = true := by rw [bne_iff_ne]; omega
    have HL := Lib.hid hl
    clear hl
    go_enter Try.func24, Try.ntmps24
    go_wp2
    go_ret
    exact ⟨by rw [sameL_len HL.out]; rfl, ((Ext.refl _).alloc _).alloc _⟩
end L21
end Go.Proofs.Ytkmhfjnjfghnjaa

