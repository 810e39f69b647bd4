import Derived.Test.YtkmhfjnjfghnjaaMq39
/- Layer 21: the walk of the reference's Same. -/
namespace Go.Proofs.Ytkmhfjnjfghnjaa
open Go.RowKit V
namespace L21
set_option maxRecDepth 100000 in
theorem refSame_calls (f g : Filter) (u v : Value) (hf : OkF f) (w : World) (hu : RdR w 3 (IsR w) u f.rules) (hv : RdR w 3 (IsR w) v g.rules) :
    Calls Try.prog 17 #[.agg #[.int .i64 f.arch, u, .int .u32 (f.dflt : Int)], .agg #[.int .i64 g.arch, v, .int .u32 (g.dflt : Int)]] w fun e w' => e = .returned (.bool (sameF f g)) ∧ Ext w w' := by
  obtain ⟨a, c, rfl, hac, hca⟩ := rdR_cell hu
  obtain ⟨b, d, rfl, hbd, hcb⟩ := rdR_cell hv
  have hn' : (f.arch != g.arch) = !(f.arch == g.arch) := rfl
  have hx' : ((f.dflt : Int) != (g.dflt : Int)) = !(f.dflt == g.dflt) := by rw [← natBeq]; rfl
  clear hu hv
  cases h1 : f.arch == g.arch
  · rw [h1] at hn'
    have H1 := Lib.hid h1
    clear h1
    go_enter Try.func17, Try.ntmps17
    go_wp2
    go_ret
    exact ⟨by simp [sameF, H1.out], ((Ext.refl _).alloc _).alloc _⟩
  cases h2 : f.dflt == g.dflt
  · rw [h1] at hn'
    rw [h2] at hx'
    have H2 := Lib.hid h2
    clear h1 h2
    go_enter Try.func17, Try.ntmps17
    go_wp2
    go_ret
    exact ⟨by simp [sameF, H2.out], ((Ext.refl _).alloc _).alloc _⟩
  rw [h1] at hn'
  rw [h2] at hx'
  have H1 := Lib.hid h1
  have H2 := Lib.hid h2
  clear h1 h2
  have hsr : sameF f g = sameL sameR f.rules g.rules := by simp [sameF, H1.out, H2.out]
  rw [hsr]
  have hl := hf.l
  have hok := hf.r
  clear hsr H1 H2 hf
  generalize f.rules = xs at *
  generalize g.rules = ys at *
  generalize f.arch = rn at *
  generalize g.arch = sn at *
  generalize f.dflt = ra at *
  generalize g.dflt = sa at *
  by_cases hl : xs.length = ys.length
  · have hl2 : ((xs.length : Int) != (ys.length : Int)) = false := by rw [hl]; simp
    have HL := Lib.hid hl
    clear hl
    go_enter Try.func17, Try.ntmps17
    go_wp2
    generalize hW : ((w.alloc _).alloc _) = W
    have hE : Ext w W := by rw [← hW]; exact ((Ext.refl _).alloc _).alloc _
    have c1 : W.cell? ⟨w.heap.size, 1, none⟩ = some (.slice a xs.length c) := by rw [← hW]; simp [go_sem]
    have c2 : W.cell? ⟨w.heap.size + 1, 1, none⟩ = some (.slice b ys.length d) := by rw [← hW]; simp [go_sem]
    clear hW
    go_loopw [5] (fun i wr => ∃ k : Nat, k ≤ xs.length ∧ i = .int .i64 k ∧ Ext W wr ∧ sameL sameR xs ys = sameL sameR (xs.drop k) (ys.drop k)) (fun i _ => xs.length - (intOf i).toNat)
    case atStart => exact ⟨0, by omega, rfl, Ext.refl _, rfl⟩
    case round =>
      obtain ⟨k, hk, rfl, hx, heq⟩ := hrel
      have HE := Lib.hid heq
      have HX := Lib.hid (hE.trans hx)
      have HX2 := Lib.hid hx
      clear heq
      replace c1 := hx.cell c1
      replace c2 := hx.cell c2
      by_cases hlt : k < xs.length
      · have hlt' : k < ys.length := by rw [← HL.out]; exact hlt
        obtain ⟨b1, o1, u1, rfl, h1, h2, h3, ht1⟩ := hca k hlt
        obtain ⟨b2, o2, u2, rfl, g1, g2, g3, gt1⟩ := hcb k hlt'
        replace hx := hE.trans hx
        replace h1 := hx.cell h1; replace h2 := hx.cell h2; replace h3 := hx.cell h3; replace ht1 := ht1.ext hx
        replace g1 := hx.cell g1; replace g2 := hx.cell g2; replace g3 := hx.cell g3; replace gt1 := gt1.ext hx
        have hstep := sameL_step (f := sameR) hlt hlt'
        have HS := Lib.hid hstep
        have hrl := (hok xs[k] (List.getElem_mem hlt)).l
        clear hca hcb hx hstep hE hok
        generalize xs[k] = s at h1 h2 h3 ht1 HS hrl
        generalize ys[k] = t at g1 g2 g3 gt1 HS
        obtain ⟨au1, cu1, rfl, -⟩ := id ht1
        obtain ⟨au2, cu2, rfl, -⟩ := id gt1
        cases hst : sameR s t
        all_goals
          have HST := Lib.hid hst
          clear hst
          go_wp2_with (go_region_held3 (fun w' => w'.cell? ⟨w.heap.size, 1, none⟩ = some (.slice (some ⟨b1, o1, none⟩) xs.length c) ∧ w'.cell? ⟨w.heap.size + 1, 1, none⟩ = some (.slice (some ⟨b2, o2, none⟩) ys.length d) ∧
              w'.cell? ⟨b1, o1 + k * 3, none⟩ = some (.int .u32 (s.nr : Int)) ∧ w'.cell? ⟨b1, o1 + k * 3 + 1, none⟩ = some (.slice au1 s.tests.length cu1) ∧ w'.cell? ⟨b1, o1 + k * 3 + 2, none⟩ = some (.int .u32 (s.action : Int)) ∧
              w'.cell? ⟨b2, o2 + k * 3, none⟩ = some (.int .u32 (t.nr : Int)) ∧ w'.cell? ⟨b2, o2 + k * 3 + 1, none⟩ = some (.slice au2 t.tests.length cu2) ∧ w'.cell? ⟨b2, o2 + k * 3 + 2, none⟩ = some (.int .u32 (t.action : Int)))
            (first | exact ⟨c1, c2, h1, h2, h3, g1, g2, g3⟩ | exact ⟨hx1.cell c1, hx1.cell c2, hx1.cell h1, hx1.cell h2, hx1.cell h3, hx1.cell g1, hx1.cell g2, hx1.cell g3⟩)
            (first | (go_at_call 24; refine (refSameRule_calls s t _ _ hrl _ (ht1.ext ((Ext.refl _).drew)) (gt1.ext ((Ext.refl _).drew))).mono ?_; rw [HST.out]; rintro e w1 ⟨rfl, hx1⟩)))
        · go_ret
          exact ⟨by rw [HE.out, HS.out, HST.out]; rfl, HX.out.drew.trans hx1⟩
        · go_roundw
          case rel => exact ⟨k + 1, by omega, by go_num, HX2.out.drew.trans hx1, by rw [HE.out, HS.out, HST.out]; rfl⟩
          case measure => simp [intOf]; omega
      · obtain rfl : k = xs.length := by omega
        go_wp2
        go_ret
        exact ⟨by rw [HE.out, sameL_end HL.out]; rfl, HX.out⟩
  · have hl2 : ((xs.length : Int) != (ys.length : Int)) = true := by rw [bne_iff_ne]; omega
    have HL := Lib.hid hl
    clear hl
    go_enter Try.func17, Try.ntmps17
    go_wp2
    go_ret
    exact ⟨by rw [sameL_len HL.out]; rfl, ((Ext.refl _).alloc _).alloc _⟩
set_option maxRecDepth 100000 in
theorem Great_calls (f : Filter) (u : Value) (hf : OkF f) (w : World) (hu : RdR w 3 (IsR w) u f.rules) :
    Calls Try.prog 15 #[.agg #[.int .i64 f.arch, u, .int .u32 (f.dflt : Int)]] w fun e w' => e = .returned (.bool (great 0 f.rules)) ∧ Ext w w' := by
  obtain ⟨a, c, rfl, hac, hca⟩ := rdR_cell hu
  have hl := hf.l
  have hok := hf.r
  clear hu hf
  generalize f.rules = xs at *
  generalize f.arch = rn at *
  generalize f.dflt = ra at *
  go_enter Try.func15, Try.ntmps15
  go_wp2
  generalize hW : (w.alloc _) = W
  have hE : Ext w W := by rw [← hW]; exact (Ext.refl _).alloc _
  have c1 : W.cell? ⟨w.heap.size, 1, none⟩ = some (.slice a xs.length c) := by rw [← hW]; simp [go_sem]
  clear hW
  go_loop [3, 4] (fun n i => ∃ k q : Nat, k ≤ xs.length ∧ i = .int .i64 k ∧ n = .int .i64 q ∧ q ≤ 1000 ∧ great 0 xs = great q (xs.drop k)) (fun _ i => xs.length - (intOf i).toNat)
  case atStart => exact ⟨0, 0, by omega, rfl, rfl, by omega, rfl⟩
  case round =>
    obtain ⟨k, q, hk, rfl, rfl, hq, heq⟩ := hrel
    have HE := Lib.hid heq
    have HX := Lib.hid hE
    clear heq
    by_cases hlt : k < xs.length
    · obtain ⟨b1, o1, u1, rfl, h1, h2, h3, ht1⟩ := hca k hlt
      replace h1 := hE.cell h1; replace h2 := hE.cell h2; replace h3 := hE.cell h3; replace ht1 := ht1.ext hE
      have hrl := (hok xs[k] (List.getElem_mem hlt)).l
      have hst : great q (xs.drop k) = if 1000 < q + 1 + xs[k].tests.length then true else great (q + 1 + xs[k].tests.length) (xs.drop (k + 1)) := by
        rw [List.drop_eq_getElem_cons hlt]; rfl
      have HS := Lib.hid hst
      clear hst hca hE hok
      generalize xs[k] = s at h1 h2 h3 ht1 HS hrl
      obtain ⟨au1, cu1, rfl, -⟩ := id ht1
      generalize s.tests.length = m at *
      by_cases hbig : 1000 < q + 1 + m
      · go_wp2
        go_ret
        exact ⟨by rw [HE.out, HS.out, if_pos hbig]; rfl, HX.out⟩
      · go_wp2
        go_round
        case rel => exact ⟨k + 1, q + 1 + m, by omega, by go_num, by go_num, by omega, by rw [HE.out, HS.out, if_neg hbig]⟩
        case measure => simp [intOf]; omega
    · obtain rfl : k = xs.length := by omega
      go_wp2
      go_ret
      exact ⟨by rw [HE.out, List.drop_eq_nil_of_le (Nat.le_refl _)]; rfl, HX.out⟩
end L21
end Go.Proofs.Ytkmhfjnjfghnjaa

