import Derived.Test.YtkmhfjnjfghnjaaMq14
/- Layer 21: the walk of the reference's Copy. -/
namespace Go.Proofs.Ytkmhfjnjfghnjaa
open Go.RowKit V
namespace L21
theorem good_of_own {W : World} {base n x c : Nat} {a : Option Addr} {ts : List Test} (h : W.ownsRow base 37 4 (.slice a ts.length c) ts.length (ts.flatMap encT)) : GoodP W ⟨⟨n, ts, x⟩, a, c⟩ ∧ OwnT W base ⟨⟨n, ts, x⟩, a, c⟩ := by
  refine ⟨rd_of_own encT_len h, ?_⟩
  rcases h.2 with ⟨h1, h2⟩ | ⟨g, cap, cur, h1, hg, hh, -⟩
  · simp only [Value.slice.injEq] at h1
    exact .inl ⟨h1.1, List.eq_nil_of_length_eq_zero h2⟩
  · simp only [Value.slice.injEq] at h1
    exact .inr ⟨g, cur, h1.1, hg, hh⟩
set_option maxRecDepth 100000 in
set_option maxHeartbeats 2000000 in
theorem Copy_calls (f : Filter) (u : Value) (hl : f.rules.length ≤ 1000) (hlr : ∀ r ∈ f.rules, r.tests.length ≤ 1000) (w : World) (hu : RdR w 3 (IsR w) u f.rules) :
    Calls Try.prog 18 #[.agg #[.int .i64 f.arch, u, .int .u32 (f.dflt : Int)]] w fun e w' =>
      ∃ a c ps, e = .returned (.agg #[.int .i64 f.arch, .slice a (ps : List PR).length c, .int .u32 (f.dflt : Int)]) ∧ ps.map PR.r = f.rules ∧ RF w' w.heap.size (.slice a ps.length c) ps ∧ Ext w w' := by
  obtain ⟨ar, rs, df⟩ := f
  dsimp only at *
  obtain ⟨av, cv, rfl, -, hca⟩ := rdR_cell hu
  have Hhlr := Lib.hid hlr
  clear hlr
  have Hhca := Lib.hid hca
  clear hca
  clear hu
  have hl0 : ∀ ts : List Test, ([] : List Test).length + ts.length = ts.length := fun ts => by simp
  have Hhl0 := Lib.hid hl0
  clear hl0
  go_enter Try.func18, Try.ntmps18
  obtain ⟨w1, hw1⟩ : ∃ w1, w1 = (w.alloc (.cells #[.int .i64 ar, .slice av rs.length cv, .int .u32 (df : Int)] 25)).alloc (.cells #[.int .i64 0, .slice none 0 0, .int .u32 0] 25) := ⟨_, rfl⟩
  have hx1 : Ext w w1 := by rw [hw1]; exact ((Ext.refl _).alloc _).alloc _
  have z1 : w1.cell? ⟨w.heap.size, 1, none⟩ = some (.slice av rs.length cv) := by rw [hw1]; simp [go_sem]
  have y0 : w1.cell? ⟨w.heap.size + 1, 0, none⟩ = some (.int .i64 0) := by rw [hw1]; simp [go_sem]
  have y1 : w1.cell? ⟨w.heap.size + 1, 1, none⟩ = some (.slice none 0 0) := by rw [hw1]; simp [go_sem]
  have y2 : w1.cell? ⟨w.heap.size + 1, 2, none⟩ = some (.int .u32 0) := by rw [hw1]; simp [go_sem]
  have fy : ∀ j, w1.frozen? ⟨w.heap.size + 1, j, none⟩ = false := fun j => by rw [hw1]; simp [go_sem]
  have hs1 : w1.heap.size = w.heap.size + 2 := by rw [hw1]; simp
  have HX1 := Lib.hid hx1
  have Z1 := Lib.hid z1
  have Y0 := Lib.hid y0
  have Y1 := Lib.hid y1
  have Y2 := Lib.hid y2
  have FY := Lib.hid fy
  have HW1 := Lib.hid hw1
  have HSZ := Lib.hid hs1
  clear hx1 z1 y0 y1 y2 fy hs1 hw1
  go_wp2_with fail
  rw [← HW1.out, ← HSZ.out]
  have HS0 := Lib.hid (OS.start w1 ar df 25)
  go_loopw [4] (fun i wr => ∃ (k : Nat) (v : Value) (ps : List PR), k ≤ rs.length ∧ i = .int .i64 k ∧ OS w1 ar df v ps wr ∧ ps.map PR.r = rs.take k) (fun i _ => rs.length - (intOf i).toNat)
  case atStart => exact ⟨0, _, _, by omega, rfl, HS0.out, rfl⟩
  case round =>
    obtain ⟨k, v, ps, hk, rfl, hs, hps⟩ := hrel
    have HPS := Lib.hid hps
    have HS := Lib.hid hs
    have z1 := hs.ext.cell Z1.out
    clear hps
    by_cases hlt : k < rs.length
    · obtain ⟨b, o, vt, rfl, g1, g2, g3, g4⟩ := Hhca.out k hlt
      replace g1 := (HX1.out.trans hs.ext).cell g1
      replace g2 := (HX1.out.trans hs.ext).cell g2
      replace g3 := (HX1.out.trans hs.ext).cell g3
      replace g4 := g4.ext (HX1.out.trans hs.ext)
      have hrl := Hhlr.out _ (List.getElem_mem hlt)
      have hnt : rs.take (k + 1) = rs.take k ++ [rs[k]'hlt] := List.take_succ_eq_append_getElem hlt
      have hpl : ps.length ≤ 1000 := by
        have e := congrArg List.length HPS.out
        rw [List.length_map, List.length_take] at e
        omega
      generalize rs[k]'hlt = r at *
      obtain ⟨rn, ts, ra⟩ := r
      dsimp only at *
      have HG4 := Lib.hid g4
      obtain ⟨at', ct, rfl, -, -⟩ := rdT_cell g4
      have Hhnt := Lib.hid hnt
      clear hnt
      obtain ⟨au, cu, rfl⟩ := own_form hs.own
      clear hs g4
      have b1 := HS.out.b1
      have hbb := World.block_lt_of_cell? _ _ b1
      have hi2 : (k : Int) < (rs.length : Int) := by omega
      have q1 := fun o => ((Ext.refl wr).alloc o).cell z1
      have q2 := fun o => ((Ext.refl wr).alloc o).cell g2
      go_wp2_with (first
        | (at_builtin
           refine wpList_app_rd rfl (.tmp 24) (.tmp 30) _ rfl Try.underlying32 infoT9 rfl (by decide) encT_len encT_one (wr.alloc (.cells #[.int .u32 (rn : Int), .slice at' ts.length ct, .int .u32 (ra : Int)] 34)) _ _ [] ts rfl rfl (World.ownsRow_nil _ _ _ _) (HG4.out.ext ((Ext.refl _).alloc _)) (by rw [Hhl0.out]; omega) (by decide) (Ext.refl _) ?_
           intro au2 cu2 w2 ho2 hx2
           rw [Hhl0.out] at ho2 ⊢
           have p0 := hx2.cell (p := ⟨wr.heap.size, 0, none⟩) (by simp [go_sem]; rfl)
           have p1 := hx2.cell (p := ⟨wr.heap.size, 1, none⟩) (by simp [go_sem]; rfl)
           have p2 := hx2.cell (p := ⟨wr.heap.size, 2, none⟩) (by simp [go_sem]; rfl)
           have fp1 : w2.frozen? ⟨wr.heap.size, 1, none⟩ = false := (World.frozen?_of_block (a := ⟨wr.heap.size, 1, none⟩) (hx2.block (by simp))).trans (by simp [go_sem])
           have hpb := World.block_lt_of_cell? _ _ p1
           have HXX := Lib.hid (((Ext.refl wr).alloc _).trans hx2)
           have b1r := HXX.out.cell b1
           have HP2 := Lib.hid (good_of_own (n := rn) (x := ra) (own_base (b' := wr.heap.size + 1) ho2 (by simp)))
           clear ho2 hx2 q1 q2)
        | (at_builtin
           generalize hW4 : World.setCell _ _ _ = W4
           have HS4 : Hid (OS w1 ar df (.slice au ps.length cu) ps W4) := by
             rw [← hW4]
             refine Lib.hid (HS.out.kept ?_)
             repeat (first | exact HXX.out | refine Ext.setCell ?_ (by first | (simp; done) | (simp; omega)) _)
           have HG4 : Hid (GoodP W4 ⟨⟨rn, ts, ra⟩, au2, cu2⟩ ∧ OwnT W4 (w1.heap.size + 1) ⟨⟨rn, ts, ra⟩, au2, cu2⟩) := by
             rw [← hW4]
             have h2 := good_set HP2.out.1 HP2.out.2 (q := ⟨wr.heap.size, 1, none⟩) (by simp) (.slice au2 ts.length cu2)
             exact Lib.hid ⟨h2.1, h2.2.base (by have := HS.out.lt; omega)⟩
           have hsz4 : w2.heap.size = W4.heap.size := by rw [← hW4]; simp
           clear hW4 b1r p0 p1 p2 fp1 g1 g2 g3
           have hlt4 := HS4.out.lt
           refine wpList_app_g rfl (.tmp 35) (.tmp 37) _ rfl Try.underlying22 infoR9 rfl (by decide) encP_len encP_one (w1.heap.size + 1) _ _ ps [⟨⟨rn, ts, ra⟩, au2, cu2⟩] rfl rfl (HS4.out.own.alloc _) (rd_lit encP_len W4 [⟨⟨rn, ts, ra⟩, au2, cu2⟩] _ _ hsz4) (by simp; omega) (by decide) (by simp; omega) ?_
           intro au5 cu5 w5 ho5 hg5
           have HS5 := Lib.hid (HS4.out.kept ((Ext.refl W4).alloc (.cells ([(⟨⟨rn, ts, ra⟩, au2, cu2⟩ : PR)].flatMap encP).toArray 34)))
           have b1s := HS5.out.size hg5 1 _ HS5.out.b1
           have f1s := HS5.out.frz hg5 1
           have hbs := World.block_lt_of_cell? _ _ b1s
           have HO5 := Lib.hid ho5
           have HG5 := Lib.hid hg5
           have HG6 := Lib.hid (GoodP.ext ((Ext.refl W4).alloc (.cells ([(⟨⟨rn, ts, ra⟩, au2, cu2⟩ : PR)].flatMap encP).toArray 34)) HG4.out.1)
           have HG7 := Lib.hid (OwnT.ext ((Ext.refl W4).alloc (.cells ([(⟨⟨rn, ts, ra⟩, au2, cu2⟩ : PR)].flatMap encP).toArray 34)) HG4.out.2)
           clear ho5 hg5 hlt4 hsz4))
      go_roundw
      case rel =>
        refine ⟨k + 1, _, ps ++ [⟨⟨rn, ts, ra⟩, au2, cu2⟩], by omega, by go_num, HS5.out.grown HG6.out HG7.out HG5.out HO5.out, ?_⟩
        rw [List.map_append, HPS.out, Hhnt.out]; rfl
      case measure => simp [intOf]; omega
    · obtain rfl : k = rs.length := by omega
      have b0 := hs.b0
      have b1 := hs.b1
      have b2 := hs.b2
      have y0 := hs.ext.cell Y0.out
      have y1 := hs.ext.cell Y1.out
      have y2 := hs.ext.cell Y2.out
      have fy : ∀ j, wr.frozen? ⟨w.heap.size + 1, j, none⟩ = false := fun j => (World.frozen?_of_block (a := ⟨w.heap.size + 1, j, none⟩) (hs.ext.block (by have := HSZ.out; dsimp only; omega))).trans (FY.out j)
      have fy0 := fy 0
      have fy1 := fy 1
      have fy2 := fy 2
      have hbr := World.block_lt_of_cell? _ _ y1
      have hbb := World.block_lt_of_cell? _ _ b1
      have hexx := hs.ext
      obtain ⟨au, cu, rfl⟩ := own_form hs.own
      clear hs fy
      go_wp2_with fail
      refine bodyPost_ret (v := .agg #[.int .i64 ar, .slice au ps.length cu, .int .u32 (df : Int)]) (by first | (simp [results, Try.results18, go_sem, y0, y1, y2]; done) | (simp [results, Try.results18, go_sem, y0, y1, y2]; rfl)) rfl ⟨au, cu, ps, rfl, by rw [HPS.out, List.take_length], ?_, ?_⟩
      · refine RF.base (b := w1.heap.size + 1) ?_ (by have := HSZ.out; omega)
        repeat (first | exact HS.out.rf | refine RF.set ?_ (by have := HSZ.out; first | (simp; done) | (simp; omega)) _)
      · repeat (first | exact HX1.out.trans hexx | refine Ext.setCell ?_ (by first | (simp; done) | (simp; omega)) _)
end L21
end Go.Proofs.Ytkmhfjnjfghnjaa

