import Derived.Test.YtkmhfjnjfghnjaaMq30
import Derived.Test.YtkmhfjnjfghnjaaMq14
import Derived.Test.YtkmhfjnjfghnjaaMq25
/- Layer 21: the walk of Normal. -/
namespace Go.Proofs.Ytkmhfjnjfghnjaa
open Go.RowKit V
namespace L21
theorem normL_take {df : Nat} {rs : List Rule} {k : Nat} (h : k < rs.length) : normL df (rs.take (k + 1)) = normL df (rs.take k) ++ if keepB df (normR rs[k]) = true then [normR rs[k]] else [] := by
  rw [List.take_succ_eq_append_getElem h]
  unfold normL
  rw [List.map_append, List.filter_append]
  congr 1
  rw [List.map_singleton, List.filter_cons]
  rfl
set_option maxRecDepth 100000 in
set_option maxHeartbeats 2000000 in
theorem Normal_no (f : Filter) (u : Value) (hf : OkF f) (hm : mayF f = false) (w : World) (hu : RdR w 3 (IsR w) u f.rules) :
    Calls Try.prog 19 #[.agg #[.int .i64 f.arch, u, .int .u32 (f.dflt : Int)]] w fun e w' =>
      e = .returned (.tuple #[.agg #[.int .i64 0, .slice none 0 0, .int .u32 0], .int .i64 210]) ∧ Ext w w' := by
  have hM := fun W (hx : Ext w W) => May_calls f u hf W (rdRR_ext hx hu)
  rw [hm] at hM
  obtain ⟨av, cv, rfl, -, -⟩ := rdR_cell hu
  have HhM := Lib.hid hM
  clear hM
  have Hhm := Lib.hid hm
  clear hm
  clear hu
  go_enter Try.func19, Try.ntmps19
  go_wp2_with fail
  refine (HhM.out _ (((Ext.refl _).alloc _).alloc _)).mono ?_
  rintro e w1 ⟨rfl, hx1⟩
  have y0 := hx1.cell (p := ⟨w.heap.size + 1, 0, none⟩) (by simp [go_sem]; rfl)
  have y1 := hx1.cell (p := ⟨w.heap.size + 1, 1, none⟩) (by simp [go_sem]; rfl)
  have y2 := hx1.cell (p := ⟨w.heap.size + 1, 2, none⟩) (by simp [go_sem]; rfl)
  have fy : ∀ j, w1.frozen? ⟨w.heap.size + 1, j, none⟩ = false := fun j => (World.frozen?_of_block (hx1.block (by simp))).trans (by simp [go_sem])
  have fy0 := fy 0
  have fy1 := fy 1
  have fy2 := fy 2
  have hby := World.block_lt_of_cell? _ _ y1
  have HX1 := Lib.hid ((((Ext.refl w).alloc _).alloc _).trans hx1)
  clear hx1 fy
  go_wp2_with fail
  refine bodyPost_ret (v := .tuple #[.agg #[.int .i64 0, .slice none 0 0, .int .u32 0], .int .i64 210]) (by first | (simp [results, Try.results19, go_sem, y0, y1, y2]; done) | (simp [results, Try.results19, go_sem, y0, y1, y2]; rfl)) rfl ⟨rfl, ?_⟩
  repeat (first | exact HX1.out | refine Ext.setCell ?_ (by first | (simp; done) | (simp; omega)) _)
set_option maxRecDepth 100000 in
set_option maxHeartbeats 2000000 in
theorem Normal_yes (f : Filter) (u : Value) (hf : OkF f) (hlr : ∀ r ∈ f.rules, r.tests.length ≤ 1000) (hm : mayF f = true) (w : World) (hu : RdR w 3 (IsR w) u f.rules) :
    Calls Try.prog 19 #[.agg #[.int .i64 f.arch, u, .int .u32 (f.dflt : Int)]] w fun e w' =>
      ∃ a c ps, e = .returned (.tuple #[.agg #[.int .i64 f.arch, .slice a (ps : List PR).length c, .int .u32 (f.dflt : Int)], .int .i64 0]) ∧ ps.map PR.r = normL f.dflt f.rules ∧ RF w' w.heap.size (.slice a ps.length c) ps ∧ Ext w w' := by
  have hM := fun W (hx : Ext w W) => May_calls f u hf W (rdRR_ext hx hu)
  rw [hm] at hM
  have hl4 : f.rules.length ≤ 400 := by
    unfold mayF at hm
    simp only [Bool.and_eq_true, decide_eq_true_eq] at hm
    exact hm.2.2.1
  have hok := hf.r
  obtain ⟨ar, rs, df⟩ := f
  dsimp only at *
  obtain ⟨av, cv, rfl, -, hca⟩ := rdR_cell hu
  have HhM := Lib.hid hM
  clear hM
  have Hhm := Lib.hid hm
  clear hm
  have Hhok := Lib.hid hok
  clear hok
  have Hhlr := Lib.hid hlr
  clear hlr
  have Hhca := Lib.hid hca
  clear hca
  clear hu
  go_enter Try.func19, Try.ntmps19
  go_wp2_with fail
  refine (HhM.out _ (((Ext.refl _).alloc _).alloc _)).mono ?_
  rintro e w1 ⟨rfl, hx1⟩
  have z0 := hx1.cell (p := ⟨w.heap.size, 0, none⟩) (by simp [go_sem]; rfl)
  have z1 := hx1.cell (p := ⟨w.heap.size, 1, none⟩) (by simp [go_sem]; rfl)
  have z2 := hx1.cell (p := ⟨w.heap.size, 2, none⟩) (by simp [go_sem]; rfl)
  have y0 := hx1.cell (p := ⟨w.heap.size + 1, 0, none⟩) (by simp [go_sem]; rfl)
  have y1 := hx1.cell (p := ⟨w.heap.size + 1, 1, none⟩) (by simp [go_sem]; rfl)
  have y2 := hx1.cell (p := ⟨w.heap.size + 1, 2, none⟩) (by simp [go_sem]; rfl)
  have fy : ∀ j, w1.frozen? ⟨w.heap.size + 1, j, none⟩ = false := fun j => (World.frozen?_of_block (hx1.block (by simp))).trans (by simp [go_sem])
  have hby := World.block_lt_of_cell? _ _ y1
  have HX1 := Lib.hid ((((Ext.refl w).alloc _).alloc _).trans hx1)
  have hs1 : w.heap.size + 2 ≤ w1.heap.size := by have := hx1.size; simp at this; omega
  have q1 := fun o => ((Ext.refl w1).alloc o).cell z1
  have Z1 := Lib.hid z1
  have Z2 := Lib.hid z2
  have Y0 := Lib.hid y0
  have Y1 := Lib.hid y1
  have Y2 := Lib.hid y2
  have FY := Lib.hid fy
  clear hx1 fy y0 y1 y2
  go_wp2_with fail
  have HS0 := Lib.hid (OS.start w1 ar df 25)
  clear z0 z1 z2 q1
  go_loopw [19] (fun i wr => ∃ (k : Nat) (v : Value) (ps : List PR), k ≤ rs.length ∧ i = .int .i64 k ∧ OS w1 ar df v ps wr ∧ ps.map PR.r = normL df (rs.take k)) (fun i _ => rs.length - (intOf i).toNat)
  case atStart => exact ⟨0, _, _, by omega, rfl, HS0.out, rfl⟩
  case round =>
    obtain ⟨k, v, ps, hk, rfl, hs, hps⟩ := hrel
    have HPS := Lib.hid hps
    have HS := Lib.hid hs
    clear hps
    by_cases hlt : k < rs.length
    · obtain ⟨b, o, vt, rfl, g1, g2, g3, g4⟩ := Hhca.out k hlt
      replace g1 := (HX1.out.trans hs.ext).cell g1
      replace g2 := (HX1.out.trans hs.ext).cell g2
      replace g3 := (HX1.out.trans hs.ext).cell g3
      replace g4 := g4.ext (HX1.out.trans hs.ext)
      have z2 := hs.ext.cell Z2.out
      have hn := fun W (hx : Ext wr W) => normal_calls rs[k] vt (Hhok.out _ (List.getElem_mem hlt)) (Hhlr.out _ (List.getElem_mem hlt)) W (g4.ext hx)
      obtain ⟨at', ct, rfl, -, -⟩ := rdT_cell g4
      have hnt := normL_take (df := df) hlt
      have hpl : ps.length ≤ 400 := by
        have e := congrArg List.length HPS.out
        have e2 := normL_len df (rs.take k)
        rw [List.length_map] at e
        rw [List.length_take] at e2
        omega
      generalize normR (rs[k]'hlt) = nr at *
      generalize rs[k]'hlt = r at *
      obtain ⟨rn, ts, ra⟩ := r
      obtain ⟨nn, nts, nx⟩ := nr
      dsimp only at *
      have Hhn := Lib.hid hn
      clear hn
      have Hhnt := Lib.hid hnt
      clear hnt
      obtain ⟨au, cu, rfl⟩ := own_form hs.own
      clear hs g4
      have b1 := HS.out.b1
      have b2 := HS.out.b2
      have hbb := World.block_lt_of_cell? _ _ b1
      go_wp2_with fail
      refine (Hhn.out _ ((Ext.refl _).alloc _)).mono ?_
      rintro e w2 ⟨a2, c2, rfl, hx2, hg2, ho2⟩
      have p0 := hx2.cell (p := ⟨wr.heap.size, 0, none⟩) (by simp [go_sem]; rfl)
      have p1 := hx2.cell (p := ⟨wr.heap.size, 1, none⟩) (by simp [go_sem]; rfl)
      have p2 := hx2.cell (p := ⟨wr.heap.size, 2, none⟩) (by simp [go_sem]; rfl)
      have fp : ∀ j, w2.frozen? ⟨wr.heap.size, j, none⟩ = false := fun j => (World.frozen?_of_block (hx2.block (by simp))).trans (by simp [go_sem])
      have fp0 := fp 0
      have fp1 := fp 1
      have fp2 := fp 2
      have hpb := World.block_lt_of_cell? _ _ p1
      have hxx := ((Ext.refl wr).alloc (.cells #[.int .u32 (rn : Int), .slice at' ts.length ct, .int .u32 (ra : Int)] 34)).trans hx2
      replace z2 := hxx.cell z2
      have HXX := Lib.hid hxx
      have HG2 := Lib.hid hg2
      have HO2 := Lib.hid (ho2.base (b' := wr.heap.size + 1) (by simp))
      have b1r := HXX.out.cell b1
      clear hx2 fp hg2 ho2 hxx b1 b2
      have hcase : (decide (0 < nts.length) = true ∧ decide ((0 : Int) < (nts.length : Int)) = true ∧ keepB df ⟨nn, nts, nx⟩ = true) ∨ (decide (0 < nts.length) = false ∧ decide ((0 : Int) < (nts.length : Int)) = false ∧ ((nx : Int) != (df : Int)) = true ∧ keepB df ⟨nn, nts, nx⟩ = true) ∨
          (decide (0 < nts.length) = false ∧ decide ((0 : Int) < (nts.length : Int)) = false ∧ ((nx : Int) != (df : Int)) = false ∧ keepB df ⟨nn, nts, nx⟩ = false) := by
        have e : keepB df ⟨nn, nts, nx⟩ = (!nts.isEmpty || !(nx == df)) := rfl
        rw [e]
        have hq : ((nx : Int) != (df : Int)) = !(nx == df) := by rw [Bool.eq_iff_iff]; simp; omega
        rw [hq]
        cases nts with
        | nil => cases (nx == df) <;> simp
        | cons t l => refine .inl ⟨decide_eq_true (by simp), decide_eq_true (by simp only [List.length_cons]; omega), rfl⟩
      rcases hcase with ⟨d0, d1, hkb⟩ | ⟨d0, d1, d2, hkb⟩ | ⟨d0, d1, d2, hkb⟩
      case inr.inr =>
        rw [hkb] at Hhnt
        have Hhkb := Lib.hid hkb
        clear hkb
        go_wp2_with fail
        go_roundw
        case rel =>
          refine ⟨k + 1, _, ps, by omega, by go_num, HS.out.kept ?_, by rw [HPS.out, Hhnt.out]; simp⟩
          repeat (first | exact HXX.out | refine Ext.setCell ?_ (by first | (simp; done) | (simp; omega)) _)
        case measure => simp [intOf]; omega
      all_goals
        rw [hkb] at Hhnt
        have Hhkb := Lib.hid hkb
        clear hkb
        go_wp2_with (
          (at_builtin
           generalize hW4 : World.setCell _ _ _ = W4
           have HS4 : Hid (OS w1 ar df (.slice au ps.length cu) ps W4) := by
             rw [← hW4]
             refine Lib.hid (HS.out.kept ?_)
             repeat (first | exact HXX.out | refine Ext.setCell ?_ (by first | (simp; done) | (simp; omega)) _)
           have HG4 : Hid (GoodP W4 ⟨⟨nn, nts, nx⟩, a2, c2⟩ ∧ OwnT W4 (w1.heap.size + 1) ⟨⟨nn, nts, nx⟩, a2, c2⟩) := by
             rw [← hW4]
             have h1 := good_set HG2.out HO2.out (q := ⟨wr.heap.size, 0, none⟩) (by simp) (.int .u32 (nn : Int))
             have h2 := good_set h1.1 h1.2 (q := ⟨wr.heap.size, 1, none⟩) (by simp) (.slice a2 nts.length c2)
             have h3 := good_set h2.1 h2.2 (q := ⟨wr.heap.size, 2, none⟩) (by simp) (.int .u32 (nx : Int))
             exact Lib.hid ⟨h3.1, h3.2.base (by have := HS.out.lt; omega)⟩
           have hsz4 : w2.heap.size = W4.heap.size := by rw [← hW4]; simp
           clear hW4 b1r p0 p1 p2 fp0 fp1 fp2 z2 g1 g2 g3
           have hlt4 := HS4.out.lt
           refine wpList_app_g rfl (.tmp 37) (.tmp 39) _ rfl Try.underlying22 infoR9 rfl (by decide) encP_len encP_one (w1.heap.size + 1) _ _ ps [⟨⟨nn, nts, nx⟩, a2, c2⟩] rfl rfl (HS4.out.own.alloc _) (rd_lit encP_len W4 [⟨⟨nn, nts, nx⟩, a2, c2⟩] _ _ hsz4) (by simp; omega) (by decide) (by simp; omega) ?_
           intro au5 cu5 w5 ho5 hg5
           have HS5 := Lib.hid (HS4.out.kept ((Ext.refl W4).alloc (.cells ([(⟨⟨nn, nts, nx⟩, a2, c2⟩ : PR)].flatMap encP).toArray 34)))
           have b1s := HS5.out.size hg5 1 _ HS5.out.b1
           have f1s := HS5.out.frz hg5 1
           have hbs := World.block_lt_of_cell? _ _ b1s
           have HO5 := Lib.hid ho5
           have HG5 := Lib.hid hg5
           have HG6 := Lib.hid (GoodP.ext ((Ext.refl W4).alloc (.cells ([(⟨⟨nn, nts, nx⟩, a2, c2⟩ : PR)].flatMap encP).toArray 34)) HG4.out.1)
           have HG7 := Lib.hid (OwnT.ext ((Ext.refl W4).alloc (.cells ([(⟨⟨nn, nts, nx⟩, a2, c2⟩ : PR)].flatMap encP).toArray 34)) HG4.out.2)
           clear ho5 hg5 hlt4 hsz4))
        go_roundw
        case rel =>
          refine ⟨k + 1, _, ps ++ [⟨⟨nn, nts, nx⟩, a2, c2⟩], by omega, by go_num, HS5.out.grown HG6.out HG7.out HG5.out HO5.out, ?_⟩
          rw [List.map_append, HPS.out, Hhnt.out]; rfl
        case measure => simp [intOf]; omega
    · obtain rfl : k = rs.length := by omega
      have b0 := hs.b0
      have b1 := hs.b1
      have b2 := hs.b2
      have y0 := hs.ext.cell Y0.out
      have y1 := hs.ext.cell Y1.out
      have y2 := hs.ext.cell Y2.out
      have fy : ∀ j, wr.frozen? ⟨w.heap.size + 1, j, none⟩ = false := fun j => (World.frozen?_of_block (a := ⟨w.heap.size + 1, j, none⟩) (hs.ext.block hby)).trans (FY.out j)
      have fy0 := fy 0
      have fy1 := fy 1
      have fy2 := fy 2
      have hbr := World.block_lt_of_cell? _ _ y1
      have hbb := World.block_lt_of_cell? _ _ b1
      have hexx := hs.ext
      obtain ⟨au, cu, rfl⟩ := own_form hs.own
      clear hs fy
      go_wp2_with fail
      refine bodyPost_ret (v := .tuple #[.agg #[.int .i64 ar, .slice au ps.length cu, .int .u32 (df : Int)], .int .i64 0]) (by first | (simp [results, Try.results19, go_sem, y0, y1, y2]; done) | (simp [results, Try.results19, go_sem, y0, y1, y2]; rfl)) rfl ⟨au, cu, ps, rfl, by rw [HPS.out, List.take_length], ?_, ?_⟩
      · refine RF.base (b := w1.heap.size + 1) ?_ (by omega)
        repeat (first | exact HS.out.rf | refine RF.set ?_ (by first | (simp; done) | (simp; omega)) _)
      · repeat (first | exact HX1.out.trans hexx | refine Ext.setCell ?_ (by first | (simp; done) | (simp; omega)) _)
end L21
end Go.Proofs.Ytkmhfjnjfghnjaa

