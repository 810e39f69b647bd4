/- Layer 21: the walk of the reference's Normal. -/
import Derived.Test.YtkmhfjnjfghnjaaIsM
import Derived.Test.YtkmhfjnjfghnjaaIsA
import Derived.Test.YtkmhfjnjfghnjaaKept
import Derived.BigRegion
import Derived.Deep.LoopGhost
import Derived.Deep.DeepCutAuto
namespace Go.Proofs.Ytkmhfjnjfghnjaa
open Go.RowKit V
namespace L21
set_option maxRecDepth 100000 in
set_option maxHeartbeats 2000000 in
theorem refNormal_calls (f : Filter) (u : Value) (hok : ∀ r ∈ f.rules, OkR r) (hl : f.rules.length ≤ 1000) (hlr : ∀ r ∈ f.rules, r.tests.length ≤ 1000) (w : World) (hu : RdR w 3 (IsR w) u f.rules) :
    Calls Try.prog 21 #[.agg #[.int .i64 f.arch, u, .int .u32 (f.dflt : Int)]] w fun e w' =>
      ∃ a c ps, e = .returned (.agg #[.int .i64 f.arch, .slice a (ps : List PR).length c, .int .u32 (f.dflt : Int)]) ∧ ps.map PR.r = normL f.dflt f.rules ∧ RF w' w.heap.size (.slice a ps.length c) ps ∧ Ext w w' := by
  obtain ⟨ar, rs, df⟩ := f
  dsimp only at *
  obtain ⟨av, cv, rfl, -, hca⟩ := rdR_cell hu
  have Hhlr := Lib.hid hlr
  clear hlr
  have Hhok := Lib.hid hok
  clear hok
  have Hhca := Lib.hid hca
  clear hca
  clear hu
  have hl0 : ∀ ts : List Test, ([] : List Test).length + ts.length = ts.length := fun ts => by simp
  have Hhl0 := Lib.hid hl0
  clear hl0
  go_enter Try.func21, Try.ntmps21
  obtain ⟨w1, hw1⟩ : ∃ w1, w1 = (w.alloc (.cells #[.int .i64 ar, .slice av rs.length cv, .int .u32 (df : Int)] 25)).alloc (.cells #[.int .i64 0, .slice none 0 0, .int .u32 0] 25) := ⟨_, rfl⟩
  have hx1 : Ext w w1 := by rw [hw1]; exact ((Ext.refl _).alloc _).alloc _
  have z1 : w1.cell? ⟨w.heap.size, 1, none⟩ = some (.slice av rs.length cv) := by rw [hw1]; simp [go_sem]
  have HZ2 : Hid (w1.cell? ⟨w.heap.size, 2, none⟩ = some (.int .u32 (df : Int))) := Lib.hid (by rw [hw1]; simp [go_sem])
  have y0 : w1.cell? ⟨w.heap.size + 1, 0, none⟩ = some (.int .i64 0) := by rw [hw1]; simp [go_sem]
  have y1 : w1.cell? ⟨w.heap.size + 1, 1, none⟩ = some (.slice none 0 0) := by rw [hw1]; simp [go_sem]
  have y2 : w1.cell? ⟨w.heap.size + 1, 2, none⟩ = some (.int .u32 0) := by rw [hw1]; simp [go_sem]
  have fy : ∀ j, w1.frozen? ⟨w.heap.size + 1, j, none⟩ = false := fun j => by rw [hw1]; simp [go_sem]
  have hs1 : w1.heap.size = w.heap.size + 2 := by rw [hw1]; simp
  have HX1 := Lib.hid hx1
  have Z1 := Lib.hid z1
  have Y0 := Lib.hid y0
  have Y1 := Lib.hid y1
  have Y2 := Lib.hid y2
  have FY := Lib.hid fy
  have HW1 := Lib.hid hw1
  have HSZ := Lib.hid hs1
  clear hx1 z1 y0 y1 y2 fy hs1 hw1
  go_wp2_with fail
  rw [← HW1.out, ← HSZ.out]
  have HS0 := Lib.hid (OS.start w1 ar df 25)
  go_loopw [4] (fun i wr => ∃ (k : Nat) (v : Value) (ps : List PR), k ≤ rs.length ∧ i = .int .i64 k ∧ OS w1 ar df v ps wr ∧ ps.map PR.r = normL df (rs.take k)) (fun i _ => rs.length - (intOf i).toNat)
  case atStart => exact ⟨0, _, _, by omega, rfl, HS0.out, rfl⟩
  case round =>
    obtain ⟨wo, hwo⟩ : ∃ wo : World, wo = wr := ⟨_, rfl⟩
    subst hwo
    obtain ⟨k, v, ps, hk, rfl, hs, hps⟩ := hrel
    have HPS := Lib.hid hps
    have HS := Lib.hid hs
    have z1 := hs.ext.cell Z1.out
    clear hps
    by_cases hlt : k < rs.length
    · obtain ⟨b, o, vt, rfl, g1, g2, g3, g4⟩ := Hhca.out k hlt
      replace g1 := (HX1.out.trans hs.ext).cell g1
      replace g2 := (HX1.out.trans hs.ext).cell g2
      replace g3 := (HX1.out.trans hs.ext).cell g3
      replace g4 := g4.ext (HX1.out.trans hs.ext)
      have hrl := Hhlr.out _ (List.getElem_mem hlt)
      have hnt := normL_take (df := df) hlt
      have hokr := Hhok.out _ (List.getElem_mem hlt)
      have hpl : ps.length ≤ 1000 := by
        have e := congrArg List.length HPS.out
        have e2 := normL_len df (rs.take k)
        rw [List.length_map] at e
        rw [List.length_take] at e2
        omega
      generalize rs[k]'hlt = r at *
      have hN : normR r = ⟨r.nr, trimT (cutT r.tests r.action).1 (cutT r.tests r.action).2, (cutT r.tests r.action).2⟩ := rfl
      rw [hN] at hnt
      obtain ⟨rn, ts, ra⟩ := r
      dsimp only at *
      have HG4 := Lib.hid g4
      obtain ⟨at', ct, rfl, -, hte⟩ := rdT_cell g4
      have Hte := Lib.hid hte
      clear hte
      have Hhnt := Lib.hid hnt
      clear hnt
      clear hs g4
      have b1 := HS.out.b1
      have hbb := World.block_lt_of_cell? _ _ b1
      have hi2 : (k : Int) < (rs.length : Int) := by omega
      have q1 := fun o => ((Ext.refl wo).alloc o).cell z1
      have q2 := fun o => ((Ext.refl wo).alloc o).cell g2
      have q3 := fun o => ((Ext.refl wo).alloc o).cell g3
      have q4 := fun o => ((Ext.refl wo).alloc o).cell g1
      obtain ⟨au, cu, rfl⟩ := own_form HS.out.own
      go_wp2_with fail
      go_region
      obtain ⟨W5, hW5⟩ : ∃ W5, W5 = (wo.alloc (.cells #[.int .u32 (rn : Int), .slice none 0 0, .int .u32 (ra : Int)] 34)).drew := ⟨_, rfl⟩
      have hrb0 : RB wo rn (.slice none 0 0) ra [] W5 := by
        rw [hW5]
        exact ⟨((Ext.refl _).alloc _).drew, by simp [go_sem], by simp [go_sem], by simp [go_sem], fun j => by simp [go_sem], World.ownsRow_nil _ _ _ _⟩
      rw [← hW5]
      have HRB0 := Lib.hid hrb0
      clear hW5 hrb0 q1 q2 q3 q4
      go_wp2_with fail
      go_loopw [6] (fun i wi => ∃ (p : Nat) (vv : Value), p ≤ ts.length ∧ i = .int .i64 p ∧ RB wo rn vv ra (ts.take p) wi ∧ ∀ t ∈ ts.take p, (t.mask == 0) = false) (fun i _ => ts.length - (intOf i).toNat)
      case atStart => exact ⟨0, _, by omega, rfl, HRB0.out, fun t h => by cases h⟩
      case round =>
        obtain ⟨p, vv, hp, rfl, hrb, hnz⟩ := hrel
        have hlp : (ts.take p).length = p := by rw [List.length_take]; omega
        obtain ⟨av2, cv2, rfl⟩ := own_form hrb.own
        rw [hlp] at hrb
        have HRB := Lib.hid hrb
        have HNZ := Lib.hid hnz
        have hxw := HS.out.ext.trans hrb.ext
        have z1 := hxw.cell Z1.out
        have g2' := hrb.ext.cell g2
        have HXW := Lib.hid (HX1.out.trans hxw)
        have b0 := hrb.b0
        have b1 := hrb.b1
        have b2 := hrb.b2
        have f1 := hrb.f 1
        have f2 := hrb.f 2
        have hbb := World.block_lt_of_cell? _ _ b1
        have HLP := Lib.hid hlp
        clear hlp
        by_cases hpl2 : p < ts.length
        · obtain ⟨b3, o3, rfl, t0, t1, t2, t3⟩ := Hte.out p hpl2
          replace t0 := (hrb.ext).cell t0
          replace t1 := (hrb.ext).cell t1
          replace t2 := (hrb.ext).cell t2
          replace t3 := (hrb.ext).cell t3
          have hcz := fun (hz : ((ts[p]'hpl2).mask == 0) = true) => cut_at (x := ra) hpl2 hnz hz
          have htk : ts.take (p + 1) = ts.take p ++ [ts[p]'hpl2] := List.take_succ_eq_append_getElem hpl2
          clear hrb hnz hxw
          generalize ts[p]'hpl2 = t at *
          obtain ⟨ta, tm, tv, tx⟩ := t
          dsimp only at *
          have hqm : ((tm : Int) == 0) = (tm == 0) := by rw [Bool.eq_iff_iff]; simp
          have HTK := Lib.hid htk
          clear htk
          have q1 := fun o => ((Ext.refl wr).alloc o).cell b1
          have q2 := fun o => ((Ext.refl wr).alloc o).cell b2
          have hne7 : ¬ wo.heap.size = wr.heap.size := by omega
          cases hz : (tm == 0)
          · rw [hz] at hqm
            have Hhz := Lib.hid hz
            clear hz
            have Hhcz := Lib.hid hcz
            clear hcz
            go_wp2_with (at_builtin
                         generalize hW6 : wr.alloc (.cells #[.int .i64 ta, .int .u64 (tm : Int), .int .u64 (tv : Int), .int .u32 (tx : Int)] 37) = W6
                         have hx6 : Ext wr W6 := by rw [← hW6]; exact (Ext.refl _).alloc _
                         have HRB6 := Lib.hid (HRB.out.kept hx6)
                         have hlt6 := HRB6.out.lt
                         have hsz6 : wr.heap.size + 1 = W6.heap.size := by rw [← hW6]; simp
                         clear hW6 hx6
                         refine wpList_app_g rfl (.tmp 60) (.tmp 62) _ rfl Try.underlying32 infoT9 rfl (by decide) encT_len encT_one (wo.heap.size + 1) _ _ (ts.take p) [⟨ta, tm, tv, tx⟩] rfl rfl (HRB6.out.own.alloc _) (rd_lit encT_len W6 [⟨ta, tm, tv, tx⟩] _ _ hsz6) (by rw [HLP.out]; simp; omega) (by decide) (by simp; omega) ?_
                         intro au7 cu7 w7 ho7 hg7
                         have HRB7 := Lib.hid (HRB6.out.kept ((Ext.refl W6).alloc (.cells ([(⟨ta, tm, tv, tx⟩ : Test)].flatMap encT).toArray 37)))
                         have b1s := HRB7.out.size hg7 1 _ HRB7.out.b1
                         have f1s := HRB7.out.frz hg7 1
                         have hbs := World.block_lt_of_cell? _ _ b1s
                         have HO7 := Lib.hid ho7
                         have HG7 := Lib.hid hg7
                         clear ho7 hg7 hlt6 hsz6 q1 q2 b0 b1 b2 z1 g2' t0 t1 t2 t3 f1 f2)
            go_roundw
            case rel =>
              refine ⟨p + 1, _, by omega, by go_num, by rw [HTK.out]; exact HRB7.out.app HG7.out (by have h := HO7.out; rw [HLP.out] at h ⊢; exact h), fun t h => ?_⟩
              rw [HTK.out] at h
              rcases List.mem_append.1 h with h | h
              · exact HNZ.out t h
              · rw [List.mem_singleton] at h; rw [h]; exact Hhz.out
            case measure => simp [intOf]; omega
          · rw [hz] at hqm
            have HCUT0 := Lib.hid (hcz hz)
            have Hhz := Lib.hid hz
            clear hz
            clear hcz
            go_upto_region 13 with fail
            generalize hW6 : World.alloc (World.setCell _ _ _) _ = W6
            obtain ⟨cs, hcs⟩ : ∃ cs, cs = ts.take p := ⟨_, rfl⟩
            obtain ⟨x, hx⟩ : ∃ x, x = tx := ⟨_, rfl⟩
            obtain ⟨a3, ha3⟩ : ∃ a3, a3 = av2 := ⟨_, rfl⟩
            obtain ⟨c3, hc3⟩ : ∃ c3, c3 = cv2 := ⟨_, rfl⟩
            have HRBX : Hid (RB wo rn (.slice a3 cs.length c3) x cs W6) := by
              rw [← hW6, hcs, hx, ha3, hc3, HLP.out]
              exact Lib.hid ((HRB.out.act tx).kept ((Ext.refl _).alloc _))
            have HCUT : Hid (cutT ts ra = (cs, x)) := Lib.hid (by rw [hcs, hx]; exact HCUT0.out)
            have hcl : cs.length ≤ ts.length := by rw [hcs, List.length_take]; omega
            clear hcs hx ha3 hc3 hW6 q1 q2 b0 b1 b2 z1 g2' t0 t1 t2 t3 f1 f2 hne7 hqm HCUT0 HRB HNZ HXW HTK
            have HNT := Lib.hid HRBX.out.nt
            have b1q := HRBX.out.b1
            go_loopg [] cs.length (fun kk wl => NT wo wo.heap.size rn a3 kk c3 x cs wl ∧ trimN cs x cs.length = trimN cs x kk)
            case atStart => exact ⟨HNT.out, rfl⟩
            case round =>
              obtain ⟨wl, hwl⟩ : ∃ wl : World, wl = wr := ⟨_, rfl⟩
              subst hwl
              obtain ⟨hs3, heq⟩ := hrel
              have HS3 := Lib.hid hs3
              have hkk := hs3.hk
              have b0 := hs3.b0
              have b1 := hs3.b1
              have b2 := hs3.b2
              have f1 := hs3.f 1
              have kc := hs3.kc
              have hbb := World.block_lt_of_cell? _ _ b1
              clear b1q
              rcases Nat.eq_zero_or_pos gk with h0 | h0
              · have d0 : decide (0 < gk) = false := decide_eq_false (by omega)
                have d1 : decide ((0 : Int) < (gk : Int)) = false := decide_eq_false (by omega)
                have heq2 : trimN cs x cs.length = gk := by rw [heq, h0]; rfl
                have Heq2 := Lib.hid heq2
                have Hheq := Lib.hid heq
                clear heq
                have Hh0 := Lib.hid h0
                clear h0
                clear hs3 heq2
                go_upto_region 15 with (go_quiet (fail))
                have htt : trimT cs x = cs.take gk := by
                  unfold trimT
                  rw [Heq2.out]
                have HTK : Hid ((cs.take gk).length = gk) := Lib.hid (by rw [List.length_take]; omega)
                have HPP : Hid (GoodP wl ⟨⟨rn, cs.take gk, x⟩, a3, c3⟩ ∧ OwnT wl (wo.heap.size + 1) ⟨⟨rn, cs.take gk, x⟩, a3, c3⟩) := Lib.hid ⟨by
                  show Rd wl 4 encT (.slice a3 (cs.take gk).length c3) (cs.take gk)
                  rw [HTK.out]; exact HS3.out.good, HS3.out.own⟩
                have HNT5 : Hid (normL df (rs.take (k + 1)) = normL df (rs.take k) ++ if keepB df ⟨rn, cs.take gk, x⟩ = true then [(⟨rn, cs.take gk, x⟩ : Rule)] else []) := Lib.hid (by rw [Hhnt.out, HCUT.out]; dsimp only; rw [htt])
                have z2 := (HS.out.ext.trans HS3.out.ext).cell HZ2.out
                have b1o := HS3.out.ext.cell HS.out.b1
                have bo := World.block_lt_of_cell? _ _ b1o
                clear htt
                have hcase : (decide (0 < gk) = true ∧ decide ((0 : Int) < (gk : Int)) = true ∧ keepB df ⟨rn, cs.take gk, x⟩ = true) ∨ (decide (0 < gk) = false ∧ decide ((0 : Int) < (gk : Int)) = false ∧ ((x : Int) != (df : Int)) = true ∧ keepB df ⟨rn, cs.take gk, x⟩ = true) ∨
                    (decide (0 < gk) = false ∧ decide ((0 : Int) < (gk : Int)) = false ∧ ((x : Int) != (df : Int)) = false ∧ keepB df ⟨rn, cs.take gk, x⟩ = false) := by
                  have e : keepB df ⟨rn, cs.take gk, x⟩ = (!(cs.take gk).isEmpty || !(x == df)) := rfl
                  rw [e]
                  have hq : ((x : Int) != (df : Int)) = !(x == df) := by rw [Bool.eq_iff_iff]; simp; omega
                  rw [hq]
                  have hle := HTK.out
                  cases hct : cs.take gk with
                  | nil => rw [hct] at hle; have h0 : gk = 0 := hle.symm; rw [h0]; cases (x == df) <;> simp
                  | cons t l => rw [hct] at hle; have h0 : 0 < gk := by rw [← hle]; simp
                                exact .inl ⟨decide_eq_true h0, decide_eq_true (by omega), rfl⟩
                rcases hcase with ⟨d5, d6, hkb⟩ | ⟨d5, d6, d7, hkb⟩ | ⟨d5, d6, d7, hkb⟩
                · rw [d0] at d5; cases d5
                · have HKB := Lib.hid hkb
                  clear hkb
                  go_wp2_with (at_builtin
                               generalize hW4 : wl.drewN nq = W4
                               have hx4 : Ext wl W4 := by rw [← hW4]; exact (Ext.refl _).drewN _
                               have HS4 := Lib.hid (HS.out.kept (HS3.out.ext.trans hx4))
                               have HG4 := Lib.hid (And.intro (HPP.out.1.ext hx4) ((HPP.out.2.ext hx4).base (b' := w1.heap.size + 1) (by have := HS.out.lt; omega)))
                               have hlt4 := HS4.out.lt
                               have hsz4 : wl.heap.size = W4.heap.size := by rw [← hW4]; simp
                               clear hW4 hx4
                               refine wpList_app_g rfl (.tmp 103) (.tmp 105) _ rfl Try.underlying22 infoR9 rfl (by decide) encP_len encP_one (w1.heap.size + 1) _ _ ps [⟨⟨rn, cs.take gk, x⟩, a3, c3⟩] rfl rfl (HS4.out.own.alloc _) (by have h := rd_lit encP_len W4 [(⟨⟨rn, cs.take gk, x⟩, a3, c3⟩ : PR)] 34 wl.heap.size hsz4; simp only [List.flatMap_cons, List.flatMap_nil, List.append_nil, encP, PR.v, HTK.out] at h; exact h) (by simp; omega) (by decide) (by simp; omega) ?_
                               intro au5 cu5 w5 ho5 hg5
                               have HS5 := Lib.hid (HS4.out.kept ((Ext.refl W4).alloc (.cells #[.int .u32 (rn : Int), .slice a3 gk c3, .int .u32 (x : Int)] 34)))
                               have b1s := HS5.out.size hg5 1 _ HS5.out.b1
                               have f1s := HS5.out.frz hg5 1
                               have hbs := World.block_lt_of_cell? _ _ b1s
                               have HO5 := Lib.hid ho5
                               have HG5 := Lib.hid hg5
                               have HG6 := Lib.hid (GoodP.ext ((Ext.refl W4).alloc (.cells #[.int .u32 (rn : Int), .slice a3 gk c3, .int .u32 (x : Int)] 34)) HG4.out.1)
                               have HG7 := Lib.hid (OwnT.ext ((Ext.refl W4).alloc (.cells #[.int .u32 (rn : Int), .slice a3 gk c3, .int .u32 (x : Int)] 34)) HG4.out.2)
                               clear ho5 hg5 hlt4 hsz4 b1 b2 b0 bo z2 b1o)
                  go_roundw
                  case rel =>
                    refine ⟨k + 1, _, ps ++ [⟨⟨rn, cs.take gk, x⟩, a3, c3⟩], by omega, by go_num, HS5.out.grown HG6.out HG7.out HG5.out HO5.out, ?_⟩
                    rw [List.map_append, HPS.out, HNT5.out, if_pos HKB.out]; rfl
                  case measure => simp [intOf]; omega
                · have HKB := Lib.hid hkb
                  clear hkb
                  go_wp2_with fail
                  go_roundw
                  case rel => exact ⟨k + 1, _, ps, by omega, by go_num, HS.out.kept (HS3.out.ext.trans ((Ext.refl wl).drewN nq)), by rw [HPS.out, HNT5.out, if_neg (by rw [HKB.out]; simp), List.append_nil]⟩
                  case measure => simp [intOf]; omega
              · obtain ⟨j, hj⟩ : ∃ j, gk = j + 1 := ⟨gk - 1, by omega⟩
                have hjl : j < cs.length := by omega
                have d0 : decide (0 < gk) = true := decide_eq_true (by omega)
                have d1 : decide ((0 : Int) < (gk : Int)) = true := decide_eq_true (by omega)
                obtain ⟨g', hg', t3⟩ := hs3.cellT (j := j) (by omega)
                subst hg'
                have hst := trimN_step (x := x) hjl
                rw [← hj] at hst
                have b4 : (0 : Int) ≤ (gk : Int) - 1 := by omega
                have b5 : (gk : Int) - 1 < (gk : Int) := by omega
                have e4 : gk - 1 = j := by omega
                have e5 : (gk : Int) - 1 = (j : Int) := by omega
                generalize (cs[j]'hjl).action = xa at *
                rw [← e4] at t3
                have hq : ((xa : Int) == (x : Int)) = (xa == x) := by rw [Bool.eq_iff_iff]; simp; omega
                clear hs3
                cases hxa : (xa == x)
                · rw [hxa] at hst hq
                  have heq2 : trimN cs x cs.length = gk := by rw [heq, hst]; rfl
                  have Heq2 := Lib.hid heq2
                  have Hheq := Lib.hid heq
                  clear heq
                  have Hh0 := Lib.hid h0
                  clear h0
                  have Hhst := Lib.hid hst
                  clear hst
                  have Hhxa := Lib.hid hxa
                  clear hxa
                  have Hhj := Lib.hid hj
                  clear hj
                  have He4 := Lib.hid e4
                  clear e4
                  have He5 := Lib.hid e5
                  clear e5
                  clear heq2
                  go_upto_region 15 with (go_quiet (fail))
                  have He4d := Lib.hid d0
                  clear d0 d1 t3
                  have htt : trimT cs x = cs.take gk := by
                    unfold trimT
                    rw [Heq2.out]
                  have HTK : Hid ((cs.take gk).length = gk) := Lib.hid (by rw [List.length_take]; omega)
                  have HPP : Hid (GoodP wl ⟨⟨rn, cs.take gk, x⟩, (some ⟨g', 0, none⟩), c3⟩ ∧ OwnT wl (wo.heap.size + 1) ⟨⟨rn, cs.take gk, x⟩, (some ⟨g', 0, none⟩), c3⟩) := Lib.hid ⟨by
                    show Rd wl 4 encT (.slice (some ⟨g', 0, none⟩) (cs.take gk).length c3) (cs.take gk)
                    rw [HTK.out]; exact HS3.out.good, HS3.out.own⟩
                  have HNT5 : Hid (normL df (rs.take (k + 1)) = normL df (rs.take k) ++ if keepB df ⟨rn, cs.take gk, x⟩ = true then [(⟨rn, cs.take gk, x⟩ : Rule)] else []) := Lib.hid (by rw [Hhnt.out, HCUT.out]; dsimp only; rw [htt])
                  have z2 := (HS.out.ext.trans HS3.out.ext).cell HZ2.out
                  have b1o := HS3.out.ext.cell HS.out.b1
                  have bo := World.block_lt_of_cell? _ _ b1o
                  clear htt
                  have hcase : (decide (0 < gk) = true ∧ decide ((0 : Int) < (gk : Int)) = true ∧ keepB df ⟨rn, cs.take gk, x⟩ = true) ∨ (decide (0 < gk) = false ∧ decide ((0 : Int) < (gk : Int)) = false ∧ ((x : Int) != (df : Int)) = true ∧ keepB df ⟨rn, cs.take gk, x⟩ = true) ∨
                      (decide (0 < gk) = false ∧ decide ((0 : Int) < (gk : Int)) = false ∧ ((x : Int) != (df : Int)) = false ∧ keepB df ⟨rn, cs.take gk, x⟩ = false) := by
                    have e : keepB df ⟨rn, cs.take gk, x⟩ = (!(cs.take gk).isEmpty || !(x == df)) := rfl
                    rw [e]
                    have hq : ((x : Int) != (df : Int)) = !(x == df) := by rw [Bool.eq_iff_iff]; simp; omega
                    rw [hq]
                    have hle := HTK.out
                    cases hct : cs.take gk with
                    | nil => rw [hct] at hle; have h0 : gk = 0 := hle.symm; rw [h0]; cases (x == df) <;> simp
                    | cons t l => rw [hct] at hle; have h0 : 0 < gk := by rw [← hle]; simp
                                  exact .inl ⟨decide_eq_true h0, decide_eq_true (by omega), rfl⟩
                  rcases hcase with ⟨d5, d6, hkb⟩ | ⟨d5, d6, d7, hkb⟩ | ⟨d5, d6, d7, hkb⟩
                  · have HKB := Lib.hid hkb
                    clear hkb
                    go_wp2_with (at_builtin
                                 generalize hW4 : wl.drewN nq = W4
                                 have hx4 : Ext wl W4 := by rw [← hW4]; exact (Ext.refl _).drewN _
                                 have HS4 := Lib.hid (HS.out.kept (HS3.out.ext.trans hx4))
                                 have HG4 := Lib.hid (And.intro (HPP.out.1.ext hx4) ((HPP.out.2.ext hx4).base (b' := w1.heap.size + 1) (by have := HS.out.lt; omega)))
                                 have hlt4 := HS4.out.lt
                                 have hsz4 : wl.heap.size = W4.heap.size := by rw [← hW4]; simp
                                 clear hW4 hx4
                                 refine wpList_app_g rfl (.tmp 103) (.tmp 105) _ rfl Try.underlying22 infoR9 rfl (by decide) encP_len encP_one (w1.heap.size + 1) _ _ ps [⟨⟨rn, cs.take gk, x⟩, (some ⟨g', 0, none⟩), c3⟩] rfl rfl (HS4.out.own.alloc _) (by have h := rd_lit encP_len W4 [(⟨⟨rn, cs.take gk, x⟩, (some ⟨g', 0, none⟩), c3⟩ : PR)] 34 wl.heap.size hsz4; simp only [List.flatMap_cons, List.flatMap_nil, List.append_nil, encP, PR.v, HTK.out] at h; exact h) (by simp; omega) (by decide) (by simp; omega) ?_
                                 intro au5 cu5 w5 ho5 hg5
                                 have HS5 := Lib.hid (HS4.out.kept ((Ext.refl W4).alloc (.cells #[.int .u32 (rn : Int), .slice (some ⟨g', 0, none⟩) gk c3, .int .u32 (x : Int)] 34)))
                                 have b1s := HS5.out.size hg5 1 _ HS5.out.b1
                                 have f1s := HS5.out.frz hg5 1
                                 have hbs := World.block_lt_of_cell? _ _ b1s
                                 have HO5 := Lib.hid ho5
                                 have HG5 := Lib.hid hg5
                                 have HG6 := Lib.hid (GoodP.ext ((Ext.refl W4).alloc (.cells #[.int .u32 (rn : Int), .slice (some ⟨g', 0, none⟩) gk c3, .int .u32 (x : Int)] 34)) HG4.out.1)
                                 have HG7 := Lib.hid (OwnT.ext ((Ext.refl W4).alloc (.cells #[.int .u32 (rn : Int), .slice (some ⟨g', 0, none⟩) gk c3, .int .u32 (x : Int)] 34)) HG4.out.2)
                                 clear ho5 hg5 hlt4 hsz4 b1 b2 b0 bo z2 b1o)
                    go_roundw
                    case rel =>
                      refine ⟨k + 1, _, ps ++ [⟨⟨rn, cs.take gk, x⟩, (some ⟨g', 0, none⟩), c3⟩], by omega, by go_num, HS5.out.grown HG6.out HG7.out HG5.out HO5.out, ?_⟩
                      rw [List.map_append, HPS.out, HNT5.out, if_pos HKB.out]; rfl
                    case measure => simp [intOf]; omega
                  · rw [He4d.out] at d5; cases d5
                  · rw [He4d.out] at d5; cases d5
                · rw [hxa] at hst hq
                  simp only [if_true] at hst
                  have Hhxa := Lib.hid hxa
                  clear hxa
                  have He4 := Lib.hid e4
                  clear e4
                  have HJ := Lib.hid hj
                  have HE5 := Lib.hid e5
                  clear hj e5
                  have HEQ := Lib.hid (heq.trans hst)
                  clear heq hst h0
                  go_wp2_with (go_quiet (fail))
                  go_wp2
                  go_roundg j
                  case measure => have := HJ.out; omega
                  case rel => exact ⟨by have := (HS3.out.kept ((Ext.refl wl).drewN nq)).cut (k' := j) (c' := c3) (by have := HJ.out; omega) (by have := HJ.out; omega) (fun h => by cases h); rw [He4.out]; exact this, HEQ.out⟩
        · obtain rfl : p = ts.length := by omega
          have HCUT0 := Lib.hid (cutT_self ts ra (by intro t h; exact hnz t (by rw [List.take_length]; exact h)))
          rw [List.take_length] at HRB
          clear hrb hnz hxw
          go_upto_region 13 with fail
          obtain ⟨W6, hW6⟩ : ∃ W6, W6 = wr := ⟨_, rfl⟩
          rw [← hW6]
          obtain ⟨cs, hcs⟩ : ∃ cs, cs = ts := ⟨_, rfl⟩
          obtain ⟨x, hx⟩ : ∃ x, x = ra := ⟨_, rfl⟩
          obtain ⟨a3, ha3⟩ : ∃ a3, a3 = av2 := ⟨_, rfl⟩
          obtain ⟨c3, hc3⟩ : ∃ c3, c3 = cv2 := ⟨_, rfl⟩
          have HRBX : Hid (RB wo rn (.slice a3 cs.length c3) x cs W6) := by
            rw [hW6, hcs, hx, ha3, hc3]
            exact HRB
          have HCUT : Hid (cutT ts ra = (cs, x)) := Lib.hid (by rw [hcs, hx]; exact HCUT0.out)
          have hcl : cs.length ≤ ts.length := by rw [hcs]; exact Nat.le_refl _
          clear hcs hx ha3 hc3 hW6 b0 b1 b2 z1 g2' f1 f2 HCUT0 HRB HNZ HXW
          have HNT := Lib.hid HRBX.out.nt
          have b1q := HRBX.out.b1
          go_loopg [] cs.length (fun kk wl => NT wo wo.heap.size rn a3 kk c3 x cs wl ∧ trimN cs x cs.length = trimN cs x kk)
          case atStart => exact ⟨HNT.out, rfl⟩
          case round =>
            obtain ⟨wl, hwl⟩ : ∃ wl : World, wl = wr := ⟨_, rfl⟩
            subst hwl
            obtain ⟨hs3, heq⟩ := hrel
            have HS3 := Lib.hid hs3
            have hkk := hs3.hk
            have b0 := hs3.b0
            have b1 := hs3.b1
            have b2 := hs3.b2
            have f1 := hs3.f 1
            have kc := hs3.kc
            have hbb := World.block_lt_of_cell? _ _ b1
            clear b1q
            rcases Nat.eq_zero_or_pos gk with h0 | h0
            · have d0 : decide (0 < gk) = false := decide_eq_false (by omega)
              have d1 : decide ((0 : Int) < (gk : Int)) = false := decide_eq_false (by omega)
              have heq2 : trimN cs x cs.length = gk := by rw [heq, h0]; rfl
              have Heq2 := Lib.hid heq2
              have Hheq := Lib.hid heq
              clear heq
              have Hh0 := Lib.hid h0
              clear h0
              clear hs3 heq2
              go_upto_region 15 with (go_quiet (fail))
              have htt : trimT cs x = cs.take gk := by
                unfold trimT
                rw [Heq2.out]
              have HTK : Hid ((cs.take gk).length = gk) := Lib.hid (by rw [List.length_take]; omega)
              have HPP : Hid (GoodP wl ⟨⟨rn, cs.take gk, x⟩, a3, c3⟩ ∧ OwnT wl (wo.heap.size + 1) ⟨⟨rn, cs.take gk, x⟩, a3, c3⟩) := Lib.hid ⟨by
                show Rd wl 4 encT (.slice a3 (cs.take gk).length c3) (cs.take gk)
                rw [HTK.out]; exact HS3.out.good, HS3.out.own⟩
              have HNT5 : Hid (normL df (rs.take (k + 1)) = normL df (rs.take k) ++ if keepB df ⟨rn, cs.take gk, x⟩ = true then [(⟨rn, cs.take gk, x⟩ : Rule)] else []) := Lib.hid (by rw [Hhnt.out, HCUT.out]; dsimp only; rw [htt])
              have z2 := (HS.out.ext.trans HS3.out.ext).cell HZ2.out
              have b1o := HS3.out.ext.cell HS.out.b1
              have bo := World.block_lt_of_cell? _ _ b1o
              clear htt
              have hcase : (decide (0 < gk) = true ∧ decide ((0 : Int) < (gk : Int)) = true ∧ keepB df ⟨rn, cs.take gk, x⟩ = true) ∨ (decide (0 < gk) = false ∧ decide ((0 : Int) < (gk : Int)) = false ∧ ((x : Int) != (df : Int)) = true ∧ keepB df ⟨rn, cs.take gk, x⟩ = true) ∨
                  (decide (0 < gk) = false ∧ decide ((0 : Int) < (gk : Int)) = false ∧ ((x : Int) != (df : Int)) = false ∧ keepB df ⟨rn, cs.take gk, x⟩ = false) := by
                have e : keepB df ⟨rn, cs.take gk, x⟩ = (!(cs.take gk).isEmpty || !(x == df)) := rfl
                rw [e]
                have hq : ((x : Int) != (df : Int)) = !(x == df) := by rw [Bool.eq_iff_iff]; simp; omega
                rw [hq]
                have hle := HTK.out
                cases hct : cs.take gk with
                | nil => rw [hct] at hle; have h0 : gk = 0 := hle.symm; rw [h0]; cases (x == df) <;> simp
                | cons t l => rw [hct] at hle; have h0 : 0 < gk := by rw [← hle]; simp
                              exact .inl ⟨decide_eq_true h0, decide_eq_true (by omega), rfl⟩
              rcases hcase with ⟨d5, d6, hkb⟩ | ⟨d5, d6, d7, hkb⟩ | ⟨d5, d6, d7, hkb⟩
              · rw [d0] at d5; cases d5
              · have HKB := Lib.hid hkb
                clear hkb
                go_wp2_with (at_builtin
                             generalize hW4 : wl.drewN nq = W4
                             have hx4 : Ext wl W4 := by rw [← hW4]; exact (Ext.refl _).drewN _
                             have HS4 := Lib.hid (HS.out.kept (HS3.out.ext.trans hx4))
                             have HG4 := Lib.hid (And.intro (HPP.out.1.ext hx4) ((HPP.out.2.ext hx4).base (b' := w1.heap.size + 1) (by have := HS.out.lt; omega)))
                             have hlt4 := HS4.out.lt
                             have hsz4 : wl.heap.size = W4.heap.size := by rw [← hW4]; simp
                             clear hW4 hx4
                             refine wpList_app_g rfl (.tmp 103) (.tmp 105) _ rfl Try.underlying22 infoR9 rfl (by decide) encP_len encP_one (w1.heap.size + 1) _ _ ps [⟨⟨rn, cs.take gk, x⟩, a3, c3⟩] rfl rfl (HS4.out.own.alloc _) (by have h := rd_lit encP_len W4 [(⟨⟨rn, cs.take gk, x⟩, a3, c3⟩ : PR)] 34 wl.heap.size hsz4; simp only [List.flatMap_cons, List.flatMap_nil, List.append_nil, encP, PR.v, HTK.out] at h; exact h) (by simp; omega) (by decide) (by simp; omega) ?_
                             intro au5 cu5 w5 ho5 hg5
                             have HS5 := Lib.hid (HS4.out.kept ((Ext.refl W4).alloc (.cells #[.int .u32 (rn : Int), .slice a3 gk c3, .int .u32 (x : Int)] 34)))
                             have b1s := HS5.out.size hg5 1 _ HS5.out.b1
                             have f1s := HS5.out.frz hg5 1
                             have hbs := World.block_lt_of_cell? _ _ b1s
                             have HO5 := Lib.hid ho5
                             have HG5 := Lib.hid hg5
                             have HG6 := Lib.hid (GoodP.ext ((Ext.refl W4).alloc (.cells #[.int .u32 (rn : Int), .slice a3 gk c3, .int .u32 (x : Int)] 34)) HG4.out.1)
                             have HG7 := Lib.hid (OwnT.ext ((Ext.refl W4).alloc (.cells #[.int .u32 (rn : Int), .slice a3 gk c3, .int .u32 (x : Int)] 34)) HG4.out.2)
                             clear ho5 hg5 hlt4 hsz4 b1 b2 b0 bo z2 b1o)
                go_roundw
                case rel =>
                  refine ⟨k + 1, _, ps ++ [⟨⟨rn, cs.take gk, x⟩, a3, c3⟩], by omega, by go_num, HS5.out.grown HG6.out HG7.out HG5.out HO5.out, ?_⟩
                  rw [List.map_append, HPS.out, HNT5.out, if_pos HKB.out]; rfl
                case measure => simp [intOf]; omega
              · have HKB := Lib.hid hkb
                clear hkb
                go_wp2_with fail
                go_roundw
                case rel => exact ⟨k + 1, _, ps, by omega, by go_num, HS.out.kept (HS3.out.ext.trans ((Ext.refl wl).drewN nq)), by rw [HPS.out, HNT5.out, if_neg (by rw [HKB.out]; simp), List.append_nil]⟩
                case measure => simp [intOf]; omega
            · obtain ⟨j, hj⟩ : ∃ j, gk = j + 1 := ⟨gk - 1, by omega⟩
              have hjl : j < cs.length := by omega
              have d0 : decide (0 < gk) = true := decide_eq_true (by omega)
              have d1 : decide ((0 : Int) < (gk : Int)) = true := decide_eq_true (by omega)
              obtain ⟨g', hg', t3⟩ := hs3.cellT (j := j) (by omega)
              subst hg'
              have hst := trimN_step (x := x) hjl
              rw [← hj] at hst
              have b4 : (0 : Int) ≤ (gk : Int) - 1 := by omega
              have b5 : (gk : Int) - 1 < (gk : Int) := by omega
              have e4 : gk - 1 = j := by omega
              have e5 : (gk : Int) - 1 = (j : Int) := by omega
              generalize (cs[j]'hjl).action = xa at *
              rw [← e4] at t3
              have hq : ((xa : Int) == (x : Int)) = (xa == x) := by rw [Bool.eq_iff_iff]; simp; omega
              clear hs3
              cases hxa : (xa == x)
              · rw [hxa] at hst hq
                have heq2 : trimN cs x cs.length = gk := by rw [heq, hst]; rfl
                have Heq2 := Lib.hid heq2
                have Hheq := Lib.hid heq
                clear heq
                have Hh0 := Lib.hid h0
                clear h0
                have Hhst := Lib.hid hst
                clear hst
                have Hhxa := Lib.hid hxa
                clear hxa
                have Hhj := Lib.hid hj
                clear hj
                have He4 := Lib.hid e4
                clear e4
                have He5 := Lib.hid e5
                clear e5
                clear heq2
                go_upto_region 15 with (go_quiet (fail))
                have He4d := Lib.hid d0
                clear d0 d1 t3
                have htt : trimT cs x = cs.take gk := by
                  unfold trimT
                  rw [Heq2.out]
                have HTK : Hid ((cs.take gk).length = gk) := Lib.hid (by rw [List.length_take]; omega)
                have HPP : Hid (GoodP wl ⟨⟨rn, cs.take gk, x⟩, (some ⟨g', 0, none⟩), c3⟩ ∧ OwnT wl (wo.heap.size + 1) ⟨⟨rn, cs.take gk, x⟩, (some ⟨g', 0, none⟩), c3⟩) := Lib.hid ⟨by
                  show Rd wl 4 encT (.slice (some ⟨g', 0, none⟩) (cs.take gk).length c3) (cs.take gk)
                  rw [HTK.out]; exact HS3.out.good, HS3.out.own⟩
                have HNT5 : Hid (normL df (rs.take (k + 1)) = normL df (rs.take k) ++ if keepB df ⟨rn, cs.take gk, x⟩ = true then [(⟨rn, cs.take gk, x⟩ : Rule)] else []) := Lib.hid (by rw [Hhnt.out, HCUT.out]; dsimp only; rw [htt])
                have z2 := (HS.out.ext.trans HS3.out.ext).cell HZ2.out
                have b1o := HS3.out.ext.cell HS.out.b1
                have bo := World.block_lt_of_cell? _ _ b1o
                clear htt
                have hcase : (decide (0 < gk) = true ∧ decide ((0 : Int) < (gk : Int)) = true ∧ keepB df ⟨rn, cs.take gk, x⟩ = true) ∨ (decide (0 < gk) = false ∧ decide ((0 : Int) < (gk : Int)) = false ∧ ((x : Int) != (df : Int)) = true ∧ keepB df ⟨rn, cs.take gk, x⟩ = true) ∨
                    (decide (0 < gk) = false ∧ decide ((0 : Int) < (gk : Int)) = false ∧ ((x : Int) != (df : Int)) = false ∧ keepB df ⟨rn, cs.take gk, x⟩ = false) := by
                  have e : keepB df ⟨rn, cs.take gk, x⟩ = (!(cs.take gk).isEmpty || !(x == df)) := rfl
                  rw [e]
                  have hq : ((x : Int) != (df : Int)) = !(x == df) := by rw [Bool.eq_iff_iff]; simp; omega
                  rw [hq]
                  have hle := HTK.out
                  cases hct : cs.take gk with
                  | nil => rw [hct] at hle; have h0 : gk = 0 := hle.symm; rw [h0]; cases (x == df) <;> simp
                  | cons t l => rw [hct] at hle; have h0 : 0 < gk := by rw [← hle]; simp
                                exact .inl ⟨decide_eq_true h0, decide_eq_true (by omega), rfl⟩
                rcases hcase with ⟨d5, d6, hkb⟩ | ⟨d5, d6, d7, hkb⟩ | ⟨d5, d6, d7, hkb⟩
                · have HKB := Lib.hid hkb
                  clear hkb
                  go_wp2_with (at_builtin
                               generalize hW4 : wl.drewN nq = W4
                               have hx4 : Ext wl W4 := by rw [← hW4]; exact (Ext.refl _).drewN _
                               have HS4 := Lib.hid (HS.out.kept (HS3.out.ext.trans hx4))
                               have HG4 := Lib.hid (And.intro (HPP.out.1.ext hx4) ((HPP.out.2.ext hx4).base (b' := w1.heap.size + 1) (by have := HS.out.lt; omega)))
                               have hlt4 := HS4.out.lt
                               have hsz4 : wl.heap.size = W4.heap.size := by rw [← hW4]; simp
                               clear hW4 hx4
                               refine wpList_app_g rfl (.tmp 103) (.tmp 105) _ rfl Try.underlying22 infoR9 rfl (by decide) encP_len encP_one (w1.heap.size + 1) _ _ ps [⟨⟨rn, cs.take gk, x⟩, (some ⟨g', 0, none⟩), c3⟩] rfl rfl (HS4.out.own.alloc _) (by have h := rd_lit encP_len W4 [(⟨⟨rn, cs.take gk, x⟩, (some ⟨g', 0, none⟩), c3⟩ : PR)] 34 wl.heap.size hsz4; simp only [List.flatMap_cons, List.flatMap_nil, List.append_nil, encP, PR.v, HTK.out] at h; exact h) (by simp; omega) (by decide) (by simp; omega) ?_
                               intro au5 cu5 w5 ho5 hg5
                               have HS5 := Lib.hid (HS4.out.kept ((Ext.refl W4).alloc (.cells #[.int .u32 (rn : Int), .slice (some ⟨g', 0, none⟩) gk c3, .int .u32 (x : Int)] 34)))
                               have b1s := HS5.out.size hg5 1 _ HS5.out.b1
                               have f1s := HS5.out.frz hg5 1
                               have hbs := World.block_lt_of_cell? _ _ b1s
                               have HO5 := Lib.hid ho5
                               have HG5 := Lib.hid hg5
                               have HG6 := Lib.hid (GoodP.ext ((Ext.refl W4).alloc (.cells #[.int .u32 (rn : Int), .slice (some ⟨g', 0, none⟩) gk c3, .int .u32 (x : Int)] 34)) HG4.out.1)
                               have HG7 := Lib.hid (OwnT.ext ((Ext.refl W4).alloc (.cells #[.int .u32 (rn : Int), .slice (some ⟨g', 0, none⟩) gk c3, .int .u32 (x : Int)] 34)) HG4.out.2)
                               clear ho5 hg5 hlt4 hsz4 b1 b2 b0 bo z2 b1o)
                  go_roundw
                  case rel =>
                    refine ⟨k + 1, _, ps ++ [⟨⟨rn, cs.take gk, x⟩, (some ⟨g', 0, none⟩), c3⟩], by omega, by go_num, HS5.out.grown HG6.out HG7.out HG5.out HO5.out, ?_⟩
                    rw [List.map_append, HPS.out, HNT5.out, if_pos HKB.out]; rfl
                  case measure => simp [intOf]; omega
                · rw [He4d.out] at d5; cases d5
                · rw [He4d.out] at d5; cases d5
              · rw [hxa] at hst hq
                simp only [if_true] at hst
                have Hhxa := Lib.hid hxa
                clear hxa
                have He4 := Lib.hid e4
                clear e4
                have HJ := Lib.hid hj
                have HE5 := Lib.hid e5
                clear hj e5
                have HEQ := Lib.hid (heq.trans hst)
                clear heq hst h0
                go_wp2_with (go_quiet (fail))
                go_wp2
                go_roundg j
                case measure => have := HJ.out; omega
                case rel => exact ⟨by have := (HS3.out.kept ((Ext.refl wl).drewN nq)).cut (k' := j) (c' := c3) (by have := HJ.out; omega) (by have := HJ.out; omega) (fun h => by cases h); rw [He4.out]; exact this, HEQ.out⟩
    · obtain rfl : k = rs.length := by omega
      have b0 := hs.b0
      have b1 := hs.b1
      have b2 := hs.b2
      have y0 := hs.ext.cell Y0.out
      have y1 := hs.ext.cell Y1.out
      have y2 := hs.ext.cell Y2.out
      have fy : ∀ j, wo.frozen? ⟨w.heap.size + 1, j, none⟩ = false := fun j => (World.frozen?_of_block (a := ⟨w.heap.size + 1, j, none⟩) (hs.ext.block (by have := HSZ.out; dsimp only; omega))).trans (FY.out j)
      have fy0 := fy 0
      have fy1 := fy 1
      have fy2 := fy 2
      have hbr := World.block_lt_of_cell? _ _ y1
      have hbb := World.block_lt_of_cell? _ _ b1
      have hexx := hs.ext
      obtain ⟨au, cu, rfl⟩ := own_form hs.own
      clear hs fy
      go_wp2_with fail
      refine bodyPost_ret (v := .agg #[.int .i64 ar, .slice au ps.length cu, .int .u32 (df : Int)]) (by first | (simp [results, Try.results21, go_sem, y0, y1, y2]; done) | (simp [results, Try.results21, go_sem, y0, y1, y2]; rfl)) rfl ⟨au, cu, ps, rfl, by rw [HPS.out, List.take_length], ?_, ?_⟩
      · refine RF.base (b := w1.heap.size + 1) ?_ (by have := HSZ.out; omega)
        repeat (first | exact HS.out.rf | refine RF.set ?_ (by have := HSZ.out; first | (simp; done) | (simp; omega)) _)
      · repeat (first | exact HX1.out.trans hexx | refine Ext.setCell ?_ (by first | (simp; done) | (simp; omega)) _)
end L21
end Go.Proofs.Ytkmhfjnjfghnjaa
