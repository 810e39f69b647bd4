import Derived.StillTailTactics
import Derived.Test.YtkmhfjnjfghnjaaMq28
import Derived.Test.YtkmhfjnjfghnjaaMq25
/- Layer 25: the walk of Emit. -/
namespace Go.Proofs.Ytkmhfjnjfghnjaa
open Go.RowKit V
attribute [local go_sem] Oper.semAt_some Option.isSome_some
namespace L25M
open L25W
open L25 (Sy encY encY_len)
open L21 (Test Rule Filter OkF IsR mayF rdR_cell rdT_cell rdRR_ext May_calls)
open L23 (encU encI)
open L24 (OwnN)
theorem mk_u (n : Nat) (h : n ≤ 400) (w : World) : (Instr.makeSlice 67 (.int .i64 (n : Int)) (.int .i64 (n : Int))).run Try.prog w = .ok (.slice (some ⟨w.heap.size, 0, none⟩) n n) (w.alloc (.cells (madeCells (Value.int .u32 0).cells (n * 1)) 23)) := by
  obtain ⟨i, h1, h2, h3, h4⟩ := info_parts infoUr
  have hr := run_make (P := Try.prog) w 67 23 i _ Try.underlying67 h1 h2 .i64 .i64 n n (by omega) (by omega) (by rw [h4]; omega) (by omega)
  rw [h3] at hr
  simp only [Int.toNat_natCast] at hr
  exact hr
theorem mk_i (n : Nat) (h : n ≤ 400) (w : World) : (Instr.makeSlice 61 (.int .i64 (n : Int)) (.int .i64 (n : Int))).run Try.prog w = .ok (.slice (some ⟨w.heap.size, 0, none⟩) n n) (w.alloc (.cells (madeCells (Value.int .i64 0).cells (n * 1)) 3)) := by
  obtain ⟨i, h1, h2, h3, h4⟩ := info_parts infoIr
  have hr := run_make (P := Try.prog) w 61 3 i _ Try.underlying61 h1 h2 .i64 .i64 n n (by omega) (by omega) (by rw [h4]; omega) (by omega)
  rw [h3] at hr
  simp only [Int.toNat_natCast] at hr
  exact hr
set_option maxRecDepth 100000 in
set_option maxHeartbeats 4000000 in
theorem Emit_calls (f : Filter) (u : Value) (hf : OkF f) (hm : mayF f = true) (w : World) (hu : RdR w 3 (IsR w) u f.rules) :
    Calls Try.prog 40 #[.agg #[.int .i64 f.arch, u, .int .u32 (f.dflt : Int)]] w fun e w' => ∃ v, e = .returned (.tuple #[v, .int .i64 0]) ∧ Ext w w' ∧ Rd w' 4 encY v ((emS f (treeF f)).map SS.fin) := by
  have hM := fun W (hx : Ext w W) => May_calls f u hf W (rdRR_ext hx hu)
  rw [hm] at hM
  obtain ⟨a1, a2, hlen, -, hts⟩ := may_rules hm
  obtain ⟨hup, hwhole, hspl, hsw, hTok⟩ := treeF_facts hm (fun r hr => (hf.r r hr).n)
  have huR := hu
  obtain ⟨a, c, rfl, hac, hcell⟩ := rdR_cell hu
  have hmu := mk_u f.rules.length hlen
  have hmi := mk_i f.rules.length hlen
  have HhM := Lib.hid hM
  clear hM
  have Hhm := Lib.hid hm
  clear hm
  have Hhts := Lib.hid hts
  clear hts
  have Hhup := Lib.hid hup
  clear hup
  have Hhwhole := Lib.hid hwhole
  clear hwhole
  have Hhspl := Lib.hid hspl
  clear hspl
  have Hhsw := Lib.hid hsw
  clear hsw
  have HhTok := Lib.hid hTok
  clear hTok
  have Hhcell := Lib.hid hcell
  clear hcell
  have HhuR := Lib.hid huR
  clear huR
  have Hhf := Lib.hid hf
  clear hf
  clear hu
  go_enter Try.func40, Try.ntmps40
  go_wp2_with fail
  refine (HhM.out _ ((Ext.refl _).alloc _)).mono ?_
  rintro e w0 ⟨rfl, hx0⟩
  have hx00 := ((Ext.refl w).alloc (.cells #[.int .i64 f.arch, .slice a f.rules.length c, .int .u32 (f.dflt : Int)] 25)).trans hx0
  have hbx := blk_ext (heap_alloc_new w (.cells #[.int .i64 f.arch, .slice a f.rules.length c, .int .u32 (f.dflt : Int)] 25)) hx0
  have HX0 := Lib.hid hx00
  have HBX := Lib.hid hbx
  have b0 : w0.cell? ⟨w.heap.size, 0, none⟩ = some (.int .i64 f.arch) := blk_cell hbx 0
  have b1 : w0.cell? ⟨w.heap.size, 1, none⟩ = some (.slice a f.rules.length c) := blk_cell hbx 1
  have b2 : w0.cell? ⟨w.heap.size, 2, none⟩ = some (.int .u32 (f.dflt : Int)) := blk_cell hbx 2
  have hst := (SW.start w0).label (.int .i64 0)
  rw [World.size_alloc] at hst
  have hs1 := SW.mono (O' := fun b => b = w0.heap.size + 1) hst.1 (fun b => ⟨fun h => h.elim (fun h => h.elim) id, fun h => .inr h⟩)
  obtain ⟨nt, hnt⟩ : ∃ nt, nt = w0.heap.size + 1 := ⟨_, rfl⟩
  have HNT := Lib.hid hnt
  obtain ⟨W1, hW1⟩ : ∃ W1, W1 = (w0.alloc (.cells #[.slice none 0 0, .slice none 0 0] 95)).alloc (.cells #[.int .i64 0] 98) := ⟨_, rfl⟩
  rw [← hW1] at hs1
  replace b0 := hs1.ext0.cell b0; replace b1 := hs1.ext0.cell b1; replace b2 := hs1.ext0.cell b2
  have HS1 := Lib.hid hs1
  have HW1 := Lib.hid hW1
  clear hst hs1 hx0 hx00 hbx hnt hW1
  go_upto_region 4 with fail
  rw [← HW1.out]
  go_wp2_with fail
  refine (own_calls HS1.out f.arch a1 a2 _ rfl).mono ?_
  rintro e w1 ⟨rfl, hs2, -⟩
  have hx2 := hs2.ext0
  rw [← HNT.out] at hs2
  simp only [← HNT.out]
  clear b0 b1 b2
  have hbx := blk_ext HBX.out hx2
  have b0 := blk_cell hbx 0
  have b1 := blk_cell hbx 1
  have b2 := blk_cell hbx 2
  simp at b0 b1 b2
  have b1a := fun o => ((Ext.refl w1).alloc o).cell b1
  have HS2 := Lib.hid hs2
  clear hs2 hx2 HS1
  go_upto_region 5 with fail
  go_region
  focus
    obtain ⟨w2, hw2⟩ : ∃ w2, w2 = ((w1.alloc (.cells (madeCells #[Value.int .u32 0] f.rules.length) 23)).alloc (.cells (madeCells #[Value.int .i64 0] f.rules.length) 3)).drew := ⟨_, rfl⟩
    have hX : Ext w1 w2 := by rw [hw2]; exact (((Ext.refl w1).alloc _).alloc _).drew
    obtain ⟨gW, hgW, hRW⟩ : ∃ g, g = w1.heap.size + 1 ∧ R1 w2 w1.heap.size 3 g encI (List.replicate f.rules.length 0) f.rules.length := ⟨_, rfl, by
      have := (made_i (w1.alloc (.cells (madeCells #[Value.int .u32 0] f.rules.length) 23)) f.rules.length w1.heap.size hlen (by rw [World.size_alloc]; omega)).ext ((Ext.refl _).drew)
      rw [World.size_alloc] at this
      rw [hw2]; exact this⟩
    obtain ⟨gN, hgN, hRN⟩ : ∃ g, g = w1.heap.size ∧ R1 w2 w1.heap.size 23 g encU (List.replicate f.rules.length 0) f.rules.length := ⟨_, rfl, by
      rw [hw2]; exact ((made_u w1 f.rules.length w1.heap.size hlen (Nat.le_refl _)).ext ((Ext.refl _).alloc (.cells (madeCells #[Value.int .i64 0] f.rules.length) 3))).ext ((Ext.refl _).drew)⟩
    have hne : gN ≠ gW := by omega
    have hNl : w1.heap.size ≤ gN ∧ w1.heap.size ≤ gW := by omega
    rw [← hw2, ← hgW, ← hgN]
    clear hgN hgW hw2
  rotate_left 1
  focus
    obtain ⟨w2, hw2⟩ : ∃ w2, w2 = ((w1.alloc (.cells (madeCells #[Value.int .i64 0] f.rules.length) 3)).alloc (.cells (madeCells #[Value.int .u32 0] f.rules.length) 23)).drew := ⟨_, rfl⟩
    have hX : Ext w1 w2 := by rw [hw2]; exact (((Ext.refl w1).alloc _).alloc _).drew
    obtain ⟨gN, hgN, hRN⟩ : ∃ g, g = w1.heap.size + 1 ∧ R1 w2 w1.heap.size 23 g encU (List.replicate f.rules.length 0) f.rules.length := ⟨_, rfl, by
      have := (made_u (w1.alloc (.cells (madeCells #[Value.int .i64 0] f.rules.length) 3)) f.rules.length w1.heap.size hlen (by rw [World.size_alloc]; omega)).ext ((Ext.refl _).drew)
      rw [World.size_alloc] at this
      rw [hw2]; exact this⟩
    obtain ⟨gW, hgW, hRW⟩ : ∃ g, g = w1.heap.size ∧ R1 w2 w1.heap.size 3 g encI (List.replicate f.rules.length 0) f.rules.length := ⟨_, rfl, by
      rw [hw2]; exact ((made_i w1 f.rules.length w1.heap.size hlen (Nat.le_refl _)).ext ((Ext.refl _).alloc (.cells (madeCells #[Value.int .u32 0] f.rules.length) 23))).ext ((Ext.refl _).drew)⟩
    have hne : gN ≠ gW := by omega
    have hNl : w1.heap.size ≤ gN ∧ w1.heap.size ≤ gW := by omega
    rw [← hw2, ← hgN, ← hgW]
    clear hgN hgW hw2
  all_goals
    replace b0 := hX.cell b0; replace b1 := hX.cell b1; replace b2 := hX.cell b2
    clear b1a
    have hs0 : ((w2.alloc (.cells #[.int .i64 0] 98)).alloc (.cells #[.pointer (some ⟨w2.heap.size, 0, none⟩)] 96)).cell? ⟨w.heap.size, 1, none⟩ = some (.slice a f.rules.length c) := (((Ext.refl w2).alloc _).alloc _).cell b1
    have hXa := (hX.alloc (.cells #[.int .i64 0] 98)).alloc (.cells #[.pointer (some ⟨w2.heap.size, 0, none⟩)] 96)
    have hX2a := ((Ext.refl w2).alloc (.cells #[.int .i64 0] 98)).alloc (.cells #[.pointer (some ⟨w2.heap.size, 0, none⟩)] 96)
    have hRL := RL.one (w2.alloc (.cells #[.int .i64 0] 98)) w2.heap.size w1.heap.size (by rw [World.size_alloc]; have := hX.size; omega)
    rw [World.size_alloc] at hRL
    have hLL : LL w1 ((w2.alloc (.cells #[.int .i64 0] 98)).alloc (.cells #[.pointer (some ⟨w2.heap.size, 0, none⟩)] 96)) [w2.heap.size] := ⟨by simp, fun b hb => by
      simp at hb; subst hb
      exact ⟨hX.size, _, blk_ext (heap_alloc_new w2 _) ((Ext.refl _).alloc _)⟩⟩
    have HRN := Lib.hid (hRN.ext hX2a)
    have HRW := Lib.hid (hRW.ext hX2a)
    have HXa := Lib.hid hXa
    have HRL := Lib.hid hRL
    have HLL := Lib.hid hLL
    have Hhne := Lib.hid hne
    clear hne
    have HhNl := Lib.hid hNl
    clear hNl
    clear hXa hX2a hRL hLL hRN hRW
    go_wp2_with fail
    go_loopw [43, 8] (fun i v8 wr => ∃ (k : Nat) (labs : List Nat), k ≤ f.rules.length ∧ i = .int .i64 k ∧ labs.length = k + 1 ∧ Ext w1 wr ∧ R1 wr w1.heap.size 23 gN encU (fl (nsF f) 0 k) f.rules.length ∧ R1 wr w1.heap.size 3 gW encI (fl (wsF f) 0 k) f.rules.length ∧ LL w1 wr labs ∧ RL wr w1.heap.size v8 labs) (fun i _ _ => f.rules.length - (intOf i).toNat)
    case atStart => exact ⟨0, [w2.heap.size], by omega, rfl, rfl, HXa.out, by rw [fl_zero, nsF_len]; exact HRN.out, by rw [fl_zero, wsF_len]; exact HRW.out, HLL.out, HRL.out⟩
    case round =>
      obtain ⟨k, labs, hk, rfl, hll, hx, hrn, hrw, hLL, hRL⟩ := hrel
      have HX := Lib.hid hx
      have HRN1 := Lib.hid hrn
      have HRW1 := Lib.hid hrw
      have HLL1 := Lib.hid hLL
      have HRL1 := Lib.hid hRL
      obtain ⟨au, cu, rfl⟩ := own_form hRL
      clear hrn hrw hLL hRL HRN HRW HXa HRL HLL
      by_cases hlt : k < f.rules.length
      · obtain ⟨b, o, ut, rfl, n1, n2, n3, hut⟩ := Hhcell.out k hlt
        obtain ⟨at', ct, rfl, -, -⟩ := rdT_cell hut
        have hxw : Ext w wr := (HX0.out.trans HS2.out.ext0).trans hx
        replace n1 := hxw.cell n1; replace n2 := hxw.cell n2; replace n3 := hxw.cell n3
        have hnl : (fl (nsF f) 0 k).length = f.rules.length := by rw [fl_len _ _ (by rw [nsF_len]; exact hk), nsF_len]
        have hwl : (fl (wsF f) 0 k).length = f.rules.length := by rw [fl_len _ _ (by rw [wsF_len]; exact hk), wsF_len]
        have hng : (nsF f)[k]'(by rw [nsF_len]; exact hlt) = f.rules[k].nr := by simp [nsF]
        have hwg : (wsF f)[k]'(by rw [wsF_len]; exact hlt) = (k : Int) + 1 := by simp [wsF]
        obtain ⟨z1, cN⟩ := HRN1.out.cell encU_len k (by rw [hnl]; exact hlt)
        obtain ⟨z2, cW⟩ := HRW1.out.cell encI_len k (by rw [hwl]; exact hlt)
        obtain ⟨fN, lN⟩ := HRN1.out.frozen k
        obtain ⟨fW, lW⟩ := HRW1.out.frozen k
        have hne1 := Hhne.out
        have hne2 : gW ≠ gN := fun e => Hhne.out e.symm
        clear hut hxw hx
        have hst := rows_step (k := k) f.rules[k].nr ((k : Int) + 1) (.cells #[.int .u32 (f.rules[k].nr : Int), .slice at' f.rules[k].tests.length ct, .int .u32 (f.rules[k].action : Int)] 34) (.cells #[.pointer (some ⟨wr.heap.size + 1, 0, none⟩)] 96) HX.out HRN1.out HRW1.out Hhne.out HhNl.out.1 HhNl.out.2 HLL1.out HRL1.out (by rw [hnl]; exact hlt) (by rw [hwl]; exact hlt)
        obtain ⟨t1, t2, t3, t4, t5⟩ := hst
        have e1 := fl_set (nsF f) 0 (k := k) (by rw [nsF_len]; exact hlt)
        have e2 := fl_set (wsF f) 0 (k := k) (by rw [wsF_len]; exact hlt)
        rw [hng] at e1
        rw [hwg] at e2
        rw [e1] at t2
        rw [e2] at t3
        have hlit := rd_lit encL_len ((((wr.setCell ⟨gN, k, none⟩ (.int .u32 (f.rules[k].nr : Int))).setCell ⟨gW, k, none⟩ (.int .i64 ((k : Int) + 1))).alloc (.cells #[.int .u32 (f.rules[k].nr : Int), .slice at' f.rules[k].tests.length ct, .int .u32 (f.rules[k].action : Int)] 34)).alloc (.cells #[.int .i64 0] 98)) [some (wr.heap.size + 1)] 96 _ rfl
        rw [World.size_alloc, World.size_alloc, size_set, size_set] at hlit
        have hb1 := Nat.le_trans (Nat.le_refl w1.heap.size) t1.size
        have T1 := Lib.hid t1
        have T2 := Lib.hid t2
        have T3 := Lib.hid t3
        have T4 := Lib.hid t4
        have T5 := Lib.hid t5
        have Hhlit := Lib.hid hlit
        clear hlit
        have Hhb1 := Lib.hid hb1
        clear hb1
        clear t1 t2 t3 t4 t5 e1 e2 hng hwg hnl hwl
        go_wp2_with (at_builtin
                     refine wpList_app_g rfl (.tmp 58) (.tmp 61) _ rfl Try.underlying107 infoL rfl (by decide) encL_len encL_one w1.heap.size _ _ (labs.map some) [some (wr.heap.size + 1)] rfl rfl (by have h := T5.out; simp only [RL, List.length_map] at h ⊢; exact h) Hhlit.out (by simp; omega) (by decide) Hhb1.out ?_
                     intro au5 cu5 w5 ho5 hg5
                     have hg6 := hg5
                     have hra := rows_app T1.out T2.out T3.out T4.out T5.out (by have h := hg6; simp only [List.length_map] at h ⊢; exact h)
                     obtain ⟨v1, v2, v3, v4⟩ := hra
                     have V1 := Lib.hid v1
                     have V2 := Lib.hid v2
                     have V3 := Lib.hid v3
                     have V4 := Lib.hid v4
                     have hr5 : RL w5 w1.heap.size (.slice au5 (labs.length + 1) cu5) (labs ++ [wr.heap.size + 1]) := by
                       have h := ho5
                       unfold RL
                       simp only [List.map_append, List.map_cons, List.map_nil, List.length_append, List.length_map, List.length_cons, List.length_nil] at h ⊢
                       exact h
                     have V5 := Lib.hid hr5
                     clear ho5 hg5 hg6 v1 v2 v3 v4 hr5)
        go_roundw

        case rel => exact ⟨k + 1, labs ++ [wr.heap.size + 1], by omega, by go_num, by rw [List.length_append, hll]; rfl, V1.out, V2.out, V3.out, V4.out, by have h := V5.out; rw [hll] at h; exact h⟩
        case measure => simp [intOf]; omega
      · obtain rfl : k = f.rules.length := by omega
        have hlp := HRL1.out.lp (by omega)
        obtain ⟨g, cg, hv, hLP⟩ := hlp
        simp only [Value.slice.injEq] at hv
        obtain ⟨rfl, -, rfl⟩ := hv
        have hrN : Rd wr 1 encU (.slice (some ⟨gN, 0, none⟩) f.rules.length f.rules.length) (nsF f) := by
          have h := HRN1.out
          rw [show fl (nsF f) 0 f.rules.length = nsF f by rw [← nsF_len f]; exact fl_end _ _] at h
          have h2 := rd_of_own encU_len h
          rw [nsF_len] at h2
          exact h2
        have hrW : Rd wr 1 encI (.slice (some ⟨gW, 0, none⟩) f.rules.length f.rules.length) (wsF f) := by
          have h := HRW1.out
          rw [show fl (wsF f) 0 f.rules.length = wsF f by rw [← wsF_len f]; exact fl_end _ _] at h
          have h2 := rd_of_own encI_len h
          rw [wsF_len] at h2
          exact h2
        have hnr : ∀ r ∈ f.rules, r.nr < 4294967296 := fun r hr => (Hhf.out.r r hr).n
        have hns : ∀ n ∈ nsF f, n < 4294967296 := fun n hh => by
          obtain ⟨r, hr, rfl⟩ := List.mem_map.1 hh
          exact hnr r hr
        have hOf := L23.Of_calls _ _ (nsF f) (wsF f) 0 (by rw [nsF_len]; omega) hns wr hrN hrW
        rw [of_span Hhm.out hnr] at hOf
        have hBd := fun W u (hu : L23.Own W wr.heap.size u (spanF f)) => L24.Build_calls u (spanF f) (by have := Hhspl.out; omega) (span_ok Hhm.out hnr) W (rd_of_own L23.encS_len hu)
        rw [build_tree Hhm.out hnr] at hBd
        dsimp only at hOf hBd
        have hSL := SW.labels (N := fun b => b ∈ labs) HS2.out HX.out HLL1.out.each
        have hnt : nt ∉ labs := fun hh => by
          have h1 := (HLL1.out.each nt hh).1
          have h2 := SW.olt HS2.out (b := nt) rfl
          omega
        have hLab := labOk_of (t := treeF f) hll HLL1.out.nd hnt
        have HhLP := Lib.hid hLP
        clear hLP
        have HhOf := Lib.hid hOf
        clear hOf
        have HhBd := Lib.hid hBd
        clear hBd
        have HhSL := Lib.hid hSL
        clear hSL
        have HhLab := Lib.hid hLab
        clear hLab
        clear hrN hrW hns hnr
        go_wp2_with fail
        refine HhOf.out.mono ?_
        rintro e w3 ⟨us, rfl, hx3, hos⟩
        have HX3 := Lib.hid hx3
        have HOS := Lib.hid hos
        clear hx3 hos
        go_wp2_with fail
        refine (HhBd.out _ _ HOS.out).mono ?_
        rintro e w4 ⟨ut, rfl, hx4, hot⟩
        have hSL4 := HhSL.out.ext (HX3.out.trans hx4)
        have hLP4 := HhLP.out.ext (HX3.out.trans hx4)
        have hBr := branch_calls hSL4 (by rw [ownS_len]; have : oL f.arch ≤ 5 := by unfold oL; split <;> omega
                                          omega) (treeF f) HhTok.out.may (by have := HhTok.out.len; omega) ut _ hot labs (fun b hb => .inr hb) _ g cu hLP4 (fun n hn hl => by
          obtain ⟨j, hj, rfl⟩ := List.mem_iff_getElem.1 hn
          have := HhTok.out.ways j hj hl
          omega)
        rw [ownS_len] at hBr
        have HhBr := Lib.hid hBr
        clear hBr
        have HhLP4 := Lib.hid hLP4
        clear hLP4
        clear hx4 hot hSL4
        go_wp2_with fail
        rw [hll] at HhBr
        refine HhBr.out.mono ?_
        rintro e w5 ⟨rfl, hs5, ht5⟩
        obtain ⟨lab, hle⟩ : ∃ lab : Nat → Nat, lab = fun j => labs.getD j 0 := ⟨_, rfl⟩
        have hLabE : LabOk f (treeF f) nt lab := by rw [hle]; exact HhLab.out
        have hoe : ∀ b, ((b = nt ∨ b ∈ labs) ∧ b ≠ lab 0) ↔ OE f nt lab 0 b := fun b => by rw [hle]; exact oe_start (t := treeF f) hll HhLab.out b
        have HLB := Lib.hid hLabE
        have Hhoe := Lib.hid hoe
        clear hoe
        have hlc : ∀ W, WT w5 W → ∀ j (hj : j < labs.length), W.cell? ⟨g, j, none⟩ = some (.pointer (some ⟨lab j, 0, none⟩)) := fun W hW j hj => by
          have h := ((HhLP4.out.wt ht5).wt hW).cell j (by rw [List.length_map]; exact hj)
          rw [h, List.getElem_map, hle]; dsimp only; rw [List.getD_eq_getElem?_getD, List.getElem?_eq_getElem hj]; rfl
        have hbc : ∀ W, Ext w0 W → W.cell? ⟨w.heap.size, 1, none⟩ = some (.slice a f.rules.length c) ∧ W.cell? ⟨w.heap.size, 2, none⟩ = some (.int .u32 (f.dflt : Int)) := fun W hW => ⟨blk_cell (blk_ext HBX.out hW) 1, blk_cell (blk_ext HBX.out hW) 2⟩
        have hrc : ∀ W, Ext w0 W → ∀ k (hk : k < f.rules.length), ∃ b o u, a = some ⟨b, o, none⟩ ∧ W.cell? ⟨b, o + k * 3, none⟩ = some (.int .u32 (f.rules[k].nr : Int)) ∧ W.cell? ⟨b, o + k * 3 + 1, none⟩ = some u ∧ W.cell? ⟨b, o + k * 3 + 2, none⟩ = some (.int .u32 (f.rules[k].action : Int)) ∧ Rd w0 4 L21.encT u f.rules[k].tests := fun W hW k hk => by
          obtain ⟨b, o, u, e, n1, n2, n3, n4⟩ := Hhcell.out k hk
          exact ⟨b, o, u, e, (HX0.out.trans hW).cell n1, (HX0.out.trans hW).cell n2, (HX0.out.trans hW).cell n3, Rd.ext HX0.out n4⟩
        have hrb := fun k (hk : k ≤ f.rules.length) => rowE_bound (nt := nt) (lab := lab) Hhm.out HhTok.out hk
        obtain ⟨row, hrow⟩ : ∃ row, row = row0 f (treeF f) nt lab := ⟨_, rfl⟩
        have hs5' : SW w0 w0.heap.size (fun b => b = nt ∨ b ∈ labs) row w5 := by rw [hrow, hle]; exact hs5
        have hrl := row0_len f (treeF f) nt lab
        rw [← hrow] at hrl
        have hrh := row0_here HhTok.out HLB.out
        rw [← hrow] at hrh
        have HS5 := Lib.hid hs5'
        have c0 := hlc w5 (WT.refl w5) 0 (by omega)
        have hl0 : lab 0 ∈ labs := by
          rw [hle]; dsimp only; rw [List.getD_eq_getElem?_getD, List.getElem?_eq_getElem (show 0 < labs.length by omega)]; exact List.getElem_mem _
        have Hhlc := Lib.hid hlc
        clear hlc
        have Hhbc := Lib.hid hbc
        clear hbc
        have Hhrc := Lib.hid hrc
        clear hrc
        have Hhrb := Lib.hid hrb
        clear hrb
        have Hhrl := Lib.hid hrl
        clear hrl
        have Hhrh := Lib.hid hrh
        clear hrh
        have Hhl0 := Lib.hid hl0
        clear hl0
        clear hs5 hs5' hrow ht5 hle hLabE
        go_wp2_with fail
        refine (SW.here_calls (b := lab 0) HS5.out (.inr Hhl0.out)).mono ?_
        rintro e w6 ⟨rfl, hs6, ht6⟩
        have hs6' := hs6.mono Hhoe.out
        rw [Hhrl.out] at hs6'
        have HS6 := Lib.hid hs6'
        have HT6 := Lib.hid ht6
        obtain ⟨-, d2⟩ := Hhbc.out w6 hs6.ext0
        clear hs6 hs6' ht6 c0
        go_wp2_with fail
        refine (SW.ret_calls HS6.out (by rw [List.length_map, Hhrl.out]; have := dP_le HhTok.out; omega) f.dflt).mono ?_
        rintro e w7 ⟨rfl, hs7, ht7⟩
        rw [Hhrh.out] at hs7
        have HS7 := Lib.hid hs7
        have HT7 := Lib.hid (HT6.out.trans ht7)
        obtain ⟨d1, -⟩ := Hhbc.out w7 hs7.ext0
        clear hs7 ht7 d2 HS5 HS6 HT6 HS2 HX HLL1 HRL1 HRN1 HRW1
        go_wp2_with fail
        go_loopw [91] (fun i wr => ∃ k : Nat, k ≤ f.rules.length ∧ i = .int .i64 k ∧ SW w0 w0.heap.size (OE f nt lab k) (rowE f (treeF f) nt lab k) wr ∧ WT w5 wr) (fun i _ => f.rules.length - (intOf i).toNat)
        case atStart => exact ⟨0, by omega, rfl, HS7.out, HT7.out⟩
        case round =>
          obtain ⟨k, hk, rfl, hs, hwt⟩ := hrel
          have HS8 := Lib.hid hs
          have HT8 := Lib.hid hwt
          clear HS7 HT7
          by_cases hlt : k < f.rules.length
          · obtain ⟨b, o, ut2, rfl, n1, n2, n3, hut⟩ := Hhrc.out wr hs.ext0 k hlt
            obtain ⟨at', ct, rfl, -, -⟩ := rdT_cell hut
            have hk1 : k + 1 < labs.length := by omega
            have hbx9 : (fun b => OE f nt lab k b) (lab (k + 1)) := .inr ⟨k + 1, by omega, by omega, rfl⟩
            have hnw := heap_alloc_new wr (.cells #[.int .u32 (f.rules[k].nr : Int), .slice at' f.rules[k].tests.length ct, .int .u32 (f.rules[k].action : Int)] 34)
            have hE9 : Ext wr (wr.alloc (.cells #[.int .u32 (f.rules[k].nr : Int), .slice at' f.rules[k].tests.length ct, .int .u32 (f.rules[k].action : Int)] 34)) := (Ext.refl wr).alloc _
            have hHr := SW.here_calls (HS8.out.ext hE9) hbx9
            have hc9 := Hhlc.out _ (hwt.trans (WT.of_ext hE9)) (k + 1) hk1
            have HE9 := Lib.hid hE9
            have HhHr := Lib.hid hHr
            clear hHr
            have Hhnw := Lib.hid hnw
            clear hnw
            have Hhut := Lib.hid hut
            clear hut
            clear hs hwt hbx9 hE9
            go_wp2_with fail
            refine HhHr.out.mono ?_
            rintro e w9 ⟨rfl, hs9, ht9⟩
            have hs9' := hs9.mono (fun b => oe_step HLB.out hlt b)
            rw [rowE_len _ _ _ _ hk] at hs9'
            have HS9 := Lib.hid hs9'
            have HT9 := Lib.hid ((HT8.out.trans (WT.of_ext HE9.out)).trans ht9)
            have hbk := ht9.kept _ _ _ _ Hhnw.out (by decide) (by decide) (by decide) (by decide)
            have p0 : w9.cell? ⟨wr.heap.size, 0, none⟩ = some (.int .u32 (f.rules[k].nr : Int)) := blk_cell hbk 0
            have p1 : w9.cell? ⟨wr.heap.size, 1, none⟩ = some (.slice at' f.rules[k].tests.length ct) := blk_cell hbk 1
            have p2 : w9.cell? ⟨wr.heap.size, 2, none⟩ = some (.int .u32 (f.rules[k].action : Int)) := blk_cell hbk 2
            clear hs9 hs9' ht9 hbk hc9 n1 n2 n3
            go_wp2_with fail
            refine (rule_calls HS9.out (by rw [List.length_map]; have := Hhrb.out k hk; omega) f.rules[k].nr f.rules[k].action f.rules[k].tests _ Hhut.out (Hhts.out _ (List.getElem_mem hlt)).1 (fun t ht => ⟨(Hhts.out _ (List.getElem_mem hlt)).2 t ht, (Hhf.out.r _ (List.getElem_mem hlt)).t t ht⟩)).mono ?_
            rintro e w10 ⟨rfl, hs10, ht10⟩
            rw [List.length_map, rowE_len _ _ _ _ hk, rowE_here HhTok.out HLB.out hlt] at hs10
            have HS10 := Lib.hid hs10
            have HT10 := Lib.hid (HT9.out.trans ht10)
            clear hs10 ht10 p0 p1 p2
            go_wp2_with fail
            go_roundw
            case rel => exact ⟨k + 1, by omega, by go_num, HS10.out, HT10.out⟩
            case measure => simp [intOf]; omega
          · obtain rfl : k = f.rules.length := by omega
            have hwn : wP f (treeF f) (f.rules.length + 1) = nP f (treeF f) := by unfold wP nP; rw [if_neg (by omega), Nat.add_sub_cancel]
            have Hhwn := Lib.hid hwn
            clear hwn
            clear hs hwt
            go_wp2_with fail
            refine (SW.here_calls (b := nt) HS8.out (.inl rfl)).mono ?_
            rintro e w9 ⟨rfl, hs9, -⟩
            rw [rowE_len _ _ _ _ hk, Hhwn.out] at hs9
            have HS9 := Lib.hid hs9
            clear hs9
            go_wp2_with fail
            refine (SW.ret_calls HS9.out (by rw [List.length_map]; have := Hhrb.out _ hk; omega) 2147418112).mono ?_
            rintro e w10 ⟨rfl, hs10, -⟩
            rw [rowE_end HhTok.out] at hs10
            have HS10 := Lib.hid hs10
            clear hs10
            go_wp2_with fail
            refine (SW.done_calls HS10.out (by rw [emS_len, ← Hhwn.out, ← rowE_len f (treeF f) nt lab hk]; have := Hhrb.out _ hk; omega) (fun b => oe_end b)).mono ?_
            rintro e w11 ⟨v, rfl, hx11, hrd⟩
            have HX11 := Lib.hid (HX0.out.trans hx11)
            have HRD := Lib.hid hrd
            clear hx11 hrd
            go_wp2_with fail
            first | go_ret2 | go_ret
            exact ⟨v, rfl, HX11.out, HRD.out⟩
set_option maxRecDepth 100000 in
set_option maxHeartbeats 400000 in
theorem Emit_none (f : Filter) (u : Value) (hf : OkF f) (hm : mayF f = false) (w : World) (hu : RdR w 3 (IsR w) u f.rules) :
    Calls Try.prog 40 #[.agg #[.int .i64 f.arch, u, .int .u32 (f.dflt : Int)]] w fun e w' => e = .returned (.tuple #[.slice none 0 0, .int .i64 210]) ∧ Ext w w' := by
  have hM := fun W (hx : Ext w W) => May_calls f u hf W (rdRR_ext hx hu)
  rw [hm] at hM
  obtain ⟨av, cv, rfl, -, -⟩ := rdR_cell hu
  have HhM := Lib.hid hM
  clear hM
  have Hhm := Lib.hid hm
  clear hm
  clear hu
  go_enter Try.func40, Try.ntmps40
  go_wp2_with fail
  refine (HhM.out _ ((Ext.refl _).alloc _)).mono ?_
  rintro e w1 ⟨rfl, hx1⟩
  go_wp2_with fail
  first | go_ret2 | go_ret
  exact ⟨rfl, ((Ext.refl _).alloc _).trans hx1⟩
end L25M
end Go.Proofs.Ytkmhfjnjfghnjaa

