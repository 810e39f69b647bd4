/- Layer 21: the walk of the law IrOwn. -/
import Derived.Deep.DeepCutAuto
import Derived.Test.YtkmhfjnjfghnjaaIsI
namespace Go.Proofs.Ytkmhfjnjfghnjaa
open Go.RowKit V
namespace L21
open L25 (Dat datV OkD)
def killF (ar : Int) : Filter := ⟨ar, [], 0⟩
theorem okKill {ar : Int} (h1 : -9223372036854775808 ≤ ar) (h2 : ar ≤ 9223372036854775807) : OkF (killF ar) := ⟨h1, h2, by show 0 < _; decide, by show 0 ≤ _; decide, fun r hr => by cases hr⟩
theorem denKill (ar : Int) (rs : List Rule) (df : Nat) (d : Dat) : denA (killF ar) d = if ownA ⟨ar, rs, df⟩ d = true then 0 else 2147418112 := by
  have e : ownA (killF ar) d = ownA ⟨ar, rs, df⟩ d := rfl
  unfold denA
  rw [e]; rfl
theorem rdR_nil (w : World) : RdR w 3 (IsR w) (.slice none 0 0) [] := ⟨none, 0, rfl, Nat.le_refl _, fun _ => rfl, fun i hi => by cases hi⟩
/-- one rule put into a row of the call's own, its number after it -/
theorem own_put {W : World} {base g c : Nat} {ps : List PR} (h : W.ownsRow base 34 3 (.slice (some ⟨g, 0, none⟩) ps.length c) ps.length (ps.flatMap encP)) {i : Nat} (hi : i < ps.length) (p : PR) (n : Nat) :
    ((((W.setCell ⟨g, i * 3, none⟩ (.int .u32 (p.r.nr : Int))).setCell ⟨g, i * 3 + 1, none⟩ p.v).setCell ⟨g, i * 3 + 2, none⟩ (.int .u32 (p.r.action : Int))).setCell ⟨g, i * 3, none⟩ (.int .u32 (n : Int))).ownsRow base 34 3
      (.slice (some ⟨g, 0, none⟩) ps.length c) ps.length ((ps.set i ⟨⟨n, p.r.tests, p.r.action⟩, p.a, p.c⟩).flatMap encP) := by
  obtain ⟨h1, -⟩ := own_store encP_len h i 0 (.int .u32 (p.r.nr : Int)) ⟨⟨p.r.nr, ps[i].r.tests, ps[i].r.action⟩, ps[i].a, ps[i].c⟩ hi (by decide) rfl
  have l1 : (ps.set i (⟨⟨p.r.nr, ps[i].r.tests, ps[i].r.action⟩, ps[i].a, ps[i].c⟩ : PR)).length = ps.length := List.length_set
  rw [← l1, Nat.add_zero] at h1
  obtain ⟨h2, -⟩ := own_store encP_len h1 i 1 p.v ⟨⟨p.r.nr, p.r.tests, ps[i].r.action⟩, p.a, p.c⟩ (by rw [l1]; exact hi) (by decide) (by rw [List.getElem_set_self]; rfl)
  rw [List.set_set] at h2
  have l2 : (ps.set i (⟨⟨p.r.nr, p.r.tests, ps[i].r.action⟩, p.a, p.c⟩ : PR)).length = ps.length := List.length_set
  rw [l1, ← l2] at h2
  obtain ⟨h3, -⟩ := own_store encP_len h2 i 2 (.int .u32 (p.r.action : Int)) ⟨⟨p.r.nr, p.r.tests, p.r.action⟩, p.a, p.c⟩ (by rw [l2]; exact hi) (by decide) (by rw [List.getElem_set_self]; rfl)
  rw [List.set_set] at h3
  have l3 : (ps.set i (⟨⟨p.r.nr, p.r.tests, p.r.action⟩, p.a, p.c⟩ : PR)).length = ps.length := List.length_set
  rw [l2, ← l3] at h3
  obtain ⟨h4, -⟩ := own_store encP_len h3 i 0 (.int .u32 (n : Int)) ⟨⟨n, p.r.tests, p.r.action⟩, p.a, p.c⟩ (by rw [l3]; exact hi) (by decide) (by rw [List.getElem_set_self]; rfl)
  rw [List.set_set, l3, Nat.add_zero] at h4
  exact h4
theorem okSet {f : Filter} (h : OkF f) {i : Nat} {r : Rule} (hr : OkR r) : OkF ⟨f.arch, f.rules.set i r, f.dflt⟩ :=
  ⟨h.a1, h.a2, h.d, by show (f.rules.set i r).length ≤ _; rw [List.length_set]; exact h.l, fun x hx => by
    rcases List.mem_or_eq_of_mem_set hx with h1 | h1
    · exact h.r x h1
    · rw [h1]; exact hr⟩
theorem denA_set {f : Filter} {d : Dat} {i : Nat} (hi : i < f.rules.length) {r : Rule} (h : r.nr = f.rules[i].nr) (hn : d.nr ≠ r.nr) : denA ⟨f.arch, f.rules.set i r, f.dflt⟩ d = denA f d := by
  unfold denA
  have e : ownA ⟨f.arch, f.rules.set i r, f.dflt⟩ d = ownA f d := rfl
  rw [e]
  split
  · exact denL_set hi h hn
  · rfl
set_option maxRecDepth 100000 in
set_option maxHeartbeats 4000000 in
theorem IrOwn_calls (f : Filter) (u : Value) (hf : OkF f) (d : Dat) (hd : OkD d) (i : Int) (r : Rule) (ur : Value) (hr : OkR r) (w : World) (hu : RdR w 3 (IsR w) u f.rules) (hur : Rd w 4 encT ur r.tests) :
    Calls Try.prog 7 #[.agg #[.int .i64 f.arch, u, .int .u32 (f.dflt : Int)], datV d, .int .i64 i, .agg #[.int .u32 (r.nr : Int), ur, .int .u32 (r.action : Int)]] w fun e w' => e = .returned (.bool true) ∧ Ext w w' := by
  have hG := fun W (hx : Ext w W) => Great_calls f u hf W (rdRR_ext hx hu)
  have HU := Lib.hid hu
  have HUR := Lib.hid hur
  have HAW : Hid (∀ W, Calls Try.prog 30 #[] W fun e w' => e = .returned (.bool true) ∧ Ext W w') := Lib.hid (fun W => awake_calls W)
  have hx0 : ∀ (o1 o2 o3 : Obj) (w1 : World), Ext (((w.alloc o1).alloc o2).alloc o3) w1 → Ext w w1 := fun o1 o2 o3 w1 h => ((((Ext.refl w).alloc o1).alloc o2).alloc o3).trans h
  have Hhx0 := Lib.hid hx0
  clear hx0
  have hrl := hr.l
  by_cases hskip : great 0 f.rules = true ∨ i < 0 ∨ (f.rules.length : Int) ≤ i ∨ 100 < r.tests.length
  · have hcase : great 0 f.rules = true ∨ (great 0 f.rules = false ∧ decide (i < 0) = true) ∨ (great 0 f.rules = false ∧ decide (i < 0) = false ∧ decide ((f.rules.length : Int) ≤ i) = true) ∨
        (great 0 f.rules = false ∧ decide (i < 0) = false ∧ decide ((f.rules.length : Int) ≤ i) = false ∧ decide (100 < r.tests.length) = true ∧ decide ((100 : Int) < (r.tests.length : Int)) = true) := by
      cases hg : great 0 f.rules
      · rw [hg] at hskip
        by_cases h1 : i < 0
        · exact .inr (.inl ⟨rfl, decide_eq_true h1⟩)
        · by_cases h2 : (f.rules.length : Int) ≤ i
          · exact .inr (.inr (.inl ⟨rfl, decide_eq_false h1, decide_eq_true h2⟩))
          · have h3 : 100 < r.tests.length := by
              rcases hskip with h | h | h | h
              · cases h
              · exact absurd h h1
              · exact absurd h h2
              · exact h
            exact .inr (.inr (.inr ⟨rfl, decide_eq_false h1, decide_eq_false h2, decide_eq_true h3, decide_eq_true (by omega)⟩))
      · exact .inl rfl
    obtain ⟨ar, rs, df⟩ := f
    obtain ⟨rn, ts, ra⟩ := r
    dsimp only at *
    obtain ⟨av, cv, rfl, -, -⟩ := rdR_cell hu
    obtain ⟨avt, cvt, rfl, -, -⟩ := rdT_cell hur
    unfold datV
    have Hhskip := Lib.hid hskip
    clear hskip
    clear hu hur hf hr
    rcases hcase with h1 | ⟨h1, h2⟩ | ⟨h1, h2, h3⟩ | ⟨h1, h2, h3, h4, h5⟩
    all_goals
      rw [h1] at hG
      have HhG := Lib.hid hG
      clear hG
      have Hh1 := Lib.hid h1
      clear h1
      go_enter Try.func7, Try.ntmps7
      go_wp2_with fail
      refine (HAW.out _).mono ?_
      rintro e w1 ⟨rfl, hx1⟩
      have z0 := hx1.cell (p := ⟨w.heap.size, 0, none⟩) (by simp [go_sem]; rfl)
      have z1 := hx1.cell (p := ⟨w.heap.size, 1, none⟩) (by simp [go_sem]; rfl)
      have z2 := hx1.cell (p := ⟨w.heap.size, 2, none⟩) (by simp [go_sem]; rfl)
      have y1 := hx1.cell (p := ⟨w.heap.size + 2, 1, none⟩) (by simp [go_sem]; rfl)
      have HX1 := Lib.hid (Hhx0.out _ _ _ _ hx1)
      clear hx1
      go_wp2_with fail
      refine (HhG.out _ HX1.out).mono ?_
      rintro e w2 ⟨rfl, hx2⟩
      replace z1 := hx2.cell z1
      replace y1 := hx2.cell y1
      have HX2 := Lib.hid (HX1.out.trans hx2)
      clear hx2 z0 z2
      go_wp2_with fail
      go_ret
      exact ⟨rfl, HX2.out⟩
  have hgr : great 0 f.rules = false := by
    cases hg : great 0 f.rules
    · rfl
    · exact absurd (.inl hg) hskip
  have hi0 : 0 ≤ i := Int.not_lt.1 (fun h => hskip (.inr (.inl h)))
  have hi1 : i < (f.rules.length : Int) := Int.not_le.1 (fun h => hskip (.inr (.inr (.inl h))))
  have hr1 : r.tests.length ≤ 100 := Nat.not_lt.1 (fun h => hskip (.inr (.inr (.inr h))))
  obtain ⟨k, rfl⟩ : ∃ k : Nat, i = (k : Int) := ⟨i.toNat, by omega⟩
  have hkl : k < f.rules.length := by omega
  obtain ⟨hl, hlr⟩ := great_bd hgr
  rw [hgr] at hG
  obtain ⟨ps, hps, hrd, hgd⟩ := of_rdRR hu
  have hpl : ps.length = f.rules.length := by rw [← hps, List.length_map]
  have hnrk := (hf.r _ (List.getElem_mem hkl)).n
  have hD := fun W (hx : Ext w W) => Denote_calls f u hf d hd W (rdRR_ext hx hu)
  have hDg := fun v W (h : RdR W 3 (IsR W) v (f.rules.set k ⟨f.rules[k].nr, r.tests, r.action⟩)) => Denote_calls ⟨f.arch, f.rules.set k ⟨f.rules[k].nr, r.tests, r.action⟩, f.dflt⟩ v (okSet hf ⟨hnrk, hr.x, hr.l, hr.t⟩) d hd W h
  have hDk := fun W => Denote_calls (killF f.arch) (.slice none 0 0) (okKill hf.a1 hf.a2) d hd W (rdR_nil W)
  have hset : d.nr ≠ f.rules[k].nr → denA ⟨f.arch, f.rules.set k ⟨f.rules[k].nr, r.tests, r.action⟩, f.dflt⟩ d = denA f d := fun h => denA_set hkl rfl h
  have hkill := denKill f.arch f.rules f.dflt d
  have hnot : ownA f d = false → denA f d = 2147418112 := fun h => denA_not h
  have hnk : ps[k]'(by omega) = ps[k]'(by omega) := rfl
  have hpn : (ps[k]'(by omega)).r = f.rules[k] := by
    have e : (ps.map PR.r)[k]'(by rw [List.length_map]; omega) = f.rules[k] := by simp only [hps]
    rw [List.getElem_map] at e
    exact e
  obtain ⟨ar, rs, df⟩ := f
  obtain ⟨rn, ts, ra⟩ := r
  dsimp only at *
  obtain ⟨av, cv, rfl, -, -⟩ := rdR_cell hu
  obtain ⟨avt, cvt, rfl, -, -⟩ := rdT_cell hur
  generalize ownA ⟨ar, rs, df⟩ d = ow at *
  generalize denA ⟨ar, rs, df⟩ d = dn at *
  rw [hkill] at hDk
  unfold killF at hDk
  unfold datV at hD hDg hDk ⊢
  have hl0 : ([] : List PR).length + ps.length = ps.length := by simp
  have hpk : k < ps.length := by omega
  obtain ⟨nk, hnk2⟩ : ∃ nk, nk = (rs[k]'hkl).nr := ⟨_, rfl⟩
  rw [← hnk2] at hDg hset hnrk
  have HNK : Hid ((ps[k]'hpk).r.nr = nk) := Lib.hid (by rw [hpn, hnk2])
  have HPM : Hid ((ps.set k ⟨⟨nk, ts, ra⟩, avt, cvt⟩).map PR.r = rs.set k ⟨nk, ts, ra⟩) := Lib.hid (by rw [List.map_set, hps])
  clear hnk hpn hnk2
  have Hhl0 := Lib.hid hl0
  clear hl0
  have Hhps := Lib.hid hps
  clear hps
  have Hhrd := Lib.hid hrd
  clear hrd
  have Hhgd := Lib.hid hgd
  clear hgd
  have HhG := Lib.hid hG
  clear hG
  have HhD := Lib.hid hD
  clear hD
  have HhDg := Lib.hid hDg
  clear hDg
  have HhDk := Lib.hid hDk
  clear hDk
  have Hhset := Lib.hid hset
  clear hset
  have Hhkill := Lib.hid hkill
  clear hkill
  have Hhnot := Lib.hid hnot
  clear hnot
  have Hhgr := Lib.hid hgr
  clear hgr
  have Hhskip := Lib.hid hskip
  clear hskip
  have Hhlr := Lib.hid hlr
  clear hlr
  have HPL := Lib.hid hpl
  clear hu hur hf hpl
  go_enter Try.func7, Try.ntmps7
  go_wp2_with fail
  refine (HAW.out _).mono ?_
  rintro e w1 ⟨rfl, hx1⟩
  have z0 := hx1.cell (p := ⟨w.heap.size, 0, none⟩) (by simp [go_sem]; rfl)
  have z1 := hx1.cell (p := ⟨w.heap.size, 1, none⟩) (by simp [go_sem]; rfl)
  have z2 := hx1.cell (p := ⟨w.heap.size, 2, none⟩) (by simp [go_sem]; rfl)
  have hcd : Cda w1 (w.heap.size + 1) d := ⟨hx1.cell (by simp [go_sem]), hx1.cell (by simp [go_sem]), hx1.cell (by simp [go_sem]), hx1.cell (by simp [go_sem]), hx1.cell (by simp [go_sem]), hx1.cell (by simp [go_sem]), hx1.cell (by simp [go_sem]), hx1.cell (by simp [go_sem]), hx1.cell (by simp [go_sem])⟩
  have y0 := hx1.cell (p := ⟨w.heap.size + 2, 0, none⟩) (by simp [go_sem]; rfl)
  have y1 := hx1.cell (p := ⟨w.heap.size + 2, 1, none⟩) (by simp [go_sem]; rfl)
  have y2 := hx1.cell (p := ⟨w.heap.size + 2, 2, none⟩) (by simp [go_sem]; rfl)
  have HX1 := Lib.hid (Hhx0.out _ _ _ _ hx1)
  have HCD1 := Lib.hid hcd
  have HZ0 := Lib.hid z0
  have HZ1 := Lib.hid z1
  have HZ2 := Lib.hid z2
  have HY0 := Lib.hid y0
  have HY1 := Lib.hid y1
  have HY2 := Lib.hid y2
  clear hx1 hcd y0 y2
  go_wp2_with fail
  refine (HhG.out _ HX1.out).mono ?_
  rintro e w2 ⟨rfl, hx2⟩
  have HX12 := Lib.hid hx2
  have HX2 := Lib.hid (HX1.out.trans hx2)
  replace z0 := hx2.cell z0
  replace z1 := hx2.cell z1
  replace z2 := hx2.cell z2
  replace y1 := hx2.cell y1
  have q1 := fun o => ((Ext.refl w2).alloc o).cell z1
  have hb2 : w.heap.size + 2 < w2.heap.size := World.block_lt_of_cell? _ ⟨w.heap.size + 2, 1, none⟩ y1
  have hr2 : decide (100 < ts.length) = false := decide_eq_false (by omega)
  have hr3 : decide ((100 : Int) < (ts.length : Int)) = false := decide_eq_false (by omega)
  have hr4 : decide ((k : Int) < 0) = false := decide_eq_false (by omega)
  have hr5 : decide ((rs.length : Int) ≤ (k : Int)) = false := decide_eq_false (by omega)
  have hr6 : decide (rs.length ≤ k) = false := decide_eq_false (by omega)
  clear hx2
  go_upto_region 7 with (at_builtin; refine wpList_app_rd rfl (.tmp 39) (.tmp 41) _ rfl Try.underlying22 infoR9 rfl (by decide) encP_len encP_one (w2.alloc (.cells #[.int .i64 ar, .slice none 0 0, .int .u32 (df : Int)] 25)) _ _ [] ps rfl rfl (World.ownsRow_nil _ _ _ _) (Hhrd.out.ext (HX2.out.alloc _)) (by rw [Hhl0.out, HPL.out]; omega) (by decide) (Ext.refl _) ?_; intro au cu w4 ho4 hx4; rw [Hhl0.out, List.nil_append] at ho4; rw [Hhl0.out]; have HO4 := Lib.hid ho4; have HX4 := Lib.hid hx4; have b1 := hx4.cell (p := ⟨w2.heap.size, 1, none⟩) (by simp [go_sem]; rfl); have f1 : w4.frozen? ⟨w2.heap.size, 1, none⟩ = false := (World.frozen?_of_block (a := ⟨w2.heap.size, 1, none⟩) (hx4.block (by simp))).trans (by simp [go_sem]); have hbb := World.block_lt_of_cell? _ _ b1; clear ho4 hx4 q1)
  obtain ⟨W5, hW5⟩ : ∃ W5, W5 = w4.setCell ⟨w2.heap.size, 1, none⟩ (.slice au ps.length cu) := ⟨_, rfl⟩
  have hx25 : Ext w2 W5 := by rw [hW5]; exact (((Ext.refl w2).alloc _).trans HX4.out).setCell (Nat.le_refl _) _
  have ho5 : W5.ownsRow (w2.heap.size + 1) 34 3 (.slice au ps.length cu) ps.length (ps.flatMap encP) := by
    rw [hW5]; exact own_set (own_base HO4.out (by simp)) (by dsimp only; omega) _
  have v0 : W5.cell? ⟨w2.heap.size, 0, none⟩ = some (.int .i64 ar) := by rw [hW5, set_ne _ (by omega)]; exact HX4.out.cell (by simp [go_sem])
  have v1 : W5.cell? ⟨w2.heap.size, 1, none⟩ = some (.slice au ps.length cu) := by rw [hW5]; exact World.cell?_setCell_same' _ _ _ (by rw [b1]; rfl)
  have v2 : W5.cell? ⟨w2.heap.size, 2, none⟩ = some (.int .u32 (df : Int)) := by rw [hW5, set_ne _ (by omega)]; exact HX4.out.cell (by simp [go_sem])
  rw [← hW5]
  obtain ⟨g, cg, hge, hgb, hgl, hgf⟩ := own_parts ho5 (by omega)
  simp only [Value.slice.injEq] at hge
  obtain ⟨rfl, -, rfl⟩ := hge
  obtain ⟨a', c', e', -, -, hcell⟩ := rd_of_own encP_len ho5
  simp only [Value.slice.injEq] at e'
  obtain ⟨rfl, -, rfl⟩ := e'
  obtain ⟨b', o', e', hat⟩ := hcell k hpk
  simp only [Option.some.injEq, Addr.mk.injEq, and_true] at e'
  obtain ⟨rfl, rfl⟩ := e'
  have t0 := hat 0 (by simp [encP])
  have t1 := hat 1 (by simp [encP])
  have t2 := hat 2 (by simp [encP])
  simp only [Nat.zero_add, Nat.add_zero, encP, List.getElem_cons_zero, List.getElem_cons_succ] at t0 t1 t2
  rw [HNK.out] at t0
  have fg0 := hgf (k * 3)
  have fg1 := hgf (k * 3 + 1)
  have fg2 := hgf (k * 3 + 2)
  have y0 := (HX12.out.trans hx25).cell HY0.out
  have y1 := (HX12.out.trans hx25).cell HY1.out
  have y2 := (HX12.out.trans hx25).cell HY2.out
  have hgn : ¬ g = w2.heap.size := by omega
  have hgn2 : ¬ w2.heap.size = g := by omega
  have hkp : (k : Int) < (ps.length : Int) := by omega
  have HX25 := Lib.hid hx25
  have HO5 := Lib.hid ho5
  have HV0 := Lib.hid v0
  have HV1 := Lib.hid v1
  have HV2 := Lib.hid v2
  have HGB := Lib.hid hgb
  clear hW5 hx25 ho5 hcell hat hgf b1 f1 hbb z0 z1 z2 v0 v2
  go_upto_region 10 with fail
  obtain ⟨W6, hW6⟩ : ∃ W6, W6 = (((W5.setCell ⟨g, k * 3, none⟩ (.int .u32 (rn : Int))).setCell ⟨g, k * 3 + 1, none⟩ (.slice avt ts.length cvt)).setCell ⟨g, k * 3 + 2, none⟩ (.int .u32 (ra : Int))).setCell ⟨g, k * 3, none⟩ (.int .u32 (nk : Int)) := ⟨_, rfl⟩
  have hgw : w2.heap.size ≤ g := by have := HGB.out; omega
  have hx26 : Ext w2 W6 := by rw [hW6]; exact (((HX25.out.setCell hgw _).setCell hgw _).setCell hgw _).setCell hgw _
  have hxw := HX2.out.trans hx26
  have ho6 := own_put HO5.out hpk ⟨⟨rn, ts, ra⟩, avt, cvt⟩ nk
  have hls : (ps.set k (⟨⟨nk, ts, ra⟩, avt, cvt⟩ : PR)).length = ps.length := List.length_set
  have hr6 : RdR W6 3 (IsR W6) (.slice (some ⟨g, 0, none⟩) ps.length cu) (rs.set k ⟨nk, ts, ra⟩) := by
    have h1 : W6.ownsRow (w2.heap.size + 1) 34 3 (.slice (some ⟨g, 0, none⟩) (ps.set k (⟨⟨nk, ts, ra⟩, avt, cvt⟩ : PR)).length cu) (ps.set k (⟨⟨nk, ts, ra⟩, avt, cvt⟩ : PR)).length ((ps.set k (⟨⟨nk, ts, ra⟩, avt, cvt⟩ : PR)).flatMap encP) := by
      rw [hls, hW6]; exact ho6
    have h2 := rdRR_of (rd_of_own encP_len h1) (fun p hp => by
      rcases List.mem_or_eq_of_mem_set hp with h | h
      · exact (Hhgd.out p h).ext hxw
      · rw [h]; exact HUR.out.ext hxw)
    rw [HPM.out, hls] at h2
    exact h2
  have hfar : ∀ (j : Nat) (v : Value), W5.cell? ⟨w2.heap.size, j, none⟩ = some v → W6.cell? ⟨w2.heap.size, j, none⟩ = some v := fun j v h => by
    rw [hW6, World.cell?_setCell_far _ _ _ _ hgn, World.cell?_setCell_far _ _ _ _ hgn, World.cell?_setCell_far _ _ _ _ hgn, World.cell?_setCell_far _ _ _ _ hgn]; exact h
  rw [← hW6]
  have hx16 := HX12.out.trans hx26
  have hcd := HCD1.out.ext hx16
  have d0x := xwc hcd.c0
  have d1x := xwc hcd.c1
  have d2x := xwc hcd.c2
  have d3x := xwc hcd.c3
  have d4x := xwc hcd.c4
  have d5x := xwc hcd.c5
  have d6x := xwc hcd.c6
  have d7x := xwc hcd.c7
  have d8x := xwc hcd.c8
  have z0x := xwc (hx16.cell HZ0.out)
  have z1x := xwc (hx16.cell HZ1.out)
  have z2x := xwc (hx16.cell HZ2.out)
  have m0x := xwc (hfar 0 _ HV0.out)
  have m1x := xwc (hfar 1 _ HV1.out)
  have m2x := xwc (hfar 2 _ HV2.out)
  have HWX : Hid (∀ x : XW W6, Ext w x.w) := Lib.hid (fun x => hxw.trans x.h)
  have HRX : Hid (∀ x : XW W6, RdR x.w 3 (IsR x.w) (.slice (some ⟨g, 0, none⟩) ps.length cu) (rs.set k ⟨nk, ts, ra⟩)) := Lib.hid (fun x => rdRR_ext x.h hr6)
  have hqn : ((d.nr : Int) != (nk : Int)) = !(d.nr == nk) := by rw [Bool.eq_iff_iff]; simp; omega
  have hDg2 : (d.nr == nk) = false → ∀ v W, RdR W 3 (IsR W) v (rs.set k ⟨nk, ts, ra⟩) → Calls Try.prog 28 #[.agg #[.int .i64 ar, v, .int .u32 (df : Int)], .agg #[.int .u32 (d.nr : Int), .int .u32 (d.ar : Int), .int .u64 (d.ip : Int), .int .u64 (d.a0 : Int), .int .u64 (d.a1 : Int), .int .u64 (d.a2 : Int), .int .u64 (d.a3 : Int), .int .u64 (d.a4 : Int), .int .u64 (d.a5 : Int)]] W fun e w' => e = .returned (.int .u32 (dn : Int)) ∧ Ext W w' := fun h v W hr => by
    have := HhDg.out v W hr
    rw [Hhset.out (by simpa using h)] at this
    exact this
  have hdd : ((dn : Int) != (dn : Int)) = false := by simp
  clear hW6 hx26 hxw ho6 hls hr6 hfar hcd hx16 y0 y1 y2 t0 t1 t2 fg0 fg1 fg2 v1 hgn hgn2 hkp hgw
  have HhDg2 := Lib.hid hDg2
  clear hDg2
  cases heqn : (d.nr == nk)
  all_goals
    rw [heqn] at hqn
    simp only [Bool.not_false, Bool.not_true] at hqn
    have HEQN := Lib.hid heqn
    clear heqn
    refine wp_region_kept (by kernel_rfl) (by kernel_rfl) ?_
    repeat (any_goals (first | go_big_quiet_step ((first | (go_at_call 28; with_reducible exact calls_kept (HhD.out _ (HWX.out _))) | (go_at_call 28; with_reducible exact calls_kept (HhDg2.out HEQN.out _ _ (HRX.out _))))) | quiet_step ((first | (go_at_call 28; with_reducible exact calls_kept (HhD.out _ (HWX.out _))) | (go_at_call 28; with_reducible exact calls_kept (HhDg2.out HEQN.out _ _ (HRX.out _)))))))
    all_goals (refine wpQuiet_nil ?_; intro _ hw9; obtain ⟨xq, hw8⟩ := hw9; subst hw8)
    have z0 := z0x xq
    have z1 := z1x xq
    have z2 := z2x xq
    have e0 := d0x xq
    have e1 := d1x xq
    have e2 := d2x xq
    have e3 := d3x xq
    have e4 := d4x xq
    have e5 := d5x xq
    have e6 := d6x xq
    have e7 := d7x xq
    have e8 := d8x xq
    have HXQ := Lib.hid (HWX.out xq)
    clear z0x z1x z2x m0x m1x m2x d0x d1x d2x d3x d4x d5x d6x d7x d8x
    generalize xq.w = W7 at *
    cases how : ow
    · rw [how] at HhDk
      simp only [Bool.false_eq_true, if_false] at HhDk
      have HDN := Lib.hid (Hhnot.out how)
      go_wp2_with fail
      refine (HhDk.out _).mono ?_
      rintro e w8 ⟨rfl, hx8⟩
      replace z0 := hx8.cell z0
      replace z1 := hx8.cell z1
      replace z2 := hx8.cell z2
      replace e0 := hx8.cell e0
      replace e1 := hx8.cell e1
      replace e2 := hx8.cell e2
      replace e3 := hx8.cell e3
      replace e4 := hx8.cell e4
      replace e5 := hx8.cell e5
      replace e6 := hx8.cell e6
      replace e7 := hx8.cell e7
      replace e8 := hx8.cell e8
      have HX8 := Lib.hid (HXQ.out.trans hx8)
      clear hx8
      go_wp2_with fail
      refine (HhD.out _ HX8.out).mono ?_
      rintro e w9 ⟨rfl, hx9⟩
      have hd9 : ((dn : Int) == 2147418112) = true := by rw [HDN.out]; rfl
      go_wp2_with fail
      go_ret
      exact ⟨rfl, HX8.out.trans hx9⟩
    · rw [how] at HhDk
      simp only [if_true] at HhDk
      go_wp2_with fail
      refine (HhDk.out _).mono ?_
      rintro e w8 ⟨rfl, hx8⟩
      have HX8 := Lib.hid (HXQ.out.trans hx8)
      clear hx8
      go_wp2_with fail
      go_ret
      exact ⟨rfl, HX8.out⟩
end L21
end Go.Proofs.Ytkmhfjnjfghnjaa
