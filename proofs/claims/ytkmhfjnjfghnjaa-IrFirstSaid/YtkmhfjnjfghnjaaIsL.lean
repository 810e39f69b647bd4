/- Layer 21: the walk of the law IrFirst. -/
import Derived.Test.YtkmhfjnjfghnjaaIsK
namespace Go.Proofs.Ytkmhfjnjfghnjaa
open Go.RowKit V
namespace L21
open L25 (Dat datV OkD)
set_option maxRecDepth 100000 in
set_option maxHeartbeats 8000000 in
theorem IrFirst_calls (f : Filter) (u : Value) (hf : OkF f) (d : Dat) (hd : OkD d) (i : Int) (t : Test) (ht : OkT t) (w : World) (hu : RdR w 3 (IsR w) u f.rules) :
    Calls Try.prog 8 #[.agg #[.int .i64 f.arch, u, .int .u32 (f.dflt : Int)], datV d, .int .i64 i, .agg #[.int .i64 t.arg, .int .u64 (t.mask : Int), .int .u64 (t.value : Int), .int .u32 (t.action : Int)]] w fun e w' => e = .returned (.bool true) ∧ Ext w w' := by
  by_cases hskip : great 0 f.rules = true ∨ i < 0 ∨ (f.rules.length : Int) ≤ i
  · exact IrFirst_skip f u hf d i t hskip w hu
  have hG := fun W (hx : Ext w W) => Great_calls f u hf W (rdRR_ext hx hu)
  have HU := Lib.hid hu
  have HAW : Hid (∀ W, Calls Try.prog 30 #[] W fun e w' => e = .returned (.bool true) ∧ Ext W w') := Lib.hid (fun W => awake_calls W)
  have hx0 : ∀ (o1 o2 o3 : Obj) (w1 : World), Ext (((w.alloc o1).alloc o2).alloc o3) w1 → Ext w w1 := fun o1 o2 o3 w1 h => ((((Ext.refl w).alloc o1).alloc o2).alloc o3).trans h
  have Hhx0 := Lib.hid hx0
  clear hx0
  have hgr : great 0 f.rules = false := by
    cases hg : great 0 f.rules
    · rfl
    · exact absurd (.inl hg) hskip
  have hi0 : 0 ≤ i := Int.not_lt.1 (fun h => hskip (.inr (.inl h)))
  have hi1 : i < (f.rules.length : Int) := Int.not_le.1 (fun h => hskip (.inr (.inr h)))
  clear hskip
  obtain ⟨k, rfl⟩ : ∃ k : Nat, i = (k : Int) := ⟨i.toNat, by omega⟩
  have hkl : k < f.rules.length := by omega
  obtain ⟨hl, hlr⟩ := great_bd hgr
  rw [hgr] at hG
  obtain ⟨ps, hps, hrd, hgd⟩ := of_rdRR hu
  have hpl : ps.length = f.rules.length := by rw [← hps, List.length_map]
  have hpk : k < ps.length := by omega
  have hokr := hf.r _ (List.getElem_mem hkl)
  have htl := hlr _ (List.getElem_mem hkl)
  have hpn : (ps[k]'hpk).r = f.rules[k] := by
    have e : (ps.map PR.r)[k]'(by rw [List.length_map]; omega) = f.rules[k] := by simp only [hps]
    rw [List.getElem_map] at e
    exact e
  have hgk := hgd _ (List.getElem_mem hpk)
  obtain ⟨d', hd'⟩ : ∃ d' : Dat, d' = { d with nr := f.rules[k].nr } := ⟨_, rfl⟩
  have hod : OkD d' := by rw [hd']; exact ⟨hokr.n, hd.ar, hd.ip, hd.a0, hd.a1, hd.a2, hd.a3, hd.a4, hd.a5⟩
  have hdn : d'.nr = f.rules[k].nr := by rw [hd']
  have hD := fun W (hx : Ext w W) => Denote_calls f u hf d' hod W (rdRR_ext hx hu)
  have hDg := fun (ts' : List Test) (hl' : ts'.length ≤ 140737488351232) (ht' : ∀ t ∈ ts', OkT t) v W (h : RdR W 3 (IsR W) v (f.rules.set k ⟨f.rules[k].nr, ts', f.rules[k].action⟩)) => Denote_calls ⟨f.arch, f.rules.set k ⟨f.rules[k].nr, ts', f.rules[k].action⟩, f.dflt⟩ v (okSet hf ⟨hokr.n, hokr.x, hl', ht'⟩) d' hod W h
  have hDk := fun W => Denote_calls (killF f.arch) (.slice none 0 0) (okKill hf.a1 hf.a2) d' hod W (rdR_nil W)
  have hH := fun (s : Test) (hs : OkT s) W => Holds_calls s hs d' hod W
  have hput : (∀ j (h : j < k), (f.rules[j]'(Nat.lt_trans h hkl)).nr ≠ d'.nr) → ownA f d' = true → ∀ ts' : List Test, denA ⟨f.arch, f.rules.set k ⟨f.rules[k].nr, ts', f.rules[k].action⟩, f.dflt⟩ d' = fstA d' ts' f.rules[k].action := fun h1 h2 ts' => denA_put h2 hkl hdn.symm h1
  have hnput : ownA f d' = false → ∀ ts' : List Test, denA ⟨f.arch, f.rules.set k ⟨f.rules[k].nr, ts', f.rules[k].action⟩, f.dflt⟩ d' = 2147418112 := fun h ts' => denA_not h
  have hatk : (∀ j (h : j < k), (f.rules[j]'(Nat.lt_trans h hkl)).nr ≠ d'.nr) → ownA f d' = true → denA f d' = fstA d' f.rules[k].tests f.rules[k].action := fun h1 h2 => denA_at h2 hkl hdn.symm h1
  have hkill := denKill f.arch f.rules f.dflt d'
  have hnot : ownA f d' = false → denA f d' = 2147418112 := fun h => denA_not h
  have hpm : ∀ (ts' : List Test) (a : Option Addr) (c : Nat), (ps.set k ⟨⟨f.rules[k].nr, ts', f.rules[k].action⟩, a, c⟩).map PR.r = f.rules.set k ⟨f.rules[k].nr, ts', f.rules[k].action⟩ := fun ts' a c => by rw [List.map_set, hps]
  have hnrs : ∀ j (hj : j < f.rules.length), ((f.rules[j].nr : Int) == (f.rules[k].nr : Int)) = (f.rules[j].nr == f.rules[k].nr) := fun j hj => by rw [Bool.eq_iff_iff]; simp; omega
  obtain ⟨ar, rs, df⟩ := f
  obtain ⟨ta, tm, tv, tx⟩ := t
  dsimp only at *
  obtain ⟨av, cv, rfl, -, hca⟩ := rdR_cell hu
  obtain ⟨b, o, vt, rfl, g1, g2, g3, g4⟩ := hca k hkl
  generalize ownA ⟨ar, rs, df⟩ d' = ow at *
  generalize denA ⟨ar, rs, df⟩ d' = dn at *
  rw [hkill] at hDk
  unfold killF at hDk
  unfold datV at hD hDg hDk hH ⊢
  obtain ⟨r0, hr0⟩ : ∃ r0, r0 = rs[k]'hkl := ⟨_, rfl⟩
  rw [← hr0] at hokr htl hpn hdn hDg hput hnput hatk hpm g1 g3 g4 hnrs hd'
  obtain ⟨nk, ts, ra⟩ := r0
  dsimp only at *
  obtain ⟨avt, cvt, rfl, -, hte⟩ := rdT_cell g4
  have hl0 : ([] : List PR).length + ps.length = ps.length := by simp
  have HTOK := Lib.hid hokr.t
  have HG4 := Lib.hid g4
  have Hhte := Lib.hid hte
  clear hte
  have Hhr0 := Lib.hid hr0
  clear hr0
  have Hhl0 := Lib.hid hl0
  clear hl0
  have Hhps := Lib.hid hps
  clear hps
  have Hhrd := Lib.hid hrd
  clear hrd
  have Hhgd := Lib.hid hgd
  clear hgd
  have Hhgk := Lib.hid hgk
  clear hgk
  have HhG := Lib.hid hG
  clear hG
  have HhD := Lib.hid hD
  clear hD
  have HhDg := Lib.hid hDg
  clear hDg
  have HhDk := Lib.hid hDk
  clear hDk
  have HhH := Lib.hid hH
  clear hH
  have Hhput := Lib.hid hput
  clear hput
  have Hhnput := Lib.hid hnput
  clear hnput
  have Hhatk := Lib.hid hatk
  clear hatk
  have Hhkill := Lib.hid hkill
  clear hkill
  have Hhnot := Lib.hid hnot
  clear hnot
  have Hhpm := Lib.hid hpm
  clear hpm
  have Hhpn := Lib.hid hpn
  clear hpn
  have Hhca := Lib.hid hca
  clear hca
  have Hhnrs := Lib.hid hnrs
  clear hnrs
  have Hhgr := Lib.hid hgr
  clear hgr
  have Hhlr := Lib.hid hlr
  clear hlr
  have Hhokr := Lib.hid hokr
  clear hokr
  have HDN := Lib.hid hdn
  have HD' := Lib.hid hd'
  have HPL := Lib.hid hpl
  clear hu hf hpl g4 hdn hd'
  go_enter Try.func8, Try.ntmps8
  go_wp2_with fail
  refine (HAW.out _).mono ?_
  rintro e w1 ⟨rfl, hx1⟩
  have z0 := hx1.cell (p := ⟨w.heap.size, 0, none⟩) (by simp [go_sem]; rfl)
  have z1 := hx1.cell (p := ⟨w.heap.size, 1, none⟩) (by simp [go_sem]; rfl)
  have z2 := hx1.cell (p := ⟨w.heap.size, 2, none⟩) (by simp [go_sem]; rfl)
  have hcd : Cda w1 (w.heap.size + 1) d := ⟨hx1.cell (by simp [go_sem]), hx1.cell (by simp [go_sem]), hx1.cell (by simp [go_sem]), hx1.cell (by simp [go_sem]), hx1.cell (by simp [go_sem]), hx1.cell (by simp [go_sem]), hx1.cell (by simp [go_sem]), hx1.cell (by simp [go_sem]), hx1.cell (by simp [go_sem])⟩
  have hfd : ∀ j, w1.frozen? ⟨w.heap.size + 1, j, none⟩ = false := fun j => (World.frozen?_of_block (a := ⟨w.heap.size + 1, j, none⟩) (hx1.block (by first | (simp; done) | (simp; omega)))).trans (by simp [go_sem])
  have y0 := hx1.cell (p := ⟨w.heap.size + 2, 0, none⟩) (by simp [go_sem]; rfl)
  have y1 := hx1.cell (p := ⟨w.heap.size + 2, 1, none⟩) (by simp [go_sem]; rfl)
  have y2 := hx1.cell (p := ⟨w.heap.size + 2, 2, none⟩) (by simp [go_sem]; rfl)
  have y3 := hx1.cell (p := ⟨w.heap.size + 2, 3, none⟩) (by simp [go_sem]; rfl)
  have HX1 := Lib.hid (Hhx0.out _ _ _ _ hx1)
  have HCD1 := Lib.hid hcd
  have HFD := Lib.hid hfd
  have HZ0 := Lib.hid z0
  have HZ1 := Lib.hid z1
  have HZ2 := Lib.hid z2
  have HY0 := Lib.hid y0
  have HY1 := Lib.hid y1
  have HY2 := Lib.hid y2
  have HY3 := Lib.hid y3
  clear hx1 hcd hfd y0 y1 y2 y3
  go_wp2_with fail
  refine (HhG.out _ HX1.out).mono ?_
  rintro e w2 ⟨rfl, hx2⟩
  have HX12 := Lib.hid hx2
  have HX2 := Lib.hid (HX1.out.trans hx2)
  replace z1 := hx2.cell z1
  replace g1 := HX2.out.cell g1
  have hr4 : decide ((k : Int) < 0) = false := decide_eq_false (by omega)
  have hr5 : decide ((rs.length : Int) ≤ (k : Int)) = false := decide_eq_false (by omega)
  have hr6 : decide (rs.length ≤ k) = false := decide_eq_false (by omega)
  clear hx2 z0 z2
  go_wp2_with fail
  go_loop [10] (fun j => ∃ q : Nat, q ≤ k ∧ j = .int .i64 q ∧ ∀ p (hp : p < k), p < q → (rs[p]'(Nat.lt_trans hp hkl)).nr ≠ d'.nr) (fun j => k - (intOf j).toNat)
  case atStart => exact ⟨0, by omega, rfl, fun p hp h => by omega⟩
  case round =>
    obtain ⟨q, hq, rfl, hno⟩ := hrel
    have HNO := Lib.hid hno
    clear hno
    by_cases hqk : q < k
    · obtain ⟨b', o', v', e', p1, -, -, -⟩ := Hhca.out q (by omega)
      simp only [Option.some.injEq, Addr.mk.injEq, and_true] at e'
      obtain ⟨rfl, rfl⟩ := e'
      replace p1 := HX2.out.cell p1
      have hqe := Hhnrs.out q (by omega)
      have hqr : (q : Int) < (rs.length : Int) := by omega
      have d1 : decide ((q : Int) < (k : Int)) = true := decide_eq_true (by omega)
      have d2 : decide (q < k) = true := decide_eq_true hqk
      cases hnq : ((rs[q]'(by omega)).nr == nk)
      · rw [hnq] at hqe
        have hne : (rs[q]'(by omega)).nr ≠ d'.nr := by rw [HDN.out]; simpa using hnq
        have HNE := Lib.hid hne
        clear hne
        generalize hnqq : (rs[q]'(by omega)).nr = nq at p1 hqe hnq
        have HNQ := Lib.hid hnqq
        clear hnqq
        have Hhnq := Lib.hid hnq
        clear hnq
        go_wp2
        go_round
        case rel => exact ⟨q + 1, by omega, by go_num, fun p hp h => by
          rcases Nat.lt_or_ge p q with h' | h'
          · exact HNO.out p hp h'
          · obtain rfl : p = q := by omega
            exact HNE.out⟩
        case measure => simp [intOf]; omega
      · rw [hnq] at hqe
        generalize (rs[q]'(by omega)).nr = nq at *
        have Hhnq := Lib.hid hnq
        clear hnq
        go_wp2
        go_ret
        exact ⟨rfl, HX2.out⟩
    · obtain rfl : q = k := by omega
      have d1 : decide ((q : Int) < (q : Int)) = false := decide_eq_false (by omega)
      have f0 := (World.frozen?_of_block (a := ⟨w.heap.size + 1, 0, none⟩) (HX12.out.block (World.block_lt_of_cell? _ ⟨w.heap.size + 1, 0, none⟩ HCD1.out.c0))).trans (HFD.out 0)
      have e0 := HX12.out.cell HCD1.out.c0
      have hbl := World.block_lt_of_cell? _ _ e0
      have HALL : Hid (∀ j (h : j < q), (rs[j]'(Nat.lt_trans h hkl)).nr ≠ d'.nr) := Lib.hid (fun j h => HNO.out j h h)
      go_upto_region 12 with fail
      obtain ⟨W3, hW3⟩ : ∃ W3, W3 = w2.setCell ⟨w.heap.size + 1, 0, none⟩ (.int .u32 (nk : Int)) := ⟨_, rfl⟩
      have hcd3 : Cda W3 (w.heap.size + 1) d' := by rw [hW3, HD'.out]; exact (HCD1.out.ext HX12.out).nr nk
      have hx03 : Ext w W3 := by rw [hW3]; exact HX2.out.setCell (by simp) _
      have hz : ∀ (j : Nat) (v : Value), w1.cell? ⟨w.heap.size, j, none⟩ = some v → W3.cell? ⟨w.heap.size, j, none⟩ = some v := fun j v h => by
        rw [hW3, World.cell?_setCell_far _ _ _ _ (by dsimp only; omega)]; exact HX12.out.cell h
      have hy : ∀ (j : Nat) (v : Value), w1.cell? ⟨w.heap.size + 2, j, none⟩ = some v → W3.cell? ⟨w.heap.size + 2, j, none⟩ = some v := fun j v h => by
        rw [hW3, World.cell?_setCell_far _ _ _ _ (by dsimp only; omega)]; exact HX12.out.cell h
      rw [← hW3]
      have z0 := hz 0 _ HZ0.out
      have z1' := hz 1 _ HZ1.out
      have z2 := hz 2 _ HZ2.out
      have y0 := hy 0 _ HY0.out
      have y1 := hy 1 _ HY1.out
      have y2 := hy 2 _ HY2.out
      have y3 := hy 3 _ HY3.out
      have c0 := hcd3.c0
      have c1 := hcd3.c1
      have c2 := hcd3.c2
      have c3 := hcd3.c3
      have c4 := hcd3.c4
      have c5 := hcd3.c5
      have c6 := hcd3.c6
      have c7 := hcd3.c7
      have c8 := hcd3.c8
      have HZ0' := Lib.hid z0
      have HZ1' := Lib.hid z1'
      have HZ2' := Lib.hid z2
      have HY0' := Lib.hid y0
      have HY1' := Lib.hid y1
      have HY2' := Lib.hid y2
      have HY3' := Lib.hid y3
      have HCD3 := Lib.hid hcd3
      have HX03 := Lib.hid hx03
      clear z1 g1 f0 e0 hbl hcd3 hx03 hz hy hW3 d1 y0 y1 y2 y3
      go_wp2_with fail
      refine (HhD.out _ HX03.out).mono ?_
      rintro e w4 ⟨rfl, hx4⟩
      have HX34 := Lib.hid hx4
      replace c0 := hx4.cell c0
      replace c1 := hx4.cell c1
      replace c2 := hx4.cell c2
      replace c3 := hx4.cell c3
      replace c4 := hx4.cell c4
      replace c5 := hx4.cell c5
      replace c6 := hx4.cell c6
      replace c7 := hx4.cell c7
      replace c8 := hx4.cell c8
      have y0 := hx4.cell HY0'.out
      have y1 := hx4.cell HY1'.out
      have y2 := hx4.cell HY2'.out
      have y3 := hx4.cell HY3'.out
      clear hx4 z0 z1' z2
      have hHt := fun W => HhH.out ⟨ta, tm, tv, tx⟩ ht W
      have HHB : Hid (holdP d' ⟨ta, tm, tv, tx⟩ = holdsA ⟨ta, tm, tv, tx⟩ d') := Lib.hid rfl
      dsimp only at hHt
      generalize holdsA ⟨ta, tm, tv, tx⟩ d' = hb at *
      have HhHt := Lib.hid hHt
      clear hHt
      go_wp2_with fail
      refine (HhHt.out _).mono ?_
      rintro e w5 ⟨rfl, hx5⟩
      have HX35 := Lib.hid (HX34.out.trans hx5)
      clear hx5 c0 c1 c2 c3 c4 c5 c6 c7 c8 y0 y1 y2 y3
      have z1 := HX35.out.cell HZ1'.out
      have g1' := (HX03.out.trans HX35.out).cell g2
      go_wp2_with fail
      go_loopw [12, 13] (fun h j wr => ∃ p : Nat, p ≤ ts.length ∧ j = .int .i64 p ∧ h = .bool (!hb || (ts.take p).any (holdP d')) ∧ Ext W3 wr) (fun _ j _ => ts.length - (intOf j).toNat)
      case atStart => exact ⟨0, by omega, rfl, by simp, HX35.out⟩
      case round =>
        obtain ⟨p, hp, rfl, rfl, hx⟩ := hrel
        have HX := Lib.hid hx
        have z1 := hx.cell HZ1'.out
        have g2' := (HX03.out.trans hx).cell g2
        have hqi : (q : Int) < (rs.length : Int) := by omega
        by_cases hpt : p < ts.length
        · obtain ⟨b3, o3, rfl, t0, t1, t2, t3⟩ := Hhte.out p hpt
          have hw := HX03.out.trans hx
          have t0x := xwc (hw.cell t0)
          have t1x := xwc (hw.cell t1)
          have t2x := xwc (hw.cell t2)
          have t3x := xwc (hw.cell t3)
          have z1x := xwc z1
          have g2x := xwc g2'
          have hcd := HCD3.out.ext hx
          have d0x := xwc hcd.c0
          have d1x := xwc hcd.c1
          have d2x := xwc hcd.c2
          have d3x := xwc hcd.c3
          have d4x := xwc hcd.c4
          have d5x := xwc hcd.c5
          have d6x := xwc hcd.c6
          have d7x := xwc hcd.c7
          have d8x := xwc hcd.c8
          have hst := any_step (d := d') hpt
          have hHs := fun W => HhH.out (ts[p]'hpt) (HTOK.out _ (List.getElem_mem hpt)) W
          have hhp : holdP d' (ts[p]'hpt) = holdsA (ts[p]'hpt) d' := rfl
          rw [hhp] at hst
          generalize holdsA (ts[p]'hpt) d' = hs at *
          generalize ts[p]'hpt = s at *
          obtain ⟨sa, sm, sv, sx⟩ := s
          dsimp only at *
          have HST : Hid ((!hb || (ts.take (p + 1)).any (holdP d')) = ((!hb || (ts.take p).any (holdP d')) || hs)) := Lib.hid (by rw [hst, Bool.or_assoc])
          have HhHs := Lib.hid hHs
          clear hHs
          clear hst hhp hx hw hcd t0 t1 t2 t3
          cases hv : (!hb || (ts.take p).any (holdP d'))
          · rw [hv, Bool.false_or] at HST
            have Hhv := Lib.hid hv
            clear hv
            go_wp2_with fail
            refine wp_region_kept (by kernel_rfl) (by kernel_rfl) ?_
            repeat (any_goals (first | go_big_quiet_step ((go_at_call 25; exact calls_kept (HhHs.out _))) | quiet_step ((go_at_call 25; exact calls_kept (HhHs.out _)))))
            all_goals (refine wpQuiet_nil ?_; intro _ hw9; obtain ⟨xq, hw8⟩ := hw9; subst hw8)
            go_wp2
            go_roundw
            case rel => exact ⟨p + 1, by omega, by go_num, by rw [HST.out], HX.out.trans xq.h⟩
            case measure => simp [intOf]; omega
          · rw [hv, Bool.true_or] at HST
            have Hhv := Lib.hid hv
            clear hv
            clear t0x t1x t2x t3x d0x d1x d2x d3x d4x d5x d6x d7x d8x
            go_wp2_with fail
            refine wp_region_kept (by kernel_rfl) (by kernel_rfl) ?_
            repeat (any_goals (first | go_big_quiet_step (fail) | quiet_step (fail)))
            all_goals (refine wpQuiet_nil ?_; intro _ hw9; obtain ⟨xq, hw8⟩ := hw9; subst hw8)
            go_wp2
            go_roundw
            case rel => exact ⟨p + 1, by omega, by go_num, by rw [HST.out], HX.out.trans xq.h⟩
            case measure => simp [intOf]; omega
        · obtain rfl : p = ts.length := by omega
          rw [List.take_length]
          have z0 := hx.cell HZ0'.out
          have z2 := hx.cell HZ2'.out
          have q1 := fun o => ((Ext.refl wr).alloc o).cell z1
          have HWR := Lib.hid (HX03.out.trans hx)
          clear hx
          generalize hheld : (!hb || ts.any (holdP d')) = held
          have Hhheld := Lib.hid hheld
          clear hheld
          go_upto_region 20 with (at_builtin; refine wpList_app_rd rfl (.tmp 93) (.tmp 95) _ rfl Try.underlying22 infoR9 rfl (by decide) encP_len encP_one (wr.alloc (.cells #[.int .i64 ar, .slice none 0 0, .int .u32 (df : Int)] 25)) _ _ [] ps rfl rfl (World.ownsRow_nil _ _ _ _) (Hhrd.out.ext (HWR.out.alloc _)) (by rw [Hhl0.out, HPL.out]; omega) (by decide) (Ext.refl _) ?_; intro au cu w8 ho8 hx8; rw [Hhl0.out, List.nil_append] at ho8; rw [Hhl0.out]; have HO8 := Lib.hid ho8; have HX8 := Lib.hid hx8; have b1 := hx8.cell (p := ⟨wr.heap.size, 1, none⟩) (by simp [go_sem]; rfl); have f1 : w8.frozen? ⟨wr.heap.size, 1, none⟩ = false := (World.frozen?_of_block (a := ⟨wr.heap.size, 1, none⟩) (hx8.block (by simp))).trans (by simp [go_sem]); have hbb := World.block_lt_of_cell? _ _ b1; clear ho8 hx8 q1)
          obtain ⟨W8, hW8⟩ : ∃ W8, W8 = w8.setCell ⟨wr.heap.size, 1, none⟩ (.slice au ps.length cu) := ⟨_, rfl⟩
          have hx8 : Ext wr W8 := by rw [hW8]; exact (((Ext.refl wr).alloc _).trans HX8.out).setCell (Nat.le_refl _) _
          have ho8 : W8.ownsRow (wr.heap.size + 1) 34 3 (.slice au ps.length cu) ps.length (ps.flatMap encP) := by
            rw [hW8]; exact own_set (own_base HO8.out (by simp)) (by dsimp only; omega) _
          have v0 : W8.cell? ⟨wr.heap.size, 0, none⟩ = some (.int .i64 ar) := by rw [hW8, set_ne _ (by omega)]; exact HX8.out.cell (by simp [go_sem])
          have v1 : W8.cell? ⟨wr.heap.size, 1, none⟩ = some (.slice au ps.length cu) := by rw [hW8]; exact World.cell?_setCell_same' _ _ _ (by rw [b1]; rfl)
          have v2 : W8.cell? ⟨wr.heap.size, 2, none⟩ = some (.int .u32 (df : Int)) := by rw [hW8, set_ne _ (by omega)]; exact HX8.out.cell (by simp [go_sem])
          rw [← hW8]
          obtain ⟨g, cg, hge, hgb, hgl, hgf⟩ := own_parts ho8 (by omega)
          simp only [Value.slice.injEq] at hge
          obtain ⟨rfl, -, rfl⟩ := hge
          have HX8' := Lib.hid hx8
          have HO8' := Lib.hid ho8
          have HV0 := Lib.hid v0
          have HV1 := Lib.hid v1
          have HV2 := Lib.hid v2
          have HGB := Lib.hid hgb
          have HGL := Lib.hid hgl
          have HGF := Lib.hid hgf
          clear hx8 ho8 v0 v1 v2 hgb hgl hgf hW8 b1 f1 hbb z0 z1 z2 g1' g2'
          obtain ⟨C, hC, hmk⟩ := mk40
          have HhC := Lib.hid hC
          clear hC
          have hl0t : ([] : List Test).length + ts.length = ts.length := by simp
          have Hhl0t := Lib.hid hl0t
          clear hl0t
          have htwo := two_rooms (W := W8) HhC.out
          have HTWO := Lib.hid htwo
          clear htwo
          go_region
          · obtain ⟨W9, hW9⟩ : ∃ W9, W9 = ((W8.alloc (.cells C 37)).alloc (.cells C 37)).drew := ⟨_, rfl⟩
            rw [← hW9] at HTWO
            rw [← hW9]
            have HSZ := Lib.hid HTWO.out.2.2.1
            have HX89 := Lib.hid HTWO.out.2.2.2
            obtain ⟨gb, hgb⟩ : ∃ gb, gb = W8.heap.size := ⟨_, rfl⟩
            obtain ⟨ga, hga⟩ : ∃ ga, ga = W8.heap.size + 1 := ⟨_, rfl⟩
            have HOB0 := HTWO.out.1
            have HOB : W9.ownsRow W8.heap.size 37 4 (.slice (some ⟨gb, 0, none⟩) 0 40) 0 (([] : List Test).flatMap encT) := by rw [hgb]; exact HOB0
            have HOA' : W9.ownsRow W8.heap.size 37 4 (.slice (some ⟨ga, 0, none⟩) 0 40) 0 (([] : List Test).flatMap encT) := by rw [hga]; exact HTWO.out.2.1
            rw [← hga, ← hgb]
            have hne : gb ≠ ga := by omega
            have hgb1 : gb < W9.heap.size := by have := HSZ.out; omega
            have hga1 : ga < W9.heap.size := by have := HSZ.out; omega
            have hgb2 : W8.heap.size ≤ gb := by omega
            have hga2 : W8.heap.size ≤ ga := by omega
            have HB9 := Lib.hid HOB
            have HA9 := Lib.hid HOA'
            clear HOB HOA' hW9 hgb hga HTWO hmk
            try clear HOA
            try clear HOB0
            have HX39 := Lib.hid ((HX.out.trans HX8'.out).trans HX89.out)
            have HX09 := Lib.hid (HX03.out.trans HX39.out)
            have z1 := HX39.out.cell HZ1'.out
            have g2q := HX09.out.cell g2
            go_upto_region 25 with (first
              | (at_builtin
                 refine wpList_app_sep rfl (.tmp 100) (.tmp 106) _ rfl Try.underlying32 infoT9 rfl (by decide) encT_len encT_one W8.heap.size gb 40 _ [] ts rfl rfl HB9.out (HG4.out.ext HX09.out) (by rw [Hhl0t.out]; omega) (by decide) (by have := HSZ.out; omega) ?_
                 intro gb1 cb1 w10 ho10 hg10 hs10
                 rw [Hhl0t.out, List.nil_append] at ho10
                 rw [Hhl0t.out]
                 have hb10 : gb1 ≠ ga := by omega
                 have hz10 := (ho10.lt gb1 rfl).2
                 have hq10 := hg10.size
                 have HX8a := Lib.hid (HX89.out.grown hg10 (fun k e => by simp only [Option.some.injEq] at e; omega))
                 have HAa := Lib.hid (HA9.out.kept hg10 (.inr (by simp only [Value.ownBlock, ne_eq, Option.some.injEq]; omega)))
                 have HBa := Lib.hid ho10
                 have HGBa := Lib.hid (ho10.lt gb1 rfl).1
                 have HX3a := Lib.hid ((HX.out.trans HX8'.out).trans HX8a.out)
                 have y0 := HX3a.out.cell HY0'.out
                 have y1 := HX3a.out.cell HY1'.out
                 have y2 := HX3a.out.cell HY2'.out
                 have y3 := HX3a.out.cell HY3'.out
                 clear ho10 hg10 z1 g2q)
              | (at_builtin
                 refine wpList_app_sep rfl (.tmp 108) (.tmp 110) _ rfl Try.underlying32 infoT9 rfl (by decide) encT_len encT_one W8.heap.size gb1 cb1 _ ts [⟨ta, tm, tv, tx⟩] rfl rfl (HBa.out.alloc _) (rd_lit encT_len w10 [⟨ta, tm, tv, tx⟩] _ _ rfl) (by simp; omega) (by decide) (by simp; omega) ?_
                 intro gb2 cb2 w11 ho11 hg11 hs11
                 rw [World.size_alloc] at hs11
                 have hb11 : gb2 ≠ ga := by omega
                 have hz11 := (ho11.lt gb2 rfl).2
                 have hq11 := hg11.size
                 rw [World.size_alloc] at hq11
                 have HX8b := Lib.hid ((HX8a.out.alloc _).grown hg11 (fun k e => by simp only [Option.some.injEq] at e; have := HGBa.out; omega))
                 have HAb := Lib.hid ((HAa.out.alloc _).kept hg11 (.inr (by simp only [Value.ownBlock, ne_eq, Option.some.injEq]; omega)))
                 have HBb := Lib.hid ho11
                 have HGBb := Lib.hid (ho11.lt gb2 rfl).1
                 have HX3b := Lib.hid ((HX.out.trans HX8'.out).trans HX8b.out)
                 clear y0 y1 y2 y3
                 have y0 := HX3b.out.cell HY0'.out
                 have y1 := HX3b.out.cell HY1'.out
                 have y2 := HX3b.out.cell HY2'.out
                 have y3 := HX3b.out.cell HY3'.out
                 clear ho11 hg11)
              | (at_builtin
                 refine wpList_app_sep rfl (.tmp 112) (.tmp 114) _ rfl Try.underlying32 infoT9 rfl (by decide) encT_len encT_one W8.heap.size ga 40 _ [] [⟨ta, tm, tv, tx⟩] rfl rfl (HAb.out.alloc _) (rd_lit encT_len w11 [⟨ta, tm, tv, tx⟩] _ _ rfl) (by simp) (by decide) (by simp; omega) ?_
                 intro ga1 ca1 w12 ho12 hg12 hs12
                 rw [World.size_alloc] at hs12
                 have hb12 : gb2 ≠ ga1 := by omega
                 have hq12 := hg12.size
                 rw [World.size_alloc] at hq12
                 have HX8c := Lib.hid ((HX8b.out.alloc _).grown hg12 (fun k e => by simp only [Option.some.injEq] at e; omega))
                 have HBc := Lib.hid ((HBb.out.alloc _).kept hg12 (.inr (by simp only [Value.ownBlock, ne_eq, Option.some.injEq]; omega)))
                 have HAc := Lib.hid ho12
                 have HGAc := Lib.hid (ho12.lt ga1 rfl).1
                 have HX3c := Lib.hid ((HX.out.trans HX8'.out).trans HX8c.out)
                 have HX0c := Lib.hid (HX03.out.trans HX3c.out)
                 clear y0 y1 y2 y3
                 have z1 := HX3c.out.cell HZ1'.out
                 have g2q := HX0c.out.cell g2
                 clear ho12 hg12)
              | (at_builtin
                 refine wpList_app_sep rfl (.tmp 116) (.tmp 122) _ rfl Try.underlying32 infoT9 rfl (by decide) encT_len encT_one W8.heap.size ga1 ca1 _ [⟨ta, tm, tv, tx⟩] ts rfl rfl HAc.out (HG4.out.ext HX0c.out) (by simp; omega) (by decide) (by omega) ?_
                 intro ga2 ca2 w13 ho13 hg13 hs13
                 have HX8d := Lib.hid (HX8c.out.grown hg13 (fun k e => by simp only [Option.some.injEq] at e; have := HGAc.out; omega))
                 have HBd := Lib.hid (HBc.out.kept hg13 (.inr (by simp only [Value.ownBlock, ne_eq, Option.some.injEq]; omega)))
                 have HAd := Lib.hid ho13
                 clear z1 g2q ho13 hg13))
            have hlB : (ts ++ [(⟨ta, tm, tv, tx⟩ : Test)]).length = ts.length + 1 := by simp
            have hlA : ((⟨ta, tm, tv, tx⟩ : Test) :: ts).length = 1 + ts.length := by simp; omega
            have hRB : Rd w13 4 encT (.slice (some ⟨gb2, 0, none⟩) (ts.length + 1) cb2) (ts ++ [⟨ta, tm, tv, tx⟩]) := by
              have h := HBd.out
              rw [← List.length_append] at h
              have h2 := rd_of_own encT_len h
              rw [hlB] at h2
              exact h2
            have hRA : Rd w13 4 encT (.slice (some ⟨ga2, 0, none⟩) (1 + ts.length) ca2) (⟨ta, tm, tv, tx⟩ :: ts) := by
              have h := HAd.out
              rw [← List.length_append] at h
              have h2 := rd_of_own encT_len h
              rw [List.singleton_append, hlA] at h2
              exact h2
            have hB2 : W8.heap.size ≤ gb2 := (HBd.out.lt gb2 rfl).1
            have hA2 : W8.heap.size ≤ ga2 := (HAd.out.lt ga2 rfl).1
            have hgl := HGL.out
            have hgb' := HGB.out
            have ho13 := own_ext HO8'.out HX8d.out
            have hBeq : held = true → denA ⟨ar, rs.set q ⟨nk, ts ++ [⟨ta, tm, tv, tx⟩], ra⟩, df⟩ d' = dn := fun h => by
              cases how : ow
              · rw [Hhnput.out how, Hhnot.out how]
              · rw [Hhput.out HALL.out how, Hhatk.out HALL.out how, fstA_behind (by rw [HHB.out, Hhheld.out]; exact h)]
            have hAeq0 : ow = false → denA ⟨ar, rs.set q ⟨nk, ⟨ta, tm, tv, tx⟩ :: ts, ra⟩, df⟩ d' = 2147418112 := fun how => Hhnput.out how _
            have hAeq1 : ow = true → denA ⟨ar, rs.set q ⟨nk, ⟨ta, tm, tv, tx⟩ :: ts, ra⟩, df⟩ d' = if hb = true then tx else dn := fun how => by
              rw [Hhput.out HALL.out how, fstA_cons, HHB.out, ← Hhatk.out HALL.out how]
            have hDB := fun v W h => HhDg.out (ts ++ [⟨ta, tm, tv, tx⟩]) (by rw [hlB]; omega) (fun s hs => by
              rcases List.mem_append.1 hs with h | h
              · exact HTOK.out s h
              · rw [List.mem_singleton] at h; rw [h]; exact ht) v W h
            have hDA := fun v W h => HhDg.out (⟨ta, tm, tv, tx⟩ :: ts) (by rw [hlA]; omega) (fun s hs => by
              cases hs with
              | head => exact ht
              | tail _ h => exact HTOK.out s h) v W h
            have hpB := fun a c => Hhpm.out (ts ++ [⟨ta, tm, tv, tx⟩]) a c
            have hpA := fun a c => Hhpm.out (⟨ta, tm, tv, tx⟩ :: ts) a c
            have hpr := Hhpn.out
            have hnkk : (ps[q]'hpk).r.nr = nk := by rw [hpr]
            have hraa : (ps[q]'hpk).r.action = ra := by rw [hpr]
            have HNK := Lib.hid hnkk
            have HRA := Lib.hid hraa
            clear hnkk hraa hpr
            generalize denA ⟨ar, rs.set q ⟨nk, ts ++ [⟨ta, tm, tv, tx⟩], ra⟩, df⟩ d' = dB at *
            generalize denA ⟨ar, rs.set q ⟨nk, ⟨ta, tm, tv, tx⟩ :: ts, ra⟩, df⟩ d' = dA at *
            obtain ⟨a', c', e', -, -, hcell⟩ := rd_of_own encP_len ho13
            simp only [Value.slice.injEq] at e'
            obtain ⟨rfl, -, rfl⟩ := e'
            obtain ⟨b', o', e', hat⟩ := hcell q hpk
            simp only [Option.some.injEq, Addr.mk.injEq, and_true] at e'
            obtain ⟨rfl, rfl⟩ := e'
            have t1 := hat 1 (by simp [encP])
            simp only [Nat.zero_add, encP, List.getElem_cons_zero, List.getElem_cons_succ] at t1
            have fg1 := (World.frozen?_of_block (a := ⟨g, q * 3 + 1, none⟩) (HX8d.out.block hgl)).trans (HGF.out (q * 3 + 1))
            have v1 := HX8d.out.cell HV1.out
            have hgz := World.block_lt_of_cell? _ _ t1
            have hkp : (q : Int) < (ps.length : Int) := by omega
            have hx3d := (HX.out.trans HX8'.out).trans HX8d.out
            have HX3d := Lib.hid hx3d
            have HRB := Lib.hid hRB
            have HRAA := Lib.hid hRA
            have HO13 := Lib.hid ho13
            have HhBeq := Lib.hid hBeq
            clear hBeq
            have HhAeq0 := Lib.hid hAeq0
            clear hAeq0
            have HhAeq1 := Lib.hid hAeq1
            clear hAeq1
            have HhDB := Lib.hid hDB
            clear hDB
            have HhDA := Lib.hid hDA
            clear hDA
            have HhpB := Lib.hid hpB
            clear hpB
            have HhpA := Lib.hid hpA
            clear hpA
            have HhlB := Lib.hid hlB
            clear hlB
            have HhlA := Lib.hid hlA
            clear hlA
            clear hRB hRA ho13 hcell hat hx3d
            go_upto_region 26 with fail
            obtain ⟨W14, hW14⟩ : ∃ W14, W14 = w13.setCell ⟨g, q * 3 + 1, none⟩ (.slice (some ⟨gb2, 0, none⟩) (ts.length + 1) cb2) := ⟨_, rfl⟩
            have ho14 : W14.ownsRow (wr.heap.size + 1) 34 3 (.slice (some ⟨g, 0, none⟩) ps.length cu) ps.length ((ps.set q ⟨⟨nk, ts ++ [⟨ta, tm, tv, tx⟩], ra⟩, some ⟨gb2, 0, none⟩, cb2⟩).flatMap encP) := by
              have h := own_tests HO13.out hpk (ts ++ [⟨ta, tm, tv, tx⟩]) (some ⟨gb2, 0, none⟩) cb2
              rw [HNK.out, HRA.out, HhlB.out] at h
              rw [hW14]; exact h
            have hx14 : Ext W3 W14 := by rw [hW14]; exact HX3d.out.setCell (by have := HX.out.size; dsimp only; omega) _
            have hxw14 := HX03.out.trans hx14
            have hRB14 : Rd W14 4 encT (.slice (some ⟨gb2, 0, none⟩) (ts.length + 1) cb2) (ts ++ [⟨ta, tm, tv, tx⟩]) := by
              rw [hW14]; exact Rd.setCell HRB.out (fun b o e => by simp only [Option.some.injEq, Addr.mk.injEq] at e; dsimp only; omega) _
            have hRA14 : Rd W14 4 encT (.slice (some ⟨ga2, 0, none⟩) (1 + ts.length) ca2) (⟨ta, tm, tv, tx⟩ :: ts) := by
              rw [hW14]; exact Rd.setCell HRAA.out (fun b o e => by simp only [Option.some.injEq, Addr.mk.injEq] at e; dsimp only; omega) _
            have hr14 : RdR W14 3 (IsR W14) (.slice (some ⟨g, 0, none⟩) ps.length cu) (rs.set q ⟨nk, ts ++ [⟨ta, tm, tv, tx⟩], ra⟩) := rd_set ho14 (fun p h => (Hhgd.out p h).ext hxw14)
              (by show Rd W14 4 encT (.slice (some ⟨gb2, 0, none⟩) (ts ++ [(⟨ta, tm, tv, tx⟩ : Test)]).length cb2) _; rw [HhlB.out]; exact hRB14) (HhpB.out _ _)
            have hv : ∀ (j : Nat) (v : Value), W8.cell? ⟨wr.heap.size, j, none⟩ = some v → W14.cell? ⟨wr.heap.size, j, none⟩ = some v := fun j v h => by
              rw [hW14, World.cell?_setCell_far _ _ _ _ (by dsimp only; omega)]; exact HX8d.out.cell h
            have v0 := hv 0 _ HV0.out
            have v1' := hv 1 _ HV1.out
            have v2 := hv 2 _ HV2.out
            have hf14 : ∀ j, W14.frozen? ⟨g, j, none⟩ = false := fun j => by rw [hW14, World.frozen?_setCell]; exact (World.frozen?_of_block (a := ⟨g, j, none⟩) (HX8d.out.block hgl)).trans (HGF.out j)
            have hg14 : g < W14.heap.size := by rw [hW14]; simpa using hgz
            have ht14 : W14.cell? ⟨g, q * 3 + 1, none⟩ = some (.slice (some ⟨gb2, 0, none⟩) (ts.length + 1) cb2) := by rw [hW14]; exact World.cell?_setCell_same' _ _ _ (by rw [t1]; rfl)
            rw [← hW14]
            have HO14 := Lib.hid ho14
            have HX14 := Lib.hid hx14
            have HRA14 := Lib.hid hRA14
            have HR14 := Lib.hid hr14
            have HV0' := Lib.hid v0
            have HV1' := Lib.hid v1'
            have HV2' := Lib.hid v2
            have HF14 := Lib.hid hf14
            have HT14 := Lib.hid ht14
            have hcd := HCD3.out.ext hx14
            have c0 := hcd.c0
            have c1 := hcd.c1
            have c2 := hcd.c2
            have c3 := hcd.c3
            have c4 := hcd.c4
            have c5 := hcd.c5
            have c6 := hcd.c6
            have c7 := hcd.c7
            have c8 := hcd.c8
            have hW16 : ∃ f : Prop, f := ⟨True, trivial⟩
            clear hW16 hv hf14 ht14 hr14 hRA14 hRB14 ho14 hxw14 hcd hW14 t1 fg1 v1 hx14
            have hmid : ∀ W16 (hx : Ext W14 W16), True := fun _ _ => trivial
            clear hmid
            have hdd : ((dB : Int) != (dn : Int)) = !(dB == dn) := by rw [Bool.eq_iff_iff]; simp; omega
            cases hhe : held
            case' true =>
              have hde : (dB == dn) = true := by rw [HhBeq.out hhe]; simp
              rw [hde] at hdd
              have HDE := Lib.hid hde
              clear hde
              go_wp2_with fail
              refine (HhDB.out _ _ HR14.out).mono ?_
              rintro e w16 ⟨rfl, hx16⟩
            case' false =>
              obtain ⟨w16, hw16⟩ : ∃ w16, w16 = W14 := ⟨_, rfl⟩
              have hx16 : Ext W14 w16 := by rw [hw16]; exact Ext.refl _
              go_upto_region 28 with fail
              rw [← hw16]
              clear hw16
            all_goals
              have HX16 := Lib.hid hx16
              have v1 := hx16.cell HV1'.out
              have t1 := hx16.cell HT14.out
              have fg1 := (World.frozen?_of_block (a := ⟨g, q * 3 + 1, none⟩) (hx16.block hg14)).trans (HF14.out (q * 3 + 1))
              have hgz2 := World.block_lt_of_cell? _ _ t1
              have ho16 := own_ext HO14.out hx16
              have hRA16 := HRA14.out.ext hx16
              have HO16 := Lib.hid ho16
              have HRA16 := Lib.hid hRA16
              have HX316 := Lib.hid (HX14.out.trans hx16)
              clear ho16 hRA16 hx16 c0 c1 c2 c3 c4 c5 c6 c7 c8 v0 v1' v2
              go_upto_region 29 with fail
              obtain ⟨W17, hW17⟩ : ∃ W17, W17 = w16.setCell ⟨g, q * 3 + 1, none⟩ (.slice (some ⟨ga2, 0, none⟩) (1 + ts.length) ca2) := ⟨_, rfl⟩
              have ho17 : W17.ownsRow (wr.heap.size + 1) 34 3 (.slice (some ⟨g, 0, none⟩) ps.length cu) ps.length ((ps.set q ⟨⟨nk, ⟨ta, tm, tv, tx⟩ :: ts, ra⟩, some ⟨ga2, 0, none⟩, ca2⟩).flatMap encP) := by
                have hls : (ps.set q ⟨⟨nk, ts ++ [⟨ta, tm, tv, tx⟩], ra⟩, some ⟨gb2, 0, none⟩, cb2⟩).length = ps.length := List.length_set
                have h0 := HO16.out
                rw [← hls] at h0
                have h := own_tests h0 (i := q) (by rw [hls]; exact hpk) (⟨ta, tm, tv, tx⟩ :: ts) (some ⟨ga2, 0, none⟩) ca2
                rw [List.set_set, List.getElem_set_self, hls, HhlA.out] at h
                rw [hW17]; exact h
              have hx17 : Ext W3 W17 := by rw [hW17]; exact HX316.out.setCell (by have := HX.out.size; dsimp only; omega) _
              have hxw17 := HX03.out.trans hx17
              have hRA17 : Rd W17 4 encT (.slice (some ⟨ga2, 0, none⟩) (1 + ts.length) ca2) (⟨ta, tm, tv, tx⟩ :: ts) := by
                rw [hW17]; exact Rd.setCell HRA16.out (fun b o e => by simp only [Option.some.injEq, Addr.mk.injEq] at e; dsimp only; omega) _
              have hr17 : RdR W17 3 (IsR W17) (.slice (some ⟨g, 0, none⟩) ps.length cu) (rs.set q ⟨nk, ⟨ta, tm, tv, tx⟩ :: ts, ra⟩) := rd_set ho17 (fun p h => (Hhgd.out p h).ext hxw17)
                (by show Rd W17 4 encT (.slice (some ⟨ga2, 0, none⟩) ((⟨ta, tm, tv, tx⟩ : Test) :: ts).length ca2) _; rw [HhlA.out]; exact hRA17) (HhpA.out _ _)
              have hv : ∀ (j : Nat) (v : Value), W14.cell? ⟨wr.heap.size, j, none⟩ = some v → W17.cell? ⟨wr.heap.size, j, none⟩ = some v := fun j v h => by
                rw [hW17, World.cell?_setCell_far _ _ _ _ (by dsimp only; omega)]; exact HX16.out.cell h
              have v0 := hv 0 _ HV0'.out
              have v1' := hv 1 _ HV1'.out
              have v2 := hv 2 _ HV2'.out
              rw [← hW17]
              have HX17 := Lib.hid hx17
              have HR17 := Lib.hid hr17
              have hcd := HCD3.out.ext hx17
              have c0 := hcd.c0
              have c1 := hcd.c1
              have c2 := hcd.c2
              have c3 := hcd.c3
              have c4 := hcd.c4
              have c5 := hcd.c5
              have c6 := hcd.c6
              have c7 := hcd.c7
              have c8 := hcd.c8
              clear hv hr17 hRA17 ho17 hxw17 hcd hW17 t1 fg1 v1 hx17
              go_wp2_with fail
              refine (HhDA.out _ _ HR17.out).mono ?_
              rintro e w18 ⟨rfl, hx18⟩
              have HX18 := Lib.hid (HX17.out.trans hx18)
              clear hx18 c0 c1 c2 c3 c4 c5 c6 c7 c8 v0 v1' v2
              have z0 := HX18.out.cell HZ0'.out
              have hcd := HCD3.out.ext HX18.out
              have c0 := hcd.c0
              have c1 := hcd.c1
              have c2 := hcd.c2
              have c3 := hcd.c3
              have c4 := hcd.c4
              have c5 := hcd.c5
              have c6 := hcd.c6
              have c7 := hcd.c7
              have c8 := hcd.c8
              clear hcd
              cases how : ow
              · rw [how] at HhDk
                simp only [Bool.false_eq_true, if_false] at HhDk
                have hn1 : ((dA : Int) == 2147418112) = true := by rw [HhAeq0.out how]; rfl
                have hn2 : ((dn : Int) == 2147418112) = true := by rw [Hhnot.out how]; rfl
                go_wp2_with fail
                refine (HhDk.out _).mono ?_
                rintro e w19 ⟨rfl, hx19⟩
                go_wp2_with fail
                go_ret
                exact ⟨rfl, HX03.out.trans (HX18.out.trans hx19)⟩
              · rw [how] at HhDk
                simp only [if_true] at HhDk
                have HA1 := Lib.hid (HhAeq1.out how)
                have Hhow := Lib.hid how
                clear how
                go_wp2_with fail
                refine (HhDk.out _).mono ?_
                rintro e w19 ⟨rfl, hx19⟩
                have HX19 := Lib.hid (HX18.out.trans hx19)
                replace c0 := hx19.cell c0
                replace c1 := hx19.cell c1
                replace c2 := hx19.cell c2
                replace c3 := hx19.cell c3
                replace c4 := hx19.cell c4
                replace c5 := hx19.cell c5
                replace c6 := hx19.cell c6
                replace c7 := hx19.cell c7
                replace c8 := hx19.cell c8
                have y0 := HX19.out.cell HY0'.out
                have y1 := HX19.out.cell HY1'.out
                have y2 := HX19.out.cell HY2'.out
                have y3 := HX19.out.cell HY3'.out
                clear hx19 z0
                cases hhb : hb
                · have hA1 := HA1.out
                  rw [hhb] at HhHt hA1
                  have Hhhb := Lib.hid hhb
                  clear hhb
                  simp only [Bool.false_eq_true, if_false] at hA1
                  have hn1 : ((dA : Int) == (dn : Int)) = true := by rw [hA1]; simp
                  have HhA1 := Lib.hid hA1
                  clear hA1
                  go_wp2_with fail
                  refine (HhHt.out _).mono ?_
                  rintro e w20 ⟨rfl, hx20⟩
                  go_wp2_with fail
                  go_ret
                  exact ⟨rfl, HX03.out.trans (HX19.out.trans hx20)⟩
                · have hA1 := HA1.out
                  rw [hhb] at HhHt hA1
                  have Hhhb := Lib.hid hhb
                  clear hhb
                  simp only [if_true] at hA1
                  have hn1 : ((dA : Int) == (tx : Int)) = true := by rw [hA1]; simp
                  have HhA1 := Lib.hid hA1
                  clear hA1
                  go_wp2_with fail
                  refine (HhHt.out _).mono ?_
                  rintro e w20 ⟨rfl, hx20⟩
                  replace c0 := hx20.cell c0
                  replace c1 := hx20.cell c1
                  replace c2 := hx20.cell c2
                  replace c3 := hx20.cell c3
                  replace c4 := hx20.cell c4
                  replace c5 := hx20.cell c5
                  replace c6 := hx20.cell c6
                  replace c7 := hx20.cell c7
                  replace c8 := hx20.cell c8
                  replace y0 := hx20.cell y0
                  replace y1 := hx20.cell y1
                  replace y2 := hx20.cell y2
                  replace y3 := hx20.cell y3
                  have HX20 := Lib.hid (HX19.out.trans hx20)
                  clear hx20
                  go_wp2_with fail
                  refine (HhHt.out _).mono ?_
                  rintro e w21 ⟨rfl, hx21⟩
                  replace y3 := hx21.cell y3
                  have HX21 := Lib.hid (HX20.out.trans hx21)
                  clear hx21 c0 c1 c2 c3 c4 c5 c6 c7 c8 y0 y1 y2
                  go_wp2_with fail
                  go_ret
                  exact ⟨rfl, HX03.out.trans HX21.out⟩
          · obtain ⟨W9, hW9⟩ : ∃ W9, W9 = ((W8.alloc (.cells C 37)).alloc (.cells C 37)).drew := ⟨_, rfl⟩
            rw [← hW9] at HTWO
            rw [← hW9]
            have HSZ := Lib.hid HTWO.out.2.2.1
            have HX89 := Lib.hid HTWO.out.2.2.2
            obtain ⟨gb, hgb⟩ : ∃ gb, gb = W8.heap.size + 1 := ⟨_, rfl⟩
            obtain ⟨ga, hga⟩ : ∃ ga, ga = W8.heap.size := ⟨_, rfl⟩
            have HOB := HTWO.out.2.1
            have HOA := HTWO.out.1
            rw [← hgb] at HOB
            have HOA' : W9.ownsRow W8.heap.size 37 4 (.slice (some ⟨ga, 0, none⟩) 0 40) 0 (([] : List Test).flatMap encT) := by rw [hga]; exact HOA
            rw [← hgb, ← hga]
            have hne : gb ≠ ga := by omega
            have hgb1 : gb < W9.heap.size := by have := HSZ.out; omega
            have hga1 : ga < W9.heap.size := by have := HSZ.out; omega
            have hgb2 : W8.heap.size ≤ gb := by omega
            have hga2 : W8.heap.size ≤ ga := by omega
            have HB9 := Lib.hid HOB
            have HA9 := Lib.hid HOA'
            clear HOB HOA' hW9 hgb hga HTWO hmk
            try clear HOA
            try clear HOB0
            have HX39 := Lib.hid ((HX.out.trans HX8'.out).trans HX89.out)
            have HX09 := Lib.hid (HX03.out.trans HX39.out)
            have z1 := HX39.out.cell HZ1'.out
            have g2q := HX09.out.cell g2
            go_upto_region 25 with (first
              | (at_builtin
                 refine wpList_app_sep rfl (.tmp 100) (.tmp 106) _ rfl Try.underlying32 infoT9 rfl (by decide) encT_len encT_one W8.heap.size gb 40 _ [] ts rfl rfl HB9.out (HG4.out.ext HX09.out) (by rw [Hhl0t.out]; omega) (by decide) (by have := HSZ.out; omega) ?_
                 intro gb1 cb1 w10 ho10 hg10 hs10
                 rw [Hhl0t.out, List.nil_append] at ho10
                 rw [Hhl0t.out]
                 have hb10 : gb1 ≠ ga := by omega
                 have hz10 := (ho10.lt gb1 rfl).2
                 have hq10 := hg10.size
                 have HX8a := Lib.hid (HX89.out.grown hg10 (fun k e => by simp only [Option.some.injEq] at e; omega))
                 have HAa := Lib.hid (HA9.out.kept hg10 (.inr (by simp only [Value.ownBlock, ne_eq, Option.some.injEq]; omega)))
                 have HBa := Lib.hid ho10
                 have HGBa := Lib.hid (ho10.lt gb1 rfl).1
                 have HX3a := Lib.hid ((HX.out.trans HX8'.out).trans HX8a.out)
                 have y0 := HX3a.out.cell HY0'.out
                 have y1 := HX3a.out.cell HY1'.out
                 have y2 := HX3a.out.cell HY2'.out
                 have y3 := HX3a.out.cell HY3'.out
                 clear ho10 hg10 z1 g2q)
              | (at_builtin
                 refine wpList_app_sep rfl (.tmp 108) (.tmp 110) _ rfl Try.underlying32 infoT9 rfl (by decide) encT_len encT_one W8.heap.size gb1 cb1 _ ts [⟨ta, tm, tv, tx⟩] rfl rfl (HBa.out.alloc _) (rd_lit encT_len w10 [⟨ta, tm, tv, tx⟩] _ _ rfl) (by simp; omega) (by decide) (by simp; omega) ?_
                 intro gb2 cb2 w11 ho11 hg11 hs11
                 rw [World.size_alloc] at hs11
                 have hb11 : gb2 ≠ ga := by omega
                 have hz11 := (ho11.lt gb2 rfl).2
                 have hq11 := hg11.size
                 rw [World.size_alloc] at hq11
                 have HX8b := Lib.hid ((HX8a.out.alloc _).grown hg11 (fun k e => by simp only [Option.some.injEq] at e; have := HGBa.out; omega))
                 have HAb := Lib.hid ((HAa.out.alloc _).kept hg11 (.inr (by simp only [Value.ownBlock, ne_eq, Option.some.injEq]; omega)))
                 have HBb := Lib.hid ho11
                 have HGBb := Lib.hid (ho11.lt gb2 rfl).1
                 have HX3b := Lib.hid ((HX.out.trans HX8'.out).trans HX8b.out)
                 clear y0 y1 y2 y3
                 have y0 := HX3b.out.cell HY0'.out
                 have y1 := HX3b.out.cell HY1'.out
                 have y2 := HX3b.out.cell HY2'.out
                 have y3 := HX3b.out.cell HY3'.out
                 clear ho11 hg11)
              | (at_builtin
                 refine wpList_app_sep rfl (.tmp 112) (.tmp 114) _ rfl Try.underlying32 infoT9 rfl (by decide) encT_len encT_one W8.heap.size ga 40 _ [] [⟨ta, tm, tv, tx⟩] rfl rfl (HAb.out.alloc _) (rd_lit encT_len w11 [⟨ta, tm, tv, tx⟩] _ _ rfl) (by simp) (by decide) (by simp; omega) ?_
                 intro ga1 ca1 w12 ho12 hg12 hs12
                 rw [World.size_alloc] at hs12
                 have hb12 : gb2 ≠ ga1 := by omega
                 have hq12 := hg12.size
                 rw [World.size_alloc] at hq12
                 have HX8c := Lib.hid ((HX8b.out.alloc _).grown hg12 (fun k e => by simp only [Option.some.injEq] at e; omega))
                 have HBc := Lib.hid ((HBb.out.alloc _).kept hg12 (.inr (by simp only [Value.ownBlock, ne_eq, Option.some.injEq]; omega)))
                 have HAc := Lib.hid ho12
                 have HGAc := Lib.hid (ho12.lt ga1 rfl).1
                 have HX3c := Lib.hid ((HX.out.trans HX8'.out).trans HX8c.out)
                 have HX0c := Lib.hid (HX03.out.trans HX3c.out)
                 clear y0 y1 y2 y3
                 have z1 := HX3c.out.cell HZ1'.out
                 have g2q := HX0c.out.cell g2
                 clear ho12 hg12)
              | (at_builtin
                 refine wpList_app_sep rfl (.tmp 116) (.tmp 122) _ rfl Try.underlying32 infoT9 rfl (by decide) encT_len encT_one W8.heap.size ga1 ca1 _ [⟨ta, tm, tv, tx⟩] ts rfl rfl HAc.out (HG4.out.ext HX0c.out) (by simp; omega) (by decide) (by omega) ?_
                 intro ga2 ca2 w13 ho13 hg13 hs13
                 have HX8d := Lib.hid (HX8c.out.grown hg13 (fun k e => by simp only [Option.some.injEq] at e; have := HGAc.out; omega))
                 have HBd := Lib.hid (HBc.out.kept hg13 (.inr (by simp only [Value.ownBlock, ne_eq, Option.some.injEq]; omega)))
                 have HAd := Lib.hid ho13
                 clear z1 g2q ho13 hg13))
            have hlB : (ts ++ [(⟨ta, tm, tv, tx⟩ : Test)]).length = ts.length + 1 := by simp
            have hlA : ((⟨ta, tm, tv, tx⟩ : Test) :: ts).length = 1 + ts.length := by simp; omega
            have hRB : Rd w13 4 encT (.slice (some ⟨gb2, 0, none⟩) (ts.length + 1) cb2) (ts ++ [⟨ta, tm, tv, tx⟩]) := by
              have h := HBd.out
              rw [← List.length_append] at h
              have h2 := rd_of_own encT_len h
              rw [hlB] at h2
              exact h2
            have hRA : Rd w13 4 encT (.slice (some ⟨ga2, 0, none⟩) (1 + ts.length) ca2) (⟨ta, tm, tv, tx⟩ :: ts) := by
              have h := HAd.out
              rw [← List.length_append] at h
              have h2 := rd_of_own encT_len h
              rw [List.singleton_append, hlA] at h2
              exact h2
            have hB2 : W8.heap.size ≤ gb2 := (HBd.out.lt gb2 rfl).1
            have hA2 : W8.heap.size ≤ ga2 := (HAd.out.lt ga2 rfl).1
            have hgl := HGL.out
            have hgb' := HGB.out
            have ho13 := own_ext HO8'.out HX8d.out
            have hBeq : held = true → denA ⟨ar, rs.set q ⟨nk, ts ++ [⟨ta, tm, tv, tx⟩], ra⟩, df⟩ d' = dn := fun h => by
              cases how : ow
              · rw [Hhnput.out how, Hhnot.out how]
              · rw [Hhput.out HALL.out how, Hhatk.out HALL.out how, fstA_behind (by rw [HHB.out, Hhheld.out]; exact h)]
            have hAeq0 : ow = false → denA ⟨ar, rs.set q ⟨nk, ⟨ta, tm, tv, tx⟩ :: ts, ra⟩, df⟩ d' = 2147418112 := fun how => Hhnput.out how _
            have hAeq1 : ow = true → denA ⟨ar, rs.set q ⟨nk, ⟨ta, tm, tv, tx⟩ :: ts, ra⟩, df⟩ d' = if hb = true then tx else dn := fun how => by
              rw [Hhput.out HALL.out how, fstA_cons, HHB.out, ← Hhatk.out HALL.out how]
            have hDB := fun v W h => HhDg.out (ts ++ [⟨ta, tm, tv, tx⟩]) (by rw [hlB]; omega) (fun s hs => by
              rcases List.mem_append.1 hs with h | h
              · exact HTOK.out s h
              · rw [List.mem_singleton] at h; rw [h]; exact ht) v W h
            have hDA := fun v W h => HhDg.out (⟨ta, tm, tv, tx⟩ :: ts) (by rw [hlA]; omega) (fun s hs => by
              cases hs with
              | head => exact ht
              | tail _ h => exact HTOK.out s h) v W h
            have hpB := fun a c => Hhpm.out (ts ++ [⟨ta, tm, tv, tx⟩]) a c
            have hpA := fun a c => Hhpm.out (⟨ta, tm, tv, tx⟩ :: ts) a c
            have hpr := Hhpn.out
            have hnkk : (ps[q]'hpk).r.nr = nk := by rw [hpr]
            have hraa : (ps[q]'hpk).r.action = ra := by rw [hpr]
            have HNK := Lib.hid hnkk
            have HRA := Lib.hid hraa
            clear hnkk hraa hpr
            generalize denA ⟨ar, rs.set q ⟨nk, ts ++ [⟨ta, tm, tv, tx⟩], ra⟩, df⟩ d' = dB at *
            generalize denA ⟨ar, rs.set q ⟨nk, ⟨ta, tm, tv, tx⟩ :: ts, ra⟩, df⟩ d' = dA at *
            obtain ⟨a', c', e', -, -, hcell⟩ := rd_of_own encP_len ho13
            simp only [Value.slice.injEq] at e'
            obtain ⟨rfl, -, rfl⟩ := e'
            obtain ⟨b', o', e', hat⟩ := hcell q hpk
            simp only [Option.some.injEq, Addr.mk.injEq, and_true] at e'
            obtain ⟨rfl, rfl⟩ := e'
            have t1 := hat 1 (by simp [encP])
            simp only [Nat.zero_add, encP, List.getElem_cons_zero, List.getElem_cons_succ] at t1
            have fg1 := (World.frozen?_of_block (a := ⟨g, q * 3 + 1, none⟩) (HX8d.out.block hgl)).trans (HGF.out (q * 3 + 1))
            have v1 := HX8d.out.cell HV1.out
            have hgz := World.block_lt_of_cell? _ _ t1
            have hkp : (q : Int) < (ps.length : Int) := by omega
            have hx3d := (HX.out.trans HX8'.out).trans HX8d.out
            have HX3d := Lib.hid hx3d
            have HRB := Lib.hid hRB
            have HRAA := Lib.hid hRA
            have HO13 := Lib.hid ho13
            have HhBeq := Lib.hid hBeq
            clear hBeq
            have HhAeq0 := Lib.hid hAeq0
            clear hAeq0
            have HhAeq1 := Lib.hid hAeq1
            clear hAeq1
            have HhDB := Lib.hid hDB
            clear hDB
            have HhDA := Lib.hid hDA
            clear hDA
            have HhpB := Lib.hid hpB
            clear hpB
            have HhpA := Lib.hid hpA
            clear hpA
            have HhlB := Lib.hid hlB
            clear hlB
            have HhlA := Lib.hid hlA
            clear hlA
            clear hRB hRA ho13 hcell hat hx3d
            go_upto_region 26 with fail
            obtain ⟨W14, hW14⟩ : ∃ W14, W14 = w13.setCell ⟨g, q * 3 + 1, none⟩ (.slice (some ⟨gb2, 0, none⟩) (ts.length + 1) cb2) := ⟨_, rfl⟩
            have ho14 : W14.ownsRow (wr.heap.size + 1) 34 3 (.slice (some ⟨g, 0, none⟩) ps.length cu) ps.length ((ps.set q ⟨⟨nk, ts ++ [⟨ta, tm, tv, tx⟩], ra⟩, some ⟨gb2, 0, none⟩, cb2⟩).flatMap encP) := by
              have h := own_tests HO13.out hpk (ts ++ [⟨ta, tm, tv, tx⟩]) (some ⟨gb2, 0, none⟩) cb2
              rw [HNK.out, HRA.out, HhlB.out] at h
              rw [hW14]; exact h
            have hx14 : Ext W3 W14 := by rw [hW14]; exact HX3d.out.setCell (by have := HX.out.size; dsimp only; omega) _
            have hxw14 := HX03.out.trans hx14
            have hRB14 : Rd W14 4 encT (.slice (some ⟨gb2, 0, none⟩) (ts.length + 1) cb2) (ts ++ [⟨ta, tm, tv, tx⟩]) := by
              rw [hW14]; exact Rd.setCell HRB.out (fun b o e => by simp only [Option.some.injEq, Addr.mk.injEq] at e; dsimp only; omega) _
            have hRA14 : Rd W14 4 encT (.slice (some ⟨ga2, 0, none⟩) (1 + ts.length) ca2) (⟨ta, tm, tv, tx⟩ :: ts) := by
              rw [hW14]; exact Rd.setCell HRAA.out (fun b o e => by simp only [Option.some.injEq, Addr.mk.injEq] at e; dsimp only; omega) _
            have hr14 : RdR W14 3 (IsR W14) (.slice (some ⟨g, 0, none⟩) ps.length cu) (rs.set q ⟨nk, ts ++ [⟨ta, tm, tv, tx⟩], ra⟩) := rd_set ho14 (fun p h => (Hhgd.out p h).ext hxw14)
              (by show Rd W14 4 encT (.slice (some ⟨gb2, 0, none⟩) (ts ++ [(⟨ta, tm, tv, tx⟩ : Test)]).length cb2) _; rw [HhlB.out]; exact hRB14) (HhpB.out _ _)
            have hv : ∀ (j : Nat) (v : Value), W8.cell? ⟨wr.heap.size, j, none⟩ = some v → W14.cell? ⟨wr.heap.size, j, none⟩ = some v := fun j v h => by
              rw [hW14, World.cell?_setCell_far _ _ _ _ (by dsimp only; omega)]; exact HX8d.out.cell h
            have v0 := hv 0 _ HV0.out
            have v1' := hv 1 _ HV1.out
            have v2 := hv 2 _ HV2.out
            have hf14 : ∀ j, W14.frozen? ⟨g, j, none⟩ = false := fun j => by rw [hW14, World.frozen?_setCell]; exact (World.frozen?_of_block (a := ⟨g, j, none⟩) (HX8d.out.block hgl)).trans (HGF.out j)
            have hg14 : g < W14.heap.size := by rw [hW14]; simpa using hgz
            have ht14 : W14.cell? ⟨g, q * 3 + 1, none⟩ = some (.slice (some ⟨gb2, 0, none⟩) (ts.length + 1) cb2) := by rw [hW14]; exact World.cell?_setCell_same' _ _ _ (by rw [t1]; rfl)
            rw [← hW14]
            have HO14 := Lib.hid ho14
            have HX14 := Lib.hid hx14
            have HRA14 := Lib.hid hRA14
            have HR14 := Lib.hid hr14
            have HV0' := Lib.hid v0
            have HV1' := Lib.hid v1'
            have HV2' := Lib.hid v2
            have HF14 := Lib.hid hf14
            have HT14 := Lib.hid ht14
            have hcd := HCD3.out.ext hx14
            have c0 := hcd.c0
            have c1 := hcd.c1
            have c2 := hcd.c2
            have c3 := hcd.c3
            have c4 := hcd.c4
            have c5 := hcd.c5
            have c6 := hcd.c6
            have c7 := hcd.c7
            have c8 := hcd.c8
            have hW16 : ∃ f : Prop, f := ⟨True, trivial⟩
            clear hW16 hv hf14 ht14 hr14 hRA14 hRB14 ho14 hxw14 hcd hW14 t1 fg1 v1 hx14
            have hmid : ∀ W16 (hx : Ext W14 W16), True := fun _ _ => trivial
            clear hmid
            have hdd : ((dB : Int) != (dn : Int)) = !(dB == dn) := by rw [Bool.eq_iff_iff]; simp; omega
            cases hhe : held
            case' true =>
              have hde : (dB == dn) = true := by rw [HhBeq.out hhe]; simp
              rw [hde] at hdd
              have HDE := Lib.hid hde
              clear hde
              go_wp2_with fail
              refine (HhDB.out _ _ HR14.out).mono ?_
              rintro e w16 ⟨rfl, hx16⟩
            case' false =>
              obtain ⟨w16, hw16⟩ : ∃ w16, w16 = W14 := ⟨_, rfl⟩
              have hx16 : Ext W14 w16 := by rw [hw16]; exact Ext.refl _
              go_upto_region 28 with fail
              rw [← hw16]
              clear hw16
            all_goals
              have HX16 := Lib.hid hx16
              have v1 := hx16.cell HV1'.out
              have t1 := hx16.cell HT14.out
              have fg1 := (World.frozen?_of_block (a := ⟨g, q * 3 + 1, none⟩) (hx16.block hg14)).trans (HF14.out (q * 3 + 1))
              have hgz2 := World.block_lt_of_cell? _ _ t1
              have ho16 := own_ext HO14.out hx16
              have hRA16 := HRA14.out.ext hx16
              have HO16 := Lib.hid ho16
              have HRA16 := Lib.hid hRA16
              have HX316 := Lib.hid (HX14.out.trans hx16)
              clear ho16 hRA16 hx16 c0 c1 c2 c3 c4 c5 c6 c7 c8 v0 v1' v2
              go_upto_region 29 with fail
              obtain ⟨W17, hW17⟩ : ∃ W17, W17 = w16.setCell ⟨g, q * 3 + 1, none⟩ (.slice (some ⟨ga2, 0, none⟩) (1 + ts.length) ca2) := ⟨_, rfl⟩
              have ho17 : W17.ownsRow (wr.heap.size + 1) 34 3 (.slice (some ⟨g, 0, none⟩) ps.length cu) ps.length ((ps.set q ⟨⟨nk, ⟨ta, tm, tv, tx⟩ :: ts, ra⟩, some ⟨ga2, 0, none⟩, ca2⟩).flatMap encP) := by
                have hls : (ps.set q ⟨⟨nk, ts ++ [⟨ta, tm, tv, tx⟩], ra⟩, some ⟨gb2, 0, none⟩, cb2⟩).length = ps.length := List.length_set
                have h0 := HO16.out
                rw [← hls] at h0
                have h := own_tests h0 (i := q) (by rw [hls]; exact hpk) (⟨ta, tm, tv, tx⟩ :: ts) (some ⟨ga2, 0, none⟩) ca2
                rw [List.set_set, List.getElem_set_self, hls, HhlA.out] at h
                rw [hW17]; exact h
              have hx17 : Ext W3 W17 := by rw [hW17]; exact HX316.out.setCell (by have := HX.out.size; dsimp only; omega) _
              have hxw17 := HX03.out.trans hx17
              have hRA17 : Rd W17 4 encT (.slice (some ⟨ga2, 0, none⟩) (1 + ts.length) ca2) (⟨ta, tm, tv, tx⟩ :: ts) := by
                rw [hW17]; exact Rd.setCell HRA16.out (fun b o e => by simp only [Option.some.injEq, Addr.mk.injEq] at e; dsimp only; omega) _
              have hr17 : RdR W17 3 (IsR W17) (.slice (some ⟨g, 0, none⟩) ps.length cu) (rs.set q ⟨nk, ⟨ta, tm, tv, tx⟩ :: ts, ra⟩) := rd_set ho17 (fun p h => (Hhgd.out p h).ext hxw17)
                (by show Rd W17 4 encT (.slice (some ⟨ga2, 0, none⟩) ((⟨ta, tm, tv, tx⟩ : Test) :: ts).length ca2) _; rw [HhlA.out]; exact hRA17) (HhpA.out _ _)
              have hv : ∀ (j : Nat) (v : Value), W14.cell? ⟨wr.heap.size, j, none⟩ = some v → W17.cell? ⟨wr.heap.size, j, none⟩ = some v := fun j v h => by
                rw [hW17, World.cell?_setCell_far _ _ _ _ (by dsimp only; omega)]; exact HX16.out.cell h
              have v0 := hv 0 _ HV0'.out
              have v1' := hv 1 _ HV1'.out
              have v2 := hv 2 _ HV2'.out
              rw [← hW17]
              have HX17 := Lib.hid hx17
              have HR17 := Lib.hid hr17
              have hcd := HCD3.out.ext hx17
              have c0 := hcd.c0
              have c1 := hcd.c1
              have c2 := hcd.c2
              have c3 := hcd.c3
              have c4 := hcd.c4
              have c5 := hcd.c5
              have c6 := hcd.c6
              have c7 := hcd.c7
              have c8 := hcd.c8
              clear hv hr17 hRA17 ho17 hxw17 hcd hW17 t1 fg1 v1 hx17
              go_wp2_with fail
              refine (HhDA.out _ _ HR17.out).mono ?_
              rintro e w18 ⟨rfl, hx18⟩
              have HX18 := Lib.hid (HX17.out.trans hx18)
              clear hx18 c0 c1 c2 c3 c4 c5 c6 c7 c8 v0 v1' v2
              have z0 := HX18.out.cell HZ0'.out
              have hcd := HCD3.out.ext HX18.out
              have c0 := hcd.c0
              have c1 := hcd.c1
              have c2 := hcd.c2
              have c3 := hcd.c3
              have c4 := hcd.c4
              have c5 := hcd.c5
              have c6 := hcd.c6
              have c7 := hcd.c7
              have c8 := hcd.c8
              clear hcd
              cases how : ow
              · rw [how] at HhDk
                simp only [Bool.false_eq_true, if_false] at HhDk
                have hn1 : ((dA : Int) == 2147418112) = true := by rw [HhAeq0.out how]; rfl
                have hn2 : ((dn : Int) == 2147418112) = true := by rw [Hhnot.out how]; rfl
                go_wp2_with fail
                refine (HhDk.out _).mono ?_
                rintro e w19 ⟨rfl, hx19⟩
                go_wp2_with fail
                go_ret
                exact ⟨rfl, HX03.out.trans (HX18.out.trans hx19)⟩
              · rw [how] at HhDk
                simp only [if_true] at HhDk
                have HA1 := Lib.hid (HhAeq1.out how)
                have Hhow := Lib.hid how
                clear how
                go_wp2_with fail
                refine (HhDk.out _).mono ?_
                rintro e w19 ⟨rfl, hx19⟩
                have HX19 := Lib.hid (HX18.out.trans hx19)
                replace c0 := hx19.cell c0
                replace c1 := hx19.cell c1
                replace c2 := hx19.cell c2
                replace c3 := hx19.cell c3
                replace c4 := hx19.cell c4
                replace c5 := hx19.cell c5
                replace c6 := hx19.cell c6
                replace c7 := hx19.cell c7
                replace c8 := hx19.cell c8
                have y0 := HX19.out.cell HY0'.out
                have y1 := HX19.out.cell HY1'.out
                have y2 := HX19.out.cell HY2'.out
                have y3 := HX19.out.cell HY3'.out
                clear hx19 z0
                cases hhb : hb
                · have hA1 := HA1.out
                  rw [hhb] at HhHt hA1
                  have Hhhb := Lib.hid hhb
                  clear hhb
                  simp only [Bool.false_eq_true, if_false] at hA1
                  have hn1 : ((dA : Int) == (dn : Int)) = true := by rw [hA1]; simp
                  have HhA1 := Lib.hid hA1
                  clear hA1
                  go_wp2_with fail
                  refine (HhHt.out _).mono ?_
                  rintro e w20 ⟨rfl, hx20⟩
                  go_wp2_with fail
                  go_ret
                  exact ⟨rfl, HX03.out.trans (HX19.out.trans hx20)⟩
                · have hA1 := HA1.out
                  rw [hhb] at HhHt hA1
                  have Hhhb := Lib.hid hhb
                  clear hhb
                  simp only [if_true] at hA1
                  have hn1 : ((dA : Int) == (tx : Int)) = true := by rw [hA1]; simp
                  have HhA1 := Lib.hid hA1
                  clear hA1
                  go_wp2_with fail
                  refine (HhHt.out _).mono ?_
                  rintro e w20 ⟨rfl, hx20⟩
                  replace c0 := hx20.cell c0
                  replace c1 := hx20.cell c1
                  replace c2 := hx20.cell c2
                  replace c3 := hx20.cell c3
                  replace c4 := hx20.cell c4
                  replace c5 := hx20.cell c5
                  replace c6 := hx20.cell c6
                  replace c7 := hx20.cell c7
                  replace c8 := hx20.cell c8
                  replace y0 := hx20.cell y0
                  replace y1 := hx20.cell y1
                  replace y2 := hx20.cell y2
                  replace y3 := hx20.cell y3
                  have HX20 := Lib.hid (HX19.out.trans hx20)
                  clear hx20
                  go_wp2_with fail
                  refine (HhHt.out _).mono ?_
                  rintro e w21 ⟨rfl, hx21⟩
                  replace y3 := hx21.cell y3
                  have HX21 := Lib.hid (HX20.out.trans hx21)
                  clear hx21 c0 c1 c2 c3 c4 c5 c6 c7 c8 y0 y1 y2
                  go_wp2_with fail
                  go_ret
                  exact ⟨rfl, HX03.out.trans HX21.out⟩
end L21
end Go.Proofs.Ytkmhfjnjfghnjaa
