/- Layer 24: the walk of the reference's Depth. -/
import Derived.Test.YtaclndhenhjjaaaTreeI
namespace Go.Proofs.Ytaclndhenhjjaaa
open Go.RowKit V
namespace L24
open L23
theorem lb_made {w : World} {g n : Nat} (h : w.ownsRow g 4 1 (.slice (some ⟨g, 0, none⟩) n n) n (madeCells (Value.bool false).cells (n * 1)).toList) : LB w g (List.replicate n false) := by
  unfold LB OwnB; rw [List.length_replicate, ← made_bool]; exact h
theorem li_made {w : World} {g n : Nat} (h : w.ownsRow g 3 1 (.slice (some ⟨g, 0, none⟩) n n) n (madeCells (Value.int .i64 0).cells (n * 1)).toList) : LI w g (List.replicate n 0) := by
  have e : ints (List.replicate n 0) = List.replicate n 0 := by simp [ints]
  unfold LI OwnI; rw [ints_len, List.length_replicate, e, ← made_int]; exact h
theorem LI.set_i {w : World} {g : Nat} {ls : List Nat} (h : LI w g ls) (j x : Nat) (hj : j < ls.length) (X : Int) (hX : X = (x : Int)) : LI (w.setCell ⟨g, j, none⟩ (.int .i64 X)) g (ls.set j x) := by
  subst hX; exact h.set_ j x hj
theorem LB.cell0 {w : World} {g n : Nat} (h : LB w g (List.replicate n false)) (hp : 0 < n) : w.cell? ⟨g, 0, none⟩ = some (.bool false) := by
  have := h.cell 0 (by simp; omega)
  simpa using this
theorem LI.ext {w w' : World} {g : Nat} {ls : List Nat} (h : LI w g ls) (hx : Ext w w') : LI w' g ls := by
  obtain ⟨h1, h2⟩ := h
  refine ⟨h1, ?_⟩
  rcases h2 with h2 | ⟨g, cap, cur, hv, hg, hh, r⟩
  · exact .inl h2
  · exact .inr ⟨g, cap, cur, hv, hg, (hx.block (Array.getElem?_eq_some_iff.1 hh).1).trans hh, r⟩
set_option maxRecDepth 100000 in
set_option maxHeartbeats 4000000 in
theorem refDepth_calls (v : Value) (xs : List Node) (hl : xs.length ≤ 1000000) (w : World) (hv : Rd w 5 encN v xs) :
    Calls Try.prog 33 #[v] w fun e w' => e = .returned (.int .i64 (depthA xs : Nat)) ∧ Ext w w' := by
  have hM := refMay_calls v xs hl w hv
  obtain ⟨a, c, rfl, hac, hca⟩ := rdN_cell hv
  clear hv
  cases hm : may xs
  case false =>
    rw [hm] at hM
    have hA : depthA xs = 0 := by unfold depthA; rw [if_neg (by rw [hm]; simp)]
    have HhA := Lib.hid hA
    clear hA
    have Hhm := Lib.hid hm
    clear hm
    have HhM := Lib.hid hM
    clear hM
    clear hca
    go_enter Try.func33, Try.ntmps33
    go_wp2_with (go_at_call 31; refine HhM.out.mono ?_; rintro e w1 ⟨rfl, hx1⟩)
    go_ret
    exact ⟨by rw [HhA.out]; rfl, hx1⟩
  rw [hm] at hM
  have hA : depthA xs = dpt xs 0 := by unfold depthA; rw [if_pos hm]
  have hpos := may_pos hm
  have hget := fun j (hj : j < xs.length) hl => may_get hm hj hl
  have hdn := fun j (hj : j < xs.length) hl => dpt_node hm hj hl
  have hdle := dpt_le xs
  obtain ⟨i0, hi0, hz0, hz1, hz2⟩ := info_parts infoI
  obtain ⟨j0, hj0, hy0, hy1, hy2⟩ := info_parts infoB
  have hst := DI.start hpos
  have HhA := Lib.hid hA
  clear hA
  have Hhm := Lib.hid hm
  clear hm
  have HhM := Lib.hid hM
  clear hM
  have Hhget := Lib.hid hget
  clear hget
  have Hhdn := Lib.hid hdn
  clear hdn
  have Hhdle := Lib.hid hdle
  clear hdle
  have Hhca := Lib.hid hca
  clear hca
  have Hhst := Lib.hid hst
  clear hst
  go_enter Try.func33, Try.ntmps33
  go_wp2_with (first
    | (go_at_call 31; refine HhM.out.mono ?_; rintro e w1 ⟨rfl, hx1⟩)
    | (at_make; refine wpList_make_full _ rfl _ _ 23 rfl w1.heap.size 3 i0 (.int .i64 0) 1 Try.underlying23 hi0 hz0 hz1 _ _ _ _ xs.length rfl rfl (by omega) (by omega) (by rw [hz2]; omega) (by unfold maxLen; omega) (Nat.le_refl _) ?_; intro w2 hown2 hg2; have hE2 := Lib.hid (Ext.grown (Ext.refl _) hg2 (by intro k hk; cases hk)); have HO2 := Lib.hid hown2; clear hown2 hg2)
    | (at_make; refine wpList_make_full _ rfl _ _ 66 rfl w2.heap.size 4 j0 (.bool false) 1 Try.underlying66 hj0 hy0 hy1 _ _ _ _ xs.length rfl rfl (by omega) (by omega) (by rw [hy2]; omega) (by unfold maxLen; omega) (Nat.le_refl _) ?_; intro w3 hown3 hg3; have hE3 := Lib.hid (Ext.grown (Ext.refl _) hg3 (by intro k hk; cases hk)); have hB0 := lb_made hown3; have cb0 := hB0.cell0 hpos; have fb0 := (hB0.frozen (by simp; omega) 0).1; have HO3 := Lib.hid hB0; clear hown3 hg3 hB0))
  have hLI := (li_made HO2.out).ext hE3.out
  have hLI2 := ((li_made HO2.out).frozen (by simp; omega) 0).2
  have hB3 := HO3.out
  have hB3l := (hB3.frozen (by simp; omega) 0).2
  have hgw := hx1.size
  have hXX := (hx1.trans hE2.out).trans hE3.out
  generalize w1.heap.size = g1 at *
  have hg2 : g1 < w2.heap.size := hLI2
  generalize w2.heap.size = g2 at *
  have hXz : Ext w (w3.setCell ⟨g2, 0, none⟩ (.bool true)) := hXX.setCell (by simp only; omega) _
  have hLz := hLI.far (g' := g2) (by omega) 0 (.bool true)
  have hBz := hB3.set_ 0 true (by simp; omega)
  generalize w3.setCell ⟨g2, 0, none⟩ (.bool true) = Wz at *
  have HXz := Lib.hid hXz
  have HLz := Lib.hid hLz
  have HBz := Lib.hid hBz
  clear hLI hLI2 hB3 hB3l hXX hXz hLz hBz hx1 HO2 HO3 hE2 hE3 cb0 fb0
  go_loopw [5, 6] (fun most i wr => ∃ (i' m : Nat) (ls : List Nat) (rs : List Bool), i' ≤ xs.length ∧ i = .int .i64 i' ∧ most = .int .i64 m ∧ Ext w wr ∧ LI wr g1 ls ∧ LB wr g2 rs ∧ DI xs i' ls rs m) (fun _ i _ => xs.length - (intOf i).toNat)
  case atStart => exact ⟨0, 0, _, _, by omega, rfl, rfl, HXz.out, HLz.out, HBz.out, Hhst.out⟩
  case round =>
    obtain ⟨i, m, ls, rs, hi, rfl, rfl, hx, hLI, hLB, hDI⟩ := hrel
    have HX := Lib.hid hx
    have hll := hDI.l
    have hrl := hDI.r
    by_cases hlt : i < xs.length
    · obtain ⟨b, o, rfl, n1, -, -, n4, n5⟩ := Hhca.out i hlt
      replace n1 := hx.cell n1; replace n4 := hx.cell n4; replace n5 := hx.cell n5
      have cr := hLB.cell i (by omega)
      have HLI := Lib.hid hLI
      have HLB := Lib.hid hLB
      have HDI := Lib.hid hDI
      have hir : i < rs.length := by omega
      have hil : i < ls.length := by omega
      have hgB : g2 < wr.heap.size := (hLB.frozen (by omega) 0).2
      clear hLI hLB hDI hx
      cases hr : rs[i]
      case false =>
        rw [hr] at cr
        have hD2 := HDI.out.skip hir hr
        have HhD2 := Lib.hid hD2
        clear hD2
        have Hhr := Lib.hid hr
        clear hr
        have Hhll := Lib.hid hll
        clear hll
        have Hhrl := Lib.hid hrl
        clear hrl
        clear n4 n5
        generalize xs[i].leaf = lf at *
        go_wp2
        go_roundw
        case rel => exact ⟨i + 1, m, ls, rs, by omega, by go_num, rfl, HX.out, HLI.out, HLB.out, HhD2.out⟩
        case measure => simp [intOf]; omega
      case true =>
        rw [hr] at cr
        cases hlf : xs[i].leaf
        case true =>
          rw [hlf] at n1
          have hD2 := HDI.out.leaf hlt hlf
          have HhD2 := Lib.hid hD2
          clear hD2
          have Hhr := Lib.hid hr
          clear hr
          have Hhll := Lib.hid hll
          clear hll
          have Hhrl := Lib.hid hrl
          clear hrl
          have Hhlf := Lib.hid hlf
          clear hlf
          clear n4 n5
          go_wp2
          go_roundw
          case rel => exact ⟨i + 1, m, ls, rs, by omega, by go_num, rfl, HX.out, HLI.out, HLB.out, HhD2.out⟩
          case measure => simp [intOf]; omega
        case false =>
          rw [hlf] at n1
          obtain ⟨q1, q2, q3, q4⟩ := Hhget.out i hlt hlf
          have hdi := Hhdn.out i hlt hlf
          generalize xs[i].more = mr at *
          generalize xs[i].less = lss at *
          obtain ⟨p, rfl⟩ := Int.eq_ofNat_of_zero_le (by omega : 0 ≤ lss)
          obtain ⟨q, rfl⟩ := Int.eq_ofNat_of_zero_le (by omega : 0 ≤ mr)
          rw [Int.toNat_natCast, Int.toNat_natCast] at hdi
          have hRI : RI xs i p q 0 ls rs m := ⟨HDI.out, fun _ => hr, fun h => by omega, fun h => by omega⟩
          have hbi : (i : Int) < (xs.length : Int) := by omega
          have HhRI := Lib.hid hRI
          clear hRI
          have Hhr := Lib.hid hr
          clear hr
          have Hhll := Lib.hid hll
          clear hll
          have Hhrl := Lib.hid hrl
          clear hrl
          have Hhlf := Lib.hid hlf
          clear hlf
          have Hhdi := Lib.hid hdi
          clear hdi
          go_wp2_with fail
          (go_region_held3 (fun w' => w'.cell? ⟨b, o + i * 5 + 3, none⟩ = some (.int .i64 (p : Int)) ∧ w'.cell? ⟨b, o + i * 5 + 4, none⟩ = some (.int .i64 (q : Int)))
            (first | exact ⟨n4, n5⟩ | exact ⟨Ext.cell (by repeat (first | exact Ext.refl _ | apply Ext.drewN | apply Ext.drew | apply Ext.alloc)) n4, Ext.cell (by repeat (first | exact Ext.refl _ | apply Ext.drewN | apply Ext.drew | apply Ext.alloc)) n5⟩)
            (fail))
          go_wp2_with fail
          have t0 : ((wr.alloc (.cells #[.int .i64 (p : Int), .int .i64 (q : Int)] 3)).drew).cell? ⟨wr.heap.size, 0, none⟩ = some (.int .i64 (p : Int)) := by simp [go_sem]
          have t1 : ((wr.alloc (.cells #[.int .i64 (p : Int), .int .i64 (q : Int)] 3)).drew).cell? ⟨wr.heap.size, 1, none⟩ = some (.int .i64 (q : Int)) := by simp [go_sem]
          have hE0 : Ext wr ((wr.alloc (.cells #[.int .i64 (p : Int), .int .i64 (q : Int)] 3)).drew) := ((Ext.refl _).alloc _).drew
          generalize hg3 : wr.heap.size = g3 at *
          generalize ((wr.alloc (.cells #[.int .i64 (p : Int), .int .i64 (q : Int)] 3)).drew) = W0 at *
          have hL0 := HLI.out.ext hE0
          have hB0 : LB W0 g2 rs := by
            obtain ⟨h1, h2⟩ := HLB.out
            refine ⟨h1, ?_⟩
            rcases h2 with h2 | ⟨g, cap, cur, hv, hg, hh, r⟩
            · exact .inl h2
            · exact .inr ⟨g, cap, cur, hv, hg, (hE0.block (Array.getElem?_eq_some_iff.1 hh).1).trans hh, r⟩
          have HX0 := Lib.hid (HX.out.trans hE0)
          have Hg3 := Lib.hid hg3
          clear hg3 hE0 n1 n4 n5 cr HLI HLB HDI Hhr hir hil
          obtain ⟨wo, rfl⟩ : ∃ wo : World, wo = wr := ⟨_, rfl⟩
          go_loopw [5, 8] (fun most k wr' => ∃ (k' m' : Nat) (ls' : List Nat) (rs' : List Bool), k' ≤ 2 ∧ k = .int .i64 k' ∧ most = .int .i64 m' ∧ Ext w wr' ∧ LI wr' g1 ls' ∧ LB wr' g2 rs' ∧ RI xs i p q k' ls' rs' m' ∧ wr'.cell? ⟨g3, 0, none⟩ = some (.int .i64 (p : Int)) ∧ wr'.cell? ⟨g3, 1, none⟩ = some (.int .i64 (q : Int))) (fun _ k _ => 2 - (intOf k).toNat)
          case atStart => exact ⟨0, m, ls, rs, by omega, rfl, rfl, HX0.out, hL0, hB0, HhRI.out, t0, t1⟩
          case round =>
            obtain ⟨k, m, ls, rs, hk, rfl, rfl, hx, hLI, hLB, hRI, t0, t1⟩ := hrel
            have HXk := Lib.hid hx
            by_cases hlt2 : k < 2
            · obtain ⟨n, hn⟩ : ∃ n, n = if k = 0 then p else q := ⟨_, rfl⟩
              have hll := hRI.d.l
              have hrl := hRI.d.r
              have hnx : n < xs.length := by rw [hn]; split <;> omega
              have hin : i < n := by rw [hn]; split <;> omega
              have cn : wr.cell? ⟨g3, k, none⟩ = some (.int .i64 (n : Int)) := by
                rw [hn]
                by_cases hk0 : k = 0
                · rw [if_pos hk0, hk0]; exact t0
                · rw [if_neg hk0, show k = 1 by omega]; exact t1
              have hnl : n < ls.length := by omega
              have hnr : n < rs.length := by omega
              have hil : i < ls.length := by omega
              have hir := hRI.r (by omega)
              have cln := hLI.cell n hnl
              have cli := hLI.cell i hil
              have crn := hLB.cell n hnr
              have fln := (hLI.frozen (by omega) n).1
              have frn := (hLB.frozen (by omega) n).1
              have hmb := hRI.d.u
              have hm0 := Hhdle.out 0
              have hlib := hRI.d.m i (by omega) hil hir
              have hlnb : ls[n] ≤ 1000000 := by
                by_cases e : rs[n] = true
                · have := hRI.d.m n hnr hnl e; omega
                · have := hRI.d.z n hnr hnl (by simpa using e); omega
              have hip : i < p := by omega
              have hiq : i < q := by omega
              have hst := RI.step hRI hlt2 hip hiq Hhdi.out n hn hnl hil
              have hg12 : g1 ≠ g2 := by omega
              have hg21 : g2 ≠ g1 := by omega
              have hg3l : g2 < g3 := by omega
              have hkz : (k : Int) < 2 := by omega
              have hbn : (n : Int) < (xs.length : Int) := by omega
              have hbi2 : (i : Int) < (xs.length : Int) := by omega
              have hset := set_self ls n hnl
              have hB1 := hLB.set_ n true hnr
              have hL1 := hLI.far hg21 n (.bool true)
              have hB2 := fun (u : Value) => (hB1.far hg12 n u)
              have hL2 := fun x X hX => hL1.set_i n x hnl X hX
              have hE1 : Ext w (wr.setCell ⟨g2, n, none⟩ (.bool true)) := hx.setCell (by simp only; omega) _
              have hE2 : ∀ u, Ext w ((wr.setCell ⟨g2, n, none⟩ (.bool true)).setCell ⟨g1, n, none⟩ u) := fun u => hE1.setCell (by simp only; omega) _
              have hne0 : g2 ≠ g3 := by omega
              have hne1 : g1 ≠ g3 := by omega
              have ht0 : (wr.setCell ⟨g2, n, none⟩ (.bool true)).cell? ⟨g3, 0, none⟩ = some (.int .i64 (p : Int)) := (World.cell?_setCell_other wr _ _ _ (by first | (simp; done) | (simp; omega))).trans t0
              have ht1 : (wr.setCell ⟨g2, n, none⟩ (.bool true)).cell? ⟨g3, 1, none⟩ = some (.int .i64 (q : Int)) := (World.cell?_setCell_other wr _ _ _ (by first | (simp; done) | (simp; omega))).trans t1
              have ht2 : ∀ u, ((wr.setCell ⟨g2, n, none⟩ (.bool true)).setCell ⟨g1, n, none⟩ u).cell? ⟨g3, 0, none⟩ = some (.int .i64 (p : Int)) := fun u => (World.cell?_setCell_other _ _ _ _ (by first | (simp; done) | (simp; omega))).trans ht0
              have ht3 : ∀ u, ((wr.setCell ⟨g2, n, none⟩ (.bool true)).setCell ⟨g1, n, none⟩ u).cell? ⟨g3, 1, none⟩ = some (.int .i64 (q : Int)) := fun u => (World.cell?_setCell_other _ _ _ _ (by first | (simp; done) | (simp; omega))).trans ht1
              generalize ls[n] = x at *
              generalize ls[i] = y at *
              generalize rs[n] = rn at *
              have hkz : (k : Int) < 2 := by omega
              clear hLI hLB hRI hx t0 t1 hir
              have Hhst := Lib.hid hst
              clear hst
              have Hhset := Lib.hid hset
              clear hset
              have HhB1 := Lib.hid hB1
              clear hB1
              have HhB2 := Lib.hid hB2
              clear hB2
              have HhL1 := Lib.hid hL1
              clear hL1
              have HhL2 := Lib.hid hL2
              clear hL2
              have HhE1 := Lib.hid hE1
              clear hE1
              have HhE2 := Lib.hid hE2
              clear hE2
              have Hht0 := Lib.hid ht0
              clear ht0
              have Hht1 := Lib.hid ht1
              clear ht1
              have Hht2 := Lib.hid ht2
              clear ht2
              have Hht3 := Lib.hid ht3
              clear ht3
              have Hhn := Lib.hid hn
              clear hn
              have Hhll := Lib.hid hll
              clear hll
              have Hhrl := Lib.hid hrl
              clear hrl
              by_cases c1 : x < y + 1
              · have d1 : decide ((x : Int) < (y : Int) + 1) = true := decide_eq_true (by omega)
                by_cases c2 : m < y + 1
                · have d2 : decide ((m : Int) < (y : Int) + 1) = true := decide_eq_true (by omega)
                  have hR2 := Hhst.out (y + 1) (by omega) (y + 1) (by omega)
                  have HhR2 := Lib.hid hR2
                  clear hR2
                  have Hc1 := Lib.hid c1
                  clear c1
                  have Hc2 := Lib.hid c2
                  clear c2
                  go_wp2_with (go_quiet (fail))
                  go_roundw
                  case rel => exact ⟨k + 1, y + 1, ls.set n (y + 1), rs.set n true, by omega, by go_num, by go_num, Ext.drewN (HhE2.out _) _, LI.drewN (HhL2.out (y + 1) _ (by omega)) _, LB.drewN (HhB2.out _) _, HhR2.out, Hht2.out _, Hht3.out _⟩
                  case measure => simp [intOf]; omega
                · have d2 : decide ((m : Int) < (y : Int) + 1) = false := decide_eq_false (by omega)
                  have hR2 := Hhst.out (y + 1) (by omega) m (by omega)
                  have HhR2 := Lib.hid hR2
                  clear hR2
                  have Hc1 := Lib.hid c1
                  clear c1
                  have Hc2 := Lib.hid c2
                  clear c2
                  go_wp2_with (go_quiet (fail))
                  go_roundw
                  case rel => exact ⟨k + 1, m, ls.set n (y + 1), rs.set n true, by omega, by go_num, by go_num, Ext.drewN (HhE2.out _) _, LI.drewN (HhL2.out (y + 1) _ (by omega)) _, LB.drewN (HhB2.out _) _, HhR2.out, Hht2.out _, Hht3.out _⟩
                  case measure => simp [intOf]; omega
              · have d1 : decide ((x : Int) < (y : Int) + 1) = false := decide_eq_false (by omega)
                by_cases c2 : m < x
                · have d2 : decide ((m : Int) < (x : Int)) = true := decide_eq_true (by omega)
                  have d2' : decide (m < x) = true := decide_eq_true (by omega)
                  have hR2 := Hhst.out x (by omega) x (by omega)
                  rw [Hhset.out] at hR2
                  have HhR2 := Lib.hid hR2
                  clear hR2
                  have Hc1 := Lib.hid c1
                  clear c1
                  have Hc2 := Lib.hid c2
                  clear c2
                  go_wp2_with (go_quiet (fail))
                  go_roundw
                  case rel => exact ⟨k + 1, x, ls, rs.set n true, by omega, by go_num, by go_num, Ext.drewN HhE1.out _, LI.drewN HhL1.out _, LB.drewN HhB1.out _, HhR2.out, Hht0.out, Hht1.out⟩
                  case measure => simp [intOf]; omega
                · have d2 : decide ((m : Int) < (x : Int)) = false := decide_eq_false (by omega)
                  have d2' : decide (m < x) = false := decide_eq_false (by omega)
                  have hR2 := Hhst.out x (by omega) m (by omega)
                  rw [Hhset.out] at hR2
                  have HhR2 := Lib.hid hR2
                  clear hR2
                  have Hc1 := Lib.hid c1
                  clear c1
                  have Hc2 := Lib.hid c2
                  clear c2
                  go_wp2_with (go_quiet (fail))
                  go_roundw
                  case rel => exact ⟨k + 1, m, ls, rs.set n true, by omega, by go_num, by go_num, Ext.drewN HhE1.out _, LI.drewN HhL1.out _, LB.drewN HhB1.out _, HhR2.out, Hht0.out, Hht1.out⟩
                  case measure => simp [intOf]; omega
            · obtain rfl : k = 2 := by omega
              have hll := hRI.d.l
              have hrl := hRI.d.r
              have hDN := hRI.d.next (by omega) (by omega) (by omega) (by omega) (by omega) (by omega) (by omega) (hRI.k1 (by omega) (by omega) (by omega) (by omega)).1 (hRI.k2 (by omega) (by omega) (by omega) (by omega)).1 (hRI.k1 (by omega) (by omega) (by omega) (by omega)).2 (hRI.k2 (by omega) (by omega) (by omega) (by omega)).2 Hhdi.out
              have HDN := Lib.hid hDN
              have HL := Lib.hid hLI
              have HB := Lib.hid hLB
              clear hDN hLI hLB hRI hx hll hrl
              go_wp2
              go_roundw
              case rel => exact ⟨i + 1, m, ls, rs, by omega, by go_num, rfl, HXk.out, HL.out, HB.out, HDN.out⟩
              case measure => simp [intOf]; omega
    · obtain rfl : i = xs.length := by omega
      have hfin := hDI.fin
      rw [← HhA.out] at hfin
      have Hhfin := Lib.hid hfin
      clear hfin
      clear hDI hLI hLB hx
      go_wp2
      go_ret
      exact ⟨by rw [← Hhfin.out]; rfl, HX.out⟩
end L24
end Go.Proofs.Ytaclndhenhjjaaa
