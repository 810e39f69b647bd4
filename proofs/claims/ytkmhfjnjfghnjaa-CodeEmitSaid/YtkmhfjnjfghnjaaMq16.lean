import Derived.Test.YtkmhfjnjfghnjaaMq2
/- Layer 3: the walk of the table of words, of Word. -/
namespace Go.Proofs.Ytkmhfjnjfghnjaa
open Go.RowKit V
namespace L25
/-- the table after k of the wide numbers -/
def tb (d : Dat) (k j : Nat) : Nat := if j < 2 + 2 * k then (wds d).getD j 0 else 0
theorem lt16 (j : Nat) (h : j < 16) : j = 0 ∨ j = 1 ∨ j = 2 ∨ j = 3 ∨ j = 4 ∨ j = 5 ∨ j = 6 ∨ j = 7 ∨ j = 8 ∨ j = 9 ∨ j = 10 ∨ j = 11 ∨ j = 12 ∨ j = 13 ∨ j = 14 ∨ j = 15 := by omega
theorem lt7 (j : Nat) (h : j < 7) : j = 0 ∨ j = 1 ∨ j = 2 ∨ j = 3 ∨ j = 4 ∨ j = 5 ∨ j = 6 := by omega
theorem wds_lo (d : Dat) (k : Nat) (h : k < 7) : (wds d).getD (2 + 2 * k) 0 = lo ((wide d)[k]'h) ∧ (wds d).getD (3 + 2 * k) 0 = hi ((wide d)[k]'h) := by
  rcases lt7 k h with rfl | rfl | rfl | rfl | rfl | rfl | rfl <;> exact ⟨rfl, rfl⟩
theorem wide_lt {d : Dat} (hd : OkD d) (k : Nat) (h : k < 7) : (wide d)[k]'h < 18446744073709551616 := by
  rcases lt7 k h with rfl | rfl | rfl | rfl | rfl | rfl | rfl
  · exact hd.ip
  · exact hd.a0
  · exact hd.a1
  · exact hd.a2
  · exact hd.a3
  · exact hd.a4
  · exact hd.a5
def tabC (d : Dat) : Array Value := ((wds d).map fun n : Nat => Value.int .u32 (n : Int)).toArray
def tabV (d : Dat) : Value := .agg (tabC d)
theorem tb_set {w : World} {B : Nat} {d : Dat} {k : Nat} (h : k < 7) (hc : ∀ j, j < 16 → w.cell? ⟨B, j, none⟩ = some (.int .u32 (tb d k j : Nat))) :
    ∀ j, j < 16 → ((w.setCell ⟨B, 2 + 2 * k, none⟩ (.int .u32 (lo ((wide d)[k]'h) : Nat))).setCell ⟨B, 3 + 2 * k, none⟩ (.int .u32 (hi ((wide d)[k]'h) : Nat))).cell? ⟨B, j, none⟩ = some (.int .u32 (tb d (k + 1) j : Nat)) := by
  intro j hj
  obtain ⟨e1, e2⟩ := wds_lo d k h
  by_cases h3 : j = 3 + 2 * k
  · subst h3
    rw [World.cell?_setCell_same' _ _ _ (by rw [World.cell?_setCell_other _ _ _ _ (by first | (simp; done) | (simp; omega)), hc _ hj]; rfl)]
    unfold tb; rw [if_pos (by omega), e2]
  rw [World.cell?_setCell_other _ _ _ _ (by first | (simp; done) | (simp; omega))]
  by_cases h2 : j = 2 + 2 * k
  · subst h2
    rw [World.cell?_setCell_same' _ _ _ (by rw [hc _ hj]; rfl)]
    unfold tb; rw [if_pos (by omega), e1]
  rw [World.cell?_setCell_other _ _ _ _ (by first | (simp; done) | (simp; omega)), hc j hj]
  unfold tb
  by_cases h1 : j < 2 + 2 * k
  · rw [if_pos h1, if_pos (by omega)]
  · rw [if_neg h1, if_neg (by omega)]
theorem rd_args {w : World} {B : Nat} (d : Dat) (h0 : w.cell? ⟨B, 3, none⟩ = some (.int .u64 (d.a0 : Int))) (h1 : w.cell? ⟨B, 4, none⟩ = some (.int .u64 (d.a1 : Int))) (h2 : w.cell? ⟨B, 5, none⟩ = some (.int .u64 (d.a2 : Int)))
    (h3 : w.cell? ⟨B, 6, none⟩ = some (.int .u64 (d.a3 : Int))) (h4 : w.cell? ⟨B, 7, none⟩ = some (.int .u64 (d.a4 : Int))) (h5 : w.cell? ⟨B, 8, none⟩ = some (.int .u64 (d.a5 : Int))) :
    Rd w 1 encU (.slice (some ⟨B, 3, none⟩) 6 6) [d.a0, d.a1, d.a2, d.a3, d.a4, d.a5] := by
  refine ⟨_, _, rfl, Nat.le_refl _, (fun h => by cases h), fun i hi => ⟨B, 3, rfl, fun j hj => ?_⟩⟩
  obtain rfl : j = 0 := by simp [encU] at hj; omega
  rcases (show i = 0 ∨ i = 1 ∨ i = 2 ∨ i = 3 ∨ i = 4 ∨ i = 5 by simp at hi; omega) with rfl | rfl | rfl | rfl | rfl | rfl
  · exact h0
  · exact h1
  · exact h2
  · exact h3
  · exact h4
  · exact h5
set_option maxRecDepth 100000 in
set_option maxHeartbeats 1000000 in
theorem table_calls (d : Dat) (hd : OkD d) (w : World) :
    Calls Try.prog 89 #[datV d] w fun e w' => e = .returned (tabV d) ∧ Ext w w' := by
  have hWl := wide_len d
  have hH := fun (k : Nat) (h : k < 7) (W : World) => Halves_calls _ (wide_lt hd k h) W
  have hR := fun (W : World) (B : Nat) => rd_args (w := W) (B := B) d
  have hWi : ∀ (v : Value) (W : World), Rd W 1 encU v [d.a0, d.a1, d.a2, d.a3, d.a4, d.a5] → Calls Try.prog 107 #[.int .u64 (d.ip : Int), v] W fun e w' => ∃ a c, e = .returned (.slice a 7 c) ∧ Rd w' 1 encU (.slice a 7 c) (wide d) ∧ (∀ b o, a = some ⟨b, o, none⟩ → W.heap.size ≤ b) ∧ Ext W w' :=
    fun v W hv => wide_calls d.ip v _ (by simp) W hv
  have hT : ∀ j, j < 16 → tb d 0 j = if j = 0 then d.nr else if j = 1 then d.ar else 0 := by
    intro j hj; unfold tb
    by_cases h : j < 2
    · rw [if_pos (by omega)]
      rcases (show j = 0 ∨ j = 1 by omega) with rfl | rfl <;> rfl
    · rw [if_neg (by omega), if_neg (by omega), if_neg (by omega)]
  have HhH := Lib.hid hH
  clear hH
  have HhR := Lib.hid hR
  clear hR
  have HhWi := Lib.hid hWi
  clear hWi
  have HhT := Lib.hid hT
  clear hT
  clear hWl
  unfold datV
  go_enter Try.func89, Try.ntmps89
  go_wp2_with fail
  refine named_world (fun W1 => Ext w W1 ∧ W1.heap.size = w.heap.size + 3 ∧ W1.cell? ⟨w.heap.size, 2, none⟩ = some (.int .u64 (d.ip : Int)) ∧ Rd W1 1 encU (.slice (some ⟨w.heap.size, 3, none⟩) 6 6) [d.a0, d.a1, d.a2, d.a3, d.a4, d.a5] ∧ (∀ j, j < 16 → W1.cell? ⟨w.heap.size + 2, j, none⟩ = some (.int .u32 (tb d 0 j : Nat))) ∧ (∀ j, j < 16 → W1.cell? ⟨w.heap.size + 1, j, none⟩ = some (.int .u32 0)) ∧ Fz W1 (w.heap.size + 2) ∧ Fz W1 (w.heap.size + 1)) ⟨?_, ?_, ?_, ?_, ?_, ?_, ?_, ?_⟩ ?_
  · exact (((Ext.refl _).alloc _).alloc _).alloc _
  · simp
  · simp [go_sem]
  · refine HhR.out _ _ ?_ ?_ ?_ ?_ ?_ ?_ <;> simp [go_sem]
  · intro j hj
    rw [HhT.out j hj]
    rcases lt16 j hj with rfl | rfl | rfl | rfl | rfl | rfl | rfl | rfl | rfl | rfl | rfl | rfl | rfl | rfl | rfl | rfl <;> simp [go_sem]
  · intro j hj
    rcases lt16 j hj with rfl | rfl | rfl | rfl | rfl | rfl | rfl | rfl | rfl | rfl | rfl | rfl | rfl | rfl | rfl | rfl <;> simp [go_sem]
  · intro j; simp [go_sem]
  · intro j; simp [go_sem]
  rintro W1 ⟨hx1, hs1, c2, hr1, ht1, hz1, hf1, hg1⟩
  have HF1 := Lib.hid hf1
  have HG1 := Lib.hid hg1
  clear hf1 hg1
  have HX1 := Lib.hid hx1
  have HR1 := Lib.hid hr1
  have HT1 := Lib.hid ht1
  have HZ1 := Lib.hid hz1
  clear hx1 hr1 ht1 hz1
  rw [show w.heap.size + 1 + 1 = w.heap.size + 2 by omega]
  (go_region_held3 (fun w' => w'.cell? ⟨w.heap.size, 2, none⟩ = some (.int .u64 (d.ip : Int))) (first | exact c2 | exact hx2.cell c2)
    ((go_at_call 107; refine (HhWi.out _ _ (HR1.out.ext ((Ext.refl _).drewN 1))).mono ?_; rintro e w2 ⟨au, cu, rfl, hu, hn2, hx2⟩)))
  have HU := Lib.hid hu
  have HX2 := Lib.hid (((HX1.out.drewN 1).trans hx2))
  have ht2 : ∀ j, j < 16 → w2.cell? ⟨w.heap.size + 2, j, none⟩ = some (.int .u32 (tb d 0 j : Nat)) := fun j hj => hx2.cell (HT1.out j hj)
  have hz2 : ∀ j, j < 16 → w2.cell? ⟨w.heap.size + 1, j, none⟩ = some (.int .u32 0) := fun j hj => hx2.cell (HZ1.out j hj)
  have hs2 : w.heap.size + 3 ≤ w2.heap.size := by have := hx2.size; rw [heap_drewN] at this; omega
  have hf2 : Fz w2 (w.heap.size + 2) := Fz.ext hx2 (by rw [heap_drewN]; omega) (fun j => (World.frozen?_drewN _ _ _).trans (HF1.out j))
  have hg2 : Fz w2 (w.heap.size + 1) := Fz.ext hx2 (by rw [heap_drewN]; omega) (fun j => (World.frozen?_drewN _ _ _).trans (HG1.out j))
  have HF2 := Lib.hid hf2
  have HG2 := Lib.hid hg2
  clear hf2 hg2
  have HT2 := Lib.hid ht2
  have HZ2 := Lib.hid hz2
  have hn3 : ∀ b o, au = some ⟨b, o, none⟩ → w.heap.size + 3 ≤ b := fun b o h => by have := hn2 b o h; rw [heap_drewN] at this; omega
  have HN3 := Lib.hid hn3
  clear hu hx2 ht2 hz2 c2 hn2 hn3
  go_wp2_with fail
  go_loopw [17] (fun i wr => ∃ k : Nat, k ≤ 7 ∧ i = .int .i64 k ∧ Ext w wr ∧ Keep (fun b => b ≠ w.heap.size + 2 ∧ b < w2.heap.size) w2 wr ∧ Fz wr (w.heap.size + 2) ∧ ∀ j, j < 16 → wr.cell? ⟨w.heap.size + 2, j, none⟩ = some (.int .u32 (tb d k j : Nat))) (fun i _ => 7 - (intOf i).toNat)
  case atStart => exact ⟨0, by omega, rfl, HX2.out, Keep.refl _ _, HF2.out, HT2.out⟩
  case round =>
    obtain ⟨k, hk, rfl, hx, hkp, hfz, htb⟩ := hrel
    have HX := Lib.hid hx
    by_cases hlt : k < 7
    · obtain ⟨a, c, e, -, -, hat⟩ := HU.out
      obtain ⟨rfl, -, rfl⟩ := Value.slice.inj e
      obtain ⟨b, o, rfl, hc⟩ := hat k hlt
      have hcb : w2.cell? ⟨b, o + k, none⟩ = some (.int .u64 ((wide d)[k]'hlt : Nat)) := by have := hc 0 (by simp [encU]); simpa [encU] using this
      have hbn := HN3.out b o rfl
      have hbl := World.block_lt_of_cell? _ _ hcb
      have hcr : wr.cell? ⟨b, o + k, none⟩ = some (.int .u64 ((wide d)[k]'hlt : Nat)) := by rw [hkp.cell ⟨by simp only; omega, hbl⟩]; exact hcb
      have hset := fun (W : World) (h : ∀ j, j < 16 → W.cell? ⟨w.heap.size + 2, j, none⟩ = some (.int .u32 (tb d k j : Nat))) => tb_set (d := d) hlt h
      have hHk := HhH.out k hlt
      have q1 := htb (2 + 2 * k) (by omega)
      have q2 := htb (3 + 2 * k) (by omega)
      have htb9 := htb
      have hzl : w.heap.size + 2 < wr.heap.size := World.block_lt_of_cell? _ _ q1
      have Hhset := Lib.hid hset
      clear hset
      have Hhtb9 := Lib.hid htb9
      clear htb9
      have Hhkp := Lib.hid hkp
      clear hkp
      have Hhc := Lib.hid hc
      clear hc
      clear hat hcb e hx htb
      generalize (wide d)[k]'hlt = x at *
      have HhHk := Lib.hid hHk
      clear hHk
      go_wp2_with ((go_at_call 108; refine (HhHk.out _).mono ?_; rintro e w4 ⟨rfl, hx4⟩; have HX4 := Lib.hid hx4; have q4 := hx4.cell q1; have q5 := hx4.cell q2; have hf4 := Fz.ext hx4 hzl hfz; have f1 := hf4 (2 + 2 * k); have f2 := hf4 (3 + 2 * k); have HF4 := Lib.hid hf4; clear hx4 hf4))
      refine ⟨?_, ?_⟩
      · refine ⟨k + 1, by omega, by go_num, ((HX.out.trans HX4.out).setCell (by simp only; omega) _).setCell (by simp only; omega) _, ?_, (HF4.out.set _ _).set _ _, Hhset.out _ fun j hj => HX4.out.cell (Hhtb9.out j hj)⟩
        refine (Hhkp.out.trans (Keep.of_below HX4.out fun b hb => by have := Hhkp.out.size; omega)).trans ((Keep.setCell _ (fun h => h.1 rfl) _).trans (Keep.setCell _ (fun h => h.1 rfl) _))
      · simp [intOf]; omega
    · obtain rfl : k = 7 := by omega
      have c0 : wr.cell? ⟨w.heap.size + 2, 0, none⟩ = some (.int .u32 (d.nr : Nat)) := htb 0 (by omega)
      have z0 : wr.cell? ⟨w.heap.size + 1, 0, none⟩ = some (.int .u32 0) := (hkp.cell ⟨by simp only; omega, by simp only; omega⟩).trans (HZ2.out 0 (by omega))
      have c1 : wr.cell? ⟨w.heap.size + 2, 1, none⟩ = some (.int .u32 (d.ar : Nat)) := htb 1 (by omega)
      have z1 : wr.cell? ⟨w.heap.size + 1, 1, none⟩ = some (.int .u32 0) := (hkp.cell ⟨by simp only; omega, by simp only; omega⟩).trans (HZ2.out 1 (by omega))
      have c2 : wr.cell? ⟨w.heap.size + 2, 2, none⟩ = some (.int .u32 (lo d.ip : Nat)) := htb 2 (by omega)
      have z2 : wr.cell? ⟨w.heap.size + 1, 2, none⟩ = some (.int .u32 0) := (hkp.cell ⟨by simp only; omega, by simp only; omega⟩).trans (HZ2.out 2 (by omega))
      have c3 : wr.cell? ⟨w.heap.size + 2, 3, none⟩ = some (.int .u32 (hi d.ip : Nat)) := htb 3 (by omega)
      have z3 : wr.cell? ⟨w.heap.size + 1, 3, none⟩ = some (.int .u32 0) := (hkp.cell ⟨by simp only; omega, by simp only; omega⟩).trans (HZ2.out 3 (by omega))
      have c4 : wr.cell? ⟨w.heap.size + 2, 4, none⟩ = some (.int .u32 (lo d.a0 : Nat)) := htb 4 (by omega)
      have z4 : wr.cell? ⟨w.heap.size + 1, 4, none⟩ = some (.int .u32 0) := (hkp.cell ⟨by simp only; omega, by simp only; omega⟩).trans (HZ2.out 4 (by omega))
      have c5 : wr.cell? ⟨w.heap.size + 2, 5, none⟩ = some (.int .u32 (hi d.a0 : Nat)) := htb 5 (by omega)
      have z5 : wr.cell? ⟨w.heap.size + 1, 5, none⟩ = some (.int .u32 0) := (hkp.cell ⟨by simp only; omega, by simp only; omega⟩).trans (HZ2.out 5 (by omega))
      have c6 : wr.cell? ⟨w.heap.size + 2, 6, none⟩ = some (.int .u32 (lo d.a1 : Nat)) := htb 6 (by omega)
      have z6 : wr.cell? ⟨w.heap.size + 1, 6, none⟩ = some (.int .u32 0) := (hkp.cell ⟨by simp only; omega, by simp only; omega⟩).trans (HZ2.out 6 (by omega))
      have c7 : wr.cell? ⟨w.heap.size + 2, 7, none⟩ = some (.int .u32 (hi d.a1 : Nat)) := htb 7 (by omega)
      have z7 : wr.cell? ⟨w.heap.size + 1, 7, none⟩ = some (.int .u32 0) := (hkp.cell ⟨by simp only; omega, by simp only; omega⟩).trans (HZ2.out 7 (by omega))
      have c8 : wr.cell? ⟨w.heap.size + 2, 8, none⟩ = some (.int .u32 (lo d.a2 : Nat)) := htb 8 (by omega)
      have z8 : wr.cell? ⟨w.heap.size + 1, 8, none⟩ = some (.int .u32 0) := (hkp.cell ⟨by simp only; omega, by simp only; omega⟩).trans (HZ2.out 8 (by omega))
      have c9 : wr.cell? ⟨w.heap.size + 2, 9, none⟩ = some (.int .u32 (hi d.a2 : Nat)) := htb 9 (by omega)
      have z9 : wr.cell? ⟨w.heap.size + 1, 9, none⟩ = some (.int .u32 0) := (hkp.cell ⟨by simp only; omega, by simp only; omega⟩).trans (HZ2.out 9 (by omega))
      have c10 : wr.cell? ⟨w.heap.size + 2, 10, none⟩ = some (.int .u32 (lo d.a3 : Nat)) := htb 10 (by omega)
      have z10 : wr.cell? ⟨w.heap.size + 1, 10, none⟩ = some (.int .u32 0) := (hkp.cell ⟨by simp only; omega, by simp only; omega⟩).trans (HZ2.out 10 (by omega))
      have c11 : wr.cell? ⟨w.heap.size + 2, 11, none⟩ = some (.int .u32 (hi d.a3 : Nat)) := htb 11 (by omega)
      have z11 : wr.cell? ⟨w.heap.size + 1, 11, none⟩ = some (.int .u32 0) := (hkp.cell ⟨by simp only; omega, by simp only; omega⟩).trans (HZ2.out 11 (by omega))
      have c12 : wr.cell? ⟨w.heap.size + 2, 12, none⟩ = some (.int .u32 (lo d.a4 : Nat)) := htb 12 (by omega)
      have z12 : wr.cell? ⟨w.heap.size + 1, 12, none⟩ = some (.int .u32 0) := (hkp.cell ⟨by simp only; omega, by simp only; omega⟩).trans (HZ2.out 12 (by omega))
      have c13 : wr.cell? ⟨w.heap.size + 2, 13, none⟩ = some (.int .u32 (hi d.a4 : Nat)) := htb 13 (by omega)
      have z13 : wr.cell? ⟨w.heap.size + 1, 13, none⟩ = some (.int .u32 0) := (hkp.cell ⟨by simp only; omega, by simp only; omega⟩).trans (HZ2.out 13 (by omega))
      have c14 : wr.cell? ⟨w.heap.size + 2, 14, none⟩ = some (.int .u32 (lo d.a5 : Nat)) := htb 14 (by omega)
      have z14 : wr.cell? ⟨w.heap.size + 1, 14, none⟩ = some (.int .u32 0) := (hkp.cell ⟨by simp only; omega, by simp only; omega⟩).trans (HZ2.out 14 (by omega))
      have c15 : wr.cell? ⟨w.heap.size + 2, 15, none⟩ = some (.int .u32 (hi d.a5 : Nat)) := htb 15 (by omega)
      have z15 : wr.cell? ⟨w.heap.size + 1, 15, none⟩ = some (.int .u32 0) := (hkp.cell ⟨by simp only; omega, by simp only; omega⟩).trans (HZ2.out 15 (by omega))
      have hfz1 : Fz wr (w.heap.size + 1) := Fz.keep hkp ⟨by omega, by omega⟩ HG2.out
      have g0 : wr.frozen? ⟨w.heap.size + 1, 0, none⟩ = false := hfz1 0
      have g1 : wr.frozen? ⟨w.heap.size + 1, 1, none⟩ = false := hfz1 1
      have g2 : wr.frozen? ⟨w.heap.size + 1, 2, none⟩ = false := hfz1 2
      have g3 : wr.frozen? ⟨w.heap.size + 1, 3, none⟩ = false := hfz1 3
      have g4 : wr.frozen? ⟨w.heap.size + 1, 4, none⟩ = false := hfz1 4
      have g5 : wr.frozen? ⟨w.heap.size + 1, 5, none⟩ = false := hfz1 5
      have g6 : wr.frozen? ⟨w.heap.size + 1, 6, none⟩ = false := hfz1 6
      have g7 : wr.frozen? ⟨w.heap.size + 1, 7, none⟩ = false := hfz1 7
      have g8 : wr.frozen? ⟨w.heap.size + 1, 8, none⟩ = false := hfz1 8
      have g9 : wr.frozen? ⟨w.heap.size + 1, 9, none⟩ = false := hfz1 9
      have g10 : wr.frozen? ⟨w.heap.size + 1, 10, none⟩ = false := hfz1 10
      have g11 : wr.frozen? ⟨w.heap.size + 1, 11, none⟩ = false := hfz1 11
      have g12 : wr.frozen? ⟨w.heap.size + 1, 12, none⟩ = false := hfz1 12
      have g13 : wr.frozen? ⟨w.heap.size + 1, 13, none⟩ = false := hfz1 13
      have g14 : wr.frozen? ⟨w.heap.size + 1, 14, none⟩ = false := hfz1 14
      have g15 : wr.frozen? ⟨w.heap.size + 1, 15, none⟩ = false := hfz1 15
      have Hhfz1 := Lib.hid hfz1
      clear hfz1
      have Hhfz := Lib.hid hfz
      clear hfz
      have Hhtb := Lib.hid htb
      clear htb
      have Hhkp := Lib.hid hkp
      clear hkp
      clear hx
      go_wp2_with fail
      refine bodyPost_ret (v := tabV d) (by simp [results, Try.results89, go_sem, z0, z1, z2, z3, z4, z5, z6, z7, z8, z9, z10, z11, z12, z13, z14, z15]; rfl) rfl ⟨rfl, ?_⟩
      repeat (refine Ext.setCell ?_ (by simp only; omega) _)
      exact HX.out
end L25
end Go.Proofs.Ytkmhfjnjfghnjaa

