import Derived.Test.YtkmhfjnjfghnjaaMq43
/- Layer 3: the walks of the reference's Print and Word. -/
namespace Go.Proofs.Ytkmhfjnjfghnjaa
open Go.RowKit V
namespace L25
def args (d : Dat) : List Nat := [d.a0, d.a1, d.a2, d.a3, d.a4, d.a5]
def pr (d : Dat) : Nat → List Nat
  | 0 => pk d.nr 4 ++ pk d.ar 4 ++ pk d.ip 8
  | k + 1 => pr d k ++ pk ((args d).getD k 0) 8
theorem pr_len (d : Dat) : ∀ k, (pr d k).length = 16 + 8 * k
  | 0 => by simp [pr, pk_len]
  | k + 1 => by simp only [pr, List.length_append, pr_len d k, pk_len]; omega
theorem pk_bd (x : Nat) : ∀ n, ∀ y ∈ pk x n, y < 256
  | 0, y, h => by cases h
  | n + 1, y, h => by
    simp only [pk, List.mem_append, List.mem_singleton] at h
    rcases h with h | h
    · exact pk_bd x n y h
    · omega
theorem pr_bd (d : Dat) : ∀ n, ∀ y ∈ pr d n, y < 256
  | 0, y, h => by
    simp only [pr, List.mem_append] at h
    rcases h with (h | h) | h <;> exact pk_bd _ _ _ h
  | n + 1, y, h => by
    simp only [pr, List.mem_append] at h
    rcases h with h | h
    · exact pr_bd d n y h
    · exact pk_bd _ _ _ h
theorem args_bd {d : Dat} (hd : OkD d) {k : Nat} (h : k < 6) : (args d).getD k 0 < 18446744073709551616 := by
  rcases (show k = 0 ∨ k = 1 ∨ k = 2 ∨ k = 3 ∨ k = 4 ∨ k = 5 by omega) with rfl | rfl | rfl | rfl | rfl | rfl
  · exact hd.a0
  · exact hd.a1
  · exact hd.a2
  · exact hd.a3
  · exact hd.a4
  · exact hd.a5
theorem gv4 (bs : List Nat) (a : Nat) : gv bs a 4 = ((bs.getD (a + 3) 0 * 256 + bs.getD (a + 2) 0) * 256 + bs.getD (a + 1) 0) * 256 + bs.getD a 0 := by simp [gv]
theorem w4 (x : Nat) (h : x < 4294967296) : ((x / 256 / 256 / 256 % 256 * 256 + x / 256 / 256 % 256) * 256 + x / 256 % 256) * 256 + x % 256 = x := by omega
theorem w4lo (x : Nat) : ((x / 256 / 256 / 256 % 256 * 256 + x / 256 / 256 % 256) * 256 + x / 256 % 256) * 256 + x % 256 = lo x := by unfold lo; omega
theorem w4hi (x : Nat) (h : x < 18446744073709551616) : ((x / 256 / 256 / 256 / 256 / 256 / 256 / 256 % 256 * 256 + x / 256 / 256 / 256 / 256 / 256 / 256 % 256) * 256 + x / 256 / 256 / 256 / 256 / 256 % 256) * 256 + x / 256 / 256 / 256 / 256 % 256 = hi x := by unfold hi; omega
def prE (d : Dat) : List Nat := [d.nr % 256, d.nr / 256 % 256, d.nr / 256 / 256 % 256, d.nr / 256 / 256 / 256 % 256, d.ar % 256, d.ar / 256 % 256, d.ar / 256 / 256 % 256, d.ar / 256 / 256 / 256 % 256, d.ip % 256, d.ip / 256 % 256, d.ip / 256 / 256 % 256, d.ip / 256 / 256 / 256 % 256, d.ip / 256 / 256 / 256 / 256 % 256, d.ip / 256 / 256 / 256 / 256 / 256 % 256, d.ip / 256 / 256 / 256 / 256 / 256 / 256 % 256, d.ip / 256 / 256 / 256 / 256 / 256 / 256 / 256 % 256, d.a0 % 256, d.a0 / 256 % 256, d.a0 / 256 / 256 % 256, d.a0 / 256 / 256 / 256 % 256, d.a0 / 256 / 256 / 256 / 256 % 256, d.a0 / 256 / 256 / 256 / 256 / 256 % 256, d.a0 / 256 / 256 / 256 / 256 / 256 / 256 % 256, d.a0 / 256 / 256 / 256 / 256 / 256 / 256 / 256 % 256, d.a1 % 256, d.a1 / 256 % 256, d.a1 / 256 / 256 % 256, d.a1 / 256 / 256 / 256 % 256, d.a1 / 256 / 256 / 256 / 256 % 256, d.a1 / 256 / 256 / 256 / 256 / 256 % 256, d.a1 / 256 / 256 / 256 / 256 / 256 / 256 % 256, d.a1 / 256 / 256 / 256 / 256 / 256 / 256 / 256 % 256, d.a2 % 256, d.a2 / 256 % 256, d.a2 / 256 / 256 % 256, d.a2 / 256 / 256 / 256 % 256, d.a2 / 256 / 256 / 256 / 256 % 256, d.a2 / 256 / 256 / 256 / 256 / 256 % 256, d.a2 / 256 / 256 / 256 / 256 / 256 / 256 % 256, d.a2 / 256 / 256 / 256 / 256 / 256 / 256 / 256 % 256, d.a3 % 256, d.a3 / 256 % 256, d.a3 / 256 / 256 % 256, d.a3 / 256 / 256 / 256 % 256, d.a3 / 256 / 256 / 256 / 256 % 256, d.a3 / 256 / 256 / 256 / 256 / 256 % 256, d.a3 / 256 / 256 / 256 / 256 / 256 / 256 % 256, d.a3 / 256 / 256 / 256 / 256 / 256 / 256 / 256 % 256, d.a4 % 256, d.a4 / 256 % 256, d.a4 / 256 / 256 % 256, d.a4 / 256 / 256 / 256 % 256, d.a4 / 256 / 256 / 256 / 256 % 256, d.a4 / 256 / 256 / 256 / 256 / 256 % 256, d.a4 / 256 / 256 / 256 / 256 / 256 / 256 % 256, d.a4 / 256 / 256 / 256 / 256 / 256 / 256 / 256 % 256, d.a5 % 256, d.a5 / 256 % 256, d.a5 / 256 / 256 % 256, d.a5 / 256 / 256 / 256 % 256, d.a5 / 256 / 256 / 256 / 256 % 256, d.a5 / 256 / 256 / 256 / 256 / 256 % 256, d.a5 / 256 / 256 / 256 / 256 / 256 / 256 % 256, d.a5 / 256 / 256 / 256 / 256 / 256 / 256 / 256 % 256]
set_option maxRecDepth 100000 in
set_option maxHeartbeats 1000000 in
theorem pr_eq (d : Dat) : pr d 6 = prE d := by
  simp only [pr, pk, dv, args, prE, List.getD_cons_zero, List.getD_cons_succ, List.nil_append, List.cons_append]
set_option maxRecDepth 100000 in
set_option maxHeartbeats 4000000 in
theorem get_word {d : Dat} (hd : OkD d) (k : Nat) (h : k % 4 = 0) (h2 : k < 64) : gv (pr d 6) k 4 = wd d k := by
  rw [gv4]
  obtain ⟨j, rfl⟩ : ∃ j, k = 4 * j := ⟨k / 4, by omega⟩
  have hj : j < 16 := by omega
  have e : 4 * j / 4 = j := by omega
  unfold wd
  rw [e, pr_eq]
  clear h h2 e
  unfold prE wds
  rcases (show j = 0 ∨ j = 1 ∨ j = 2 ∨ j = 3 ∨ j = 4 ∨ j = 5 ∨ j = 6 ∨ j = 7 ∨ j = 8 ∨ j = 9 ∨ j = 10 ∨ j = 11 ∨ j = 12 ∨ j = 13 ∨ j = 14 ∨ j = 15 by omega) with rfl | rfl | rfl | rfl | rfl | rfl | rfl | rfl | rfl | rfl | rfl | rfl | rfl | rfl | rfl | rfl
  all_goals simp only [Nat.mul_zero, Nat.zero_add, Nat.reduceMul, Nat.reduceAdd, List.getD_cons_succ, List.getD_cons_zero]
  · exact w4 d.nr hd.nr
  · exact w4 d.ar hd.ar
  · exact w4lo d.ip
  · exact w4hi d.ip hd.ip
  · exact w4lo d.a0
  · exact w4hi d.a0 hd.a0
  · exact w4lo d.a1
  · exact w4hi d.a1 hd.a1
  · exact w4lo d.a2
  · exact w4hi d.a2 hd.a2
  · exact w4lo d.a3
  · exact w4hi d.a3 hd.a3
  · exact w4lo d.a4
  · exact w4hi d.a4 hd.a4
  · exact w4lo d.a5
  · exact w4hi d.a5 hd.a5
theorem own_base {W : World} {base base' e n k m c : Nat} {a : Option Addr} {zs : List Value} (h : W.ownsRow base e n (.slice a k c) m zs) (hb : base' ≤ base) : W.ownsRow base' e n (.slice a k c) m zs := by
  obtain ⟨h1, h2⟩ := h
  refine ⟨h1, ?_⟩
  rcases h2 with h2 | ⟨g, cap, cur, hv, hg, r⟩
  · exact .inl h2
  · exact .inr ⟨g, cap, cur, hv, by omega, r⟩
theorem own_ext {w w' : World} {base e n k m c : Nat} {a : Option Addr} {zs : List Value} (h : w.ownsRow base e n (.slice a k c) m zs) (hx : Ext w w') : w'.ownsRow base e n (.slice a k c) m zs := by
  obtain ⟨h1, h2⟩ := h
  refine ⟨h1, ?_⟩
  rcases h2 with h2 | ⟨g, cap, cur, hv, hg, hh, r⟩
  · exact .inl h2
  · exact .inr ⟨g, cap, cur, hv, hg, (hx.block (Array.getElem?_eq_some_iff.1 hh).1).trans hh, r⟩
set_option maxRecDepth 100000 in
set_option maxHeartbeats 1000000 in
theorem Print_calls (d : Dat) (hd : OkD d) (w : World) :
    Calls Try.prog 91 #[datV d] w fun e w' => ∃ a c, e = .returned (.slice a 64 c) ∧ Rd w' 1 encO (.slice a 64 c) (pr d 6) ∧ Ext w w' := by
  have h1 := hd.nr
  have h2 := hd.ar
  have hP1 := fun W => Put_calls d.nr 4 (by omega) (by omega) (by omega) W
  have hP2 := fun W => Put_calls d.ar 4 (by omega) (by omega) (by omega) W
  have hP3 := fun W => Put_calls d.ip 8 hd.ip (by omega) (by omega) W
  have hPa := fun (k : Nat) (hk : k < 6) (W : World) => Put_calls ((args d).getD k 0) 8 (args_bd hd hk) (by omega) (by omega) W
  have hAr : ∀ k, k < 6 → ∀ W : World, ∀ B, W.cell? ⟨B, 3, none⟩ = some (.int .u64 (d.a0 : Int)) → W.cell? ⟨B, 4, none⟩ = some (.int .u64 (d.a1 : Int)) → W.cell? ⟨B, 5, none⟩ = some (.int .u64 (d.a2 : Int)) →
      W.cell? ⟨B, 6, none⟩ = some (.int .u64 (d.a3 : Int)) → W.cell? ⟨B, 7, none⟩ = some (.int .u64 (d.a4 : Int)) → W.cell? ⟨B, 8, none⟩ = some (.int .u64 (d.a5 : Int)) → W.cell? ⟨B, 3 + k, none⟩ = some (.int .u64 ((args d).getD k 0 : Nat)) := by
    intro k hk W B c0 c1 c2 c3 c4 c5
    rcases (show k = 0 ∨ k = 1 ∨ k = 2 ∨ k = 3 ∨ k = 4 ∨ k = 5 by omega) with rfl | rfl | rfl | rfl | rfl | rfl
    · exact c0
    · exact c1
    · exact c2
    · exact c3
    · exact c4
    · exact c5
  have hl1 : (pk d.nr 4).length + (pk d.ar 4).length = 8 := by simp only [pk_len]
  have hl2 : (pk d.nr 4 ++ pk d.ar 4).length + (pk d.ip 8).length = 16 := by simp only [List.length_append, pk_len]
  have HhP1 := Lib.hid hP1
  clear hP1
  have HhP2 := Lib.hid hP2
  clear hP2
  have HhP3 := Lib.hid hP3
  clear hP3
  have HhPa := Lib.hid hPa
  clear hPa
  have HhAr := Lib.hid hAr
  clear hAr
  have Hhl1 := Lib.hid hl1
  clear hl1
  have Hhl2 := Lib.hid hl2
  clear hl2
  have hw1 : IntKind.u64.wrap (d.nr : Int) = (d.nr : Int) := IntWalk.u64_in _ (by omega)
  have hw2 : IntKind.u64.wrap (d.ar : Int) = (d.ar : Int) := IntWalk.u64_in _ (by omega)
  have Hh1 := Lib.hid h1
  clear h1
  have Hh2 := Lib.hid h2
  clear h2
  unfold datV
  go_enter Try.func91, Try.ntmps91
  go_wp2_with fail
  obtain ⟨W1, hW1⟩ : ∃ W1, W1 = w.alloc (.cells #[.int .u32 (d.nr : Int), .int .u32 (d.ar : Int), .int .u64 (d.ip : Int), .int .u64 (d.a0 : Int), .int .u64 (d.a1 : Int), .int .u64 (d.a2 : Int), .int .u64 (d.a3 : Int), .int .u64 (d.a4 : Int), .int .u64 (d.a5 : Int)] 40) := ⟨_, rfl⟩
  have hx1 : Ext w W1 := by rw [hW1]; exact (Ext.refl _).alloc _
  have hs1 : W1.heap.size = w.heap.size + 1 := by rw [hW1]; simp
  have c1 : W1.cell? ⟨w.heap.size, 1, none⟩ = some (.int .u32 (d.ar : Int)) := by rw [hW1]; simp [go_sem]
  have c2 : W1.cell? ⟨w.heap.size, 2, none⟩ = some (.int .u64 (d.ip : Int)) := by rw [hW1]; simp [go_sem]
  have ca : ∀ k, k < 6 → W1.cell? ⟨w.heap.size, 3 + k, none⟩ = some (.int .u64 ((args d).getD k 0 : Nat)) := by
    intro k hk
    refine HhAr.out k hk W1 _ ?_ ?_ ?_ ?_ ?_ ?_ <;> (rw [hW1]; simp [go_sem])
  rw [← hW1]
  clear hW1
  have HX1 := Lib.hid hx1
  have HC1 := Lib.hid c1
  have HC2 := Lib.hid c2
  have HCA := Lib.hid ca
  have Hs1 := Lib.hid hs1
  clear hx1 c1 c2 ca hs1
  refine (HhP1.out _).mono ?_
  rintro e w2 ⟨g2, rfl, ho2, hx2⟩
  have HO2 := Lib.hid ho2
  have HX2 := Lib.hid hx2
  have c1 := hx2.cell HC1.out
  clear ho2 hx2
  go_wp2_with fail
  refine (HhP2.out _).mono ?_
  rintro e w3 ⟨g3, rfl, ho3, hx3⟩
  have HO3 := Lib.hid (own_ext HO2.out hx3)
  have HR3 := Lib.hid (rd_of_own (n := 1) (enc := encO) (xs := pk d.ar 4) encO_len ho3)
  have HX3 := Lib.hid (HX2.out.trans hx3)
  clear ho3 hx3 c1
  go_wp2_with (at_builtin; refine wpList_app_rd rfl (.tmp 9) (.tmp 13) _ rfl Try.underlying131 infoO rfl (by decide) encO_len encO_one W1 _ _ (pk d.nr 4) (pk d.ar 4) rfl rfl HO3.out HR3.out (by rw [Hhl1.out]; omega) (by decide) HX3.out ?_; intro au4 cu4 w4 ho4 hx4; rw [Hhl1.out] at ho4 ⊢; have HO4 := Lib.hid ho4; have HX4 := Lib.hid hx4; have c2 := hx4.cell HC2.out; clear ho4 hx4)
  refine (HhP3.out _).mono ?_
  rintro e w5 ⟨g5, rfl, ho5, hx5⟩
  have HO5 := Lib.hid (own_ext HO4.out hx5)
  have HR5 := Lib.hid (rd_of_own (n := 1) (enc := encO) (xs := pk d.ip 8) encO_len ho5)
  have HX5 := Lib.hid (HX4.out.trans hx5)
  clear ho5 hx5 c2
  go_wp2_with (at_builtin; refine wpList_app_rd rfl (.tmp 15) (.tmp 18) _ rfl Try.underlying131 infoO rfl (by decide) encO_len encO_one W1 _ _ (pk d.nr 4 ++ pk d.ar 4) (pk d.ip 8) rfl rfl HO5.out HR5.out (by rw [Hhl2.out]; omega) (by decide) HX5.out ?_; intro au6 cu6 w6 ho6 hx6; rw [Hhl2.out] at ho6 ⊢; have HO6 := Lib.hid ho6; have HX6 := Lib.hid hx6; clear ho6 hx6)
  go_loopw [3, 4] (fun v i wr => ∃ k a c : Nat, ∃ ad : Option Addr, k ≤ 6 ∧ a = 16 + 8 * k ∧ i = .int .i64 k ∧ v = .slice ad a c ∧ Ext W1 wr ∧ wr.ownsRow W1.heap.size 5 1 (.slice ad a c) a ((pr d k).flatMap encO)) (fun _ i _ => 6 - (intOf i).toNat)
  case atStart => exact ⟨0, 16, _, _, by omega, rfl, rfl, rfl, HX6.out, HO6.out⟩
  case round =>
    obtain ⟨k, a, c, ad, hk, hak, rfl, rfl, hx, ho⟩ := hrel
    have HX := Lib.hid hx
    have HO := Lib.hid ho
    by_cases hlt : k < 6
    · have hc := hx.cell (HCA.out k hlt)
      have hPk := HhPa.out k hlt
      have hpr : pr d (k + 1) = pr d k ++ pk ((args d).getD k 0) 8 := rfl
      have hpl := pr_len d k
      have hl3 : (pr d k).length + (pk ((args d).getD k 0) 8).length = 24 + 8 * k := by rw [pr_len, pk_len]; omega
      generalize (args d).getD k 0 = x at *
      have hO9 : wr.ownsRow W1.heap.size 5 1 (.slice ad a c) (pr d k).length ((pr d k).flatMap encO) := by rw [hpl, ← hak]; exact ho
      have HhPk := Lib.hid hPk
      clear hPk
      have Hhpr := Lib.hid hpr
      clear hpr
      have Hhpl := Lib.hid hpl
      clear hpl
      have Hhl3 := Lib.hid hl3
      clear hl3
      have Hhak := Lib.hid hak
      clear hak
      have HO9 := Lib.hid hO9
      clear hO9 ho hx
      go_wp2_with fail
      refine (HhPk.out _).mono ?_
      rintro e w7 ⟨g7, rfl, ho7, hx7⟩
      have HO7 := Lib.hid (own_ext HO9.out hx7)
      have HR7 := Lib.hid (rd_of_own (n := 1) (enc := encO) (xs := pk x 8) encO_len ho7)
      have HX7 := Lib.hid (HX.out.trans hx7)
      clear ho7 hx7
      go_wp2_with (at_builtin; refine wpList_app_rd rfl (.tmp 24) (.tmp 29) _ rfl Try.underlying131 infoO rfl (by decide) encO_len encO_one W1 _ _ (pr d k) (pk x 8) rfl rfl HO7.out HR7.out (by rw [Hhl3.out]; omega) (by decide) HX7.out ?_; intro au8 cu8 w8 ho8 hx8; rw [Hhl3.out, ← Hhpr.out] at ho8; rw [Hhl3.out]; have HO8 := Lib.hid ho8; have HX8 := Lib.hid hx8; clear ho8 hx8)
      first
        | (go_roundw
           case rel => exact ⟨k + 1, _, _, _, by omega, by omega, by go_num, rfl, HX8.out, HO8.out⟩
           case measure => simp [intOf]; omega)
        | exact ⟨⟨k + 1, _, _, _, by omega, by omega, by go_num, rfl, HX8.out, HO8.out⟩, by simp [intOf]; omega⟩
    · obtain rfl : k = 6 := by omega
      have ha : a = 64 := by omega
      subst ha
      clear hx ho
      go_wp2_with fail
      go_ret
      exact ⟨_, _, rfl, rd_of_own (n := 1) (enc := encO) (xs := pr d 6) encO_len (by rw [pr_len]; exact HO.out), HX1.out.trans HX.out⟩
set_option maxRecDepth 100000 in
set_option maxHeartbeats 1000000 in
theorem refWord_calls (d : Dat) (hd : OkD d) (k : Nat) (w : World) :
    Calls Try.prog 60 #[datV d, .int .u32 (k : Int)] w fun e w' => e = .returned (.tuple #[.int .u32 ((wordA d k).1 : Nat), .int .i64 (wordA d k).2]) ∧ Ext w w' := by
  have hT := fun W => Print_calls d hd W
  have hbd := wd_bd hd k
  unfold datV at hT
  unfold datV
  by_cases h1 : k % 4 = 0
  · have d1 : ((k : Int) % 4 != 0) = false := by simp; omega
    by_cases h2 : k < 64
    · have hA : wordA d k = (wd d k, 0) := by unfold wordA; rw [if_pos (by simp [okW, h1, h2])]
      have d2 : decide (60 < (k : Int)) = false := decide_eq_false (by omega)
      have d2' : decide (60 < k) = false := decide_eq_false (by omega)
      have hG := fun v (W : World) (h : Rd W 1 encO v (pr d 6)) => Get_calls v (pr d 6) k (by rw [pr_len]; omega) (pr_bd d 6) (by rw [pr_len]; omega) W h
      rw [get_word hd k h1 h2] at hG
      have hw1 : IntKind.i64.wrap (k : Int) = (k : Int) := IntWalk.i64_in _ (by omega)
      have hw2 : IntKind.u32.wrap ((wd d k : Nat) : Int) = ((wd d k : Nat) : Int) := by simp [IntKind.wrap, IntKind.signed, IntKind.bits]; omega
      rw [hA]
      dsimp only
      generalize wd d k = x at *
      have HhA := Lib.hid hA
      clear hA
      have HhT := Lib.hid hT
      clear hT
      have HhG := Lib.hid hG
      clear hG
      have Hh1 := Lib.hid h1
      clear h1
      have Hh2 := Lib.hid h2
      clear h2
      go_enter Try.func60, Try.ntmps60
      go_wp2_with fail
      refine (HhT.out _).mono ?_
      rintro e w1 ⟨a, c, rfl, hr, hx1⟩
      have HR := Lib.hid hr
      have HX1 := Lib.hid hx1
      clear hr hx1
      go_wp2_with fail
      refine (HhG.out _ _ HR.out).mono ?_
      rintro e w2 ⟨rfl, hx2⟩
      go_wp2_with fail
      go_ret2
      exact ⟨rfl, (((Ext.refl _).alloc _).trans HX1.out).trans hx2⟩
    · have hA : wordA d k = (0, 41) := by unfold wordA; rw [if_neg (by simp [okW]; omega)]
      have d2 : decide (60 < (k : Int)) = true := decide_eq_true (by omega)
      have d2' : decide (60 < k) = true := decide_eq_true (by omega)
      rw [hA]
      have HhA := Lib.hid hA
      clear hA
      have HhT := Lib.hid hT
      clear hT
      have Hh1 := Lib.hid h1
      clear h1
      have Hh2 := Lib.hid h2
      clear h2
      go_enter Try.func60, Try.ntmps60
      go_wp2
      go_ret2
      exact ⟨rfl, ((Ext.refl _).alloc _)⟩
  · have d1 : ((k : Int) % 4 != 0) = true := by simp; omega
    have hA : wordA d k = (0, 41) := by unfold wordA; rw [if_neg (by simp [okW]; omega)]
    rw [hA]
    have HhA := Lib.hid hA
    clear hA
    have HhT := Lib.hid hT
    clear hT
    have Hh1 := Lib.hid h1
    clear h1
    go_enter Try.func60, Try.ntmps60
    go_wp2
    go_ret2
    exact ⟨rfl, ((Ext.refl _).alloc _)⟩
end L25
end Go.Proofs.Ytkmhfjnjfghnjaa

