/- Layer 24: the walks of the reference's build and Build. -/
import Derived.Test.YtaclndhenhjjaaaTreeD
import Derived.Test.YtaclndhenhjjaaaSpanG
namespace Go.Proofs.Ytaclndhenhjjaaa
open Go.RowKit V
namespace L24
open L23
set_option maxRecDepth 100000 in
set_option maxHeartbeats 1000000 in
theorem refbuild_calls : ∀ (m : Nat) (v : Value) (l : List Span) (a : Nat), l.length ≤ m → 0 < l.length → l.length ≤ 1000 → a + 2 * l.length ≤ 100000 → (∀ s ∈ l, OkS s) → ∀ (w : World), Rd w 3 encS v l →
    Calls Try.prog 39 #[v, .int .i64 (a : Int)] w fun e w' => ∃ u, e = .returned u ∧ Ext w w' ∧ OwnN w' w.heap.size u (tre l a) := by
  intro m
  induction m with
  | zero => intro v l a h1 h2; omega
  | succ m ih =>
  intro v l a hm hp hl ha hok w hv
  have hvR := hv
  obtain ⟨ad, c, rfl, hac, hca⟩ := rdS_cell hv
  clear hv
  by_cases h1 : l.length = 1
  · obtain ⟨b, o, rfl, -, -, f3⟩ := hca 0 hp
    rw [Nat.zero_mul, Nat.add_zero] at f3
    have hd : ((l.length : Int) == 1) = true := by rw [h1]; rfl
    have hb1 : (0 : Int) < (l.length : Int) := by omega
    have htr := tre_one (a := a) h1
    have hwy : wy l 0 = l[0].way := wy_get hp
    rw [← hwy] at f3
    generalize wy l 0 = y at *
    have Hhwy := Lib.hid hwy
    clear hwy
    have Hhtr := Lib.hid htr
    clear htr
    have Hh1 := Lib.hid h1
    clear h1
    clear hca ih hok
    go_enter Try.func39, Try.ntmps39
    go_wp2
    go_ret
    refine ⟨_, rfl, (Ext.refl _).alloc _, ?_⟩
    rw [Hhtr.out]
    exact own_lit encN_len w [⟨true, y, 0, 0, 0⟩] _ _ _ rfl (Nat.le_refl _) (by unfold maxLen; simp)
  · have h2 : 2 ≤ l.length := by omega
    have hd : ((l.length : Int) == 1) = false := by simp; omega
    obtain ⟨k, hk⟩ : ∃ k, k = l.length / 2 := ⟨_, rfl⟩
    have hk' : (l.length : Int) / 2 = (k : Int) := by omega
    have htr := tre_cons (a := a) h2
    rw [← hk] at htr
    have hkl : k < l.length := by omega
    have hk1 : 1 ≤ k := by omega
    have hlt : (l.take k).length = k := by rw [List.length_take]; omega
    have hld : (l.drop k).length = l.length - k := by rw [List.length_drop]
    have ht1 := tre_len (l.take k) (by omega) (a + 1)
    have ht2 := tre_len (l.drop k) (by omega) (a + 1 + (2 * k - 1))
    rw [hlt] at ht1
    rw [hld] at ht2
    obtain ⟨b, o, rfl, f1, -, -⟩ := hca k hkl
    have hlo : loAt l k = l[k].lo := loAt_get hkl
    have hlol := (hok _ (List.getElem_mem hkl)).l
    rw [← hlo] at f1 hlol
    have hsz : (Try.prog.info? 33).map (·.size) = some 3 := by kernel_rfl
    obtain ⟨A, hsl, hsA, hsN⟩ := run_slice_from (P := Try.prog) Try.underlying24 (by kernel_rfl) hsz (some ⟨b, o, none⟩) l.length c k (by omega)
    replace hsl := hsl (k : Int) rfl
    have hR1 := fun W (hx : Ext w W) => ih (.slice (some ⟨b, o, none⟩) k c) (l.take k) (a + 1) (by omega) (by omega) (by omega) (by omega) (fun s hs => hok s (List.mem_of_mem_take hs)) W ((hvR.ext hx).take (by omega) (by omega) (by intro h; cases h))
    have hR2 := fun W (hx : Ext w W) => ih (.slice A (l.length - k) (c - k)) (l.drop k) (a + 1 + (2 * k - 1)) (by omega) (by omega) (by omega) (by omega) (fun s hs => hok s (List.mem_of_mem_drop hs)) W ((hvR.ext hx).drop (by omega) (fun h => hsA (by omega)) (fun h => by have := hsN h; cases this) (by omega))
    have ec1 : ((a + 1 : Nat) : Int) = (a : Int) + 1 := by omega
    have ec2 : ((a + 1 + (2 * k - 1) : Nat) : Int) = (a : Int) + 1 + ((2 * k - 1 : Nat) : Int) := by omega
    rw [ec1] at hR1
    rw [ec2] at hR2
    generalize tre (l.take k) (a + 1) = t1 at *
    generalize tre (l.drop k) (a + 1 + (2 * k - 1)) = t2 at *
    generalize loAt l k = lo at *
    have hq1 : 2 * k - 1 ≤ 2000 := by omega
    have hq2 : t2.length ≤ 2000 := by omega
    have hb1 : (k : Int) < (l.length : Int) := by omega
    generalize hq : 2 * k - 1 = q at *
    have hl31 : ∀ nd : Node, [nd].length + t1.length = q + 1 := fun nd => by rw [ht1, List.length_singleton]; omega
    have hl32 : ∀ nd : Node, ([nd] ++ t1).length = q + 1 := fun nd => by rw [List.length_append, hl31]
    have hl33 : ∀ nd : Node, ([nd] ++ t1).length + t2.length = q + 1 + t2.length := fun nd => by rw [hl32]
    have Hhtr := Lib.hid htr
    clear htr
    have Hhk := Lib.hid hk
    clear hk
    have Hhlt := Lib.hid hlt
    clear hlt
    have Hhld := Lib.hid hld
    clear hld
    have Hht2 := Lib.hid ht2
    clear ht2
    have Hhlo := Lib.hid hlo
    clear hlo
    have Hhq := Lib.hid hq
    clear hq
    have HhR1 := Lib.hid hR1
    clear hR1
    have HhR2 := Lib.hid hR2
    clear hR2
    have Hec1 := Lib.hid ec1
    clear ec1
    have Hec2 := Lib.hid ec2
    clear ec2
    have Hh1 := Lib.hid h1
    clear h1
    clear hca ih hok hsA hsN
    go_enter Try.func39, Try.ntmps39
    obtain ⟨nd, hnd⟩ : ∃ nd : Node, nd = ⟨false, 0, lo, (a : Int) + 1, (a : Int) + 1 + (q : Int)⟩ := ⟨_, rfl⟩
    rw [← hnd] at Hhtr
    replace hl31 := hl31 nd
    replace hl32 := hl32 nd
    replace hl33 := hl33 nd
    have Hhnd := Lib.hid hnd
    clear hnd
    go_wp2_with (first
      | (go_at_call 39; refine (HhR2.out _ hx1).mono ?_; rintro e w2 ⟨u2, rfl, hx2, hq2⟩; obtain ⟨au2, cu2, rfl, -⟩ := rdN_cell hq2.rd; have HX2 := Lib.hid (hx1.trans hx2); have HQ1 := Lib.hid (hr1.ext hx2); have HQ2 := Lib.hid hq2.rd; replace f1 := hx2.cell (hx1.cell f1); clear hx1 hx2 hr1 hq2)
      | (go_at_call 39; refine (HhR1.out _ (Ext.refl _)).mono ?_; rintro e w1 ⟨u1, rfl, hx1, hq1⟩; obtain ⟨au1, cu1, rfl, -⟩ := rdN_cell hq1.rd; have hr1 := hq1.rd; rw [ht1] at hr1 ⊢; clear hq1)
      | (at_builtin; refine wpList_app_rd rfl (.tmp 53) (.tmp 54) _ rfl Try.underlying44 infoN rfl (by decide) encN_len encN_one w2 _ _ ([nd] ++ t1) t2 rfl rfl (by rw [hl32]; exact HO3.out) (HQ2.out.ext HX3.out) (by simp; omega) (by decide) HX3.out ?_; intro au4 cu4 w4 ho4 hx4; rw [hl33] at ho4 ⊢)
      | (at_builtin; refine wpList_app_rd rfl (.tmp 50) (.tmp 51) _ rfl Try.underlying44 infoN rfl (by decide) encN_len encN_one w2 _ _ [nd] t1 rfl rfl (by rw [Hhnd.out]; exact own_lit encN_len w2 [⟨false, 0, lo, (a : Int) + 1, (a : Int) + 1 + (q : Int)⟩] _ _ w2.heap.size rfl (Nat.le_refl _) (by unfold maxLen; simp)) (HQ1.out.ext ((Ext.refl _).alloc _)) (by simp; omega) (by decide) ((Ext.refl _).alloc _) ?_; intro au3 cu3 w3 ho3 hx3; rw [hl31] at ho3 ⊢; have HX3 := Lib.hid hx3; have HO3 := Lib.hid ho3; clear hx3 ho3))
    go_ret
    refine ⟨_, rfl, HX2.out.trans hx4, ?_⟩
    rw [Hhtr.out]
    refine OwnN.base (base := w2.heap.size) ?_ HX2.out.size
    unfold OwnN
    have e1 : (nd :: (t1 ++ t2)).length = q + 1 + t2.length := by simp; omega
    rw [e1]
    exact ho4
set_option maxRecDepth 100000 in
set_option maxHeartbeats 1000000 in
theorem refBuild_calls (v : Value) (l : List Span) (hl : l.length ≤ 1000) (hok : ∀ s ∈ l, OkS s) (w : World) (hv : Rd w 3 encS v l) :
    Calls Try.prog 26 #[v] w fun e w' => ∃ u, e = .returned (.tuple #[u, .int .i64 (buildA l).2]) ∧ Ext w w' ∧ OwnN w' w.heap.size u (buildA l).1 := by
  have hWh := refWhole_calls v l (by omega) hok w hv
  cases hw : whole l
  case false =>
    have hA : buildA l = ([], 240) := by unfold buildA; rw [hw]; rfl
    rw [hA]
    rw [hw] at hWh
    have HhWh := Lib.hid hWh
    clear hWh
    have Hhw := Lib.hid hw
    clear hw
    have HhA := Lib.hid hA
    clear hA
    go_enter Try.func26, Try.ntmps26
    go_wp2_with (go_at_call 20; refine HhWh.out.mono ?_; rintro e w1 ⟨rfl, hx1⟩)
    go_ret2
    exact ⟨_, rfl, hx1, World.ownsRow_nil _ _ _ _⟩
  case true =>
    have hA : buildA l = (tre l 0, 0) := by unfold buildA; rw [hw]; rfl
    have hp := whole_pos hw
    have hB := fun W (hx : Ext w W) => refbuild_calls l.length v l 0 (Nat.le_refl _) hp hl (by omega) hok W (hv.ext hx)
    rw [hA]
    rw [hw] at hWh
    have HhWh := Lib.hid hWh
    clear hWh
    have Hhw := Lib.hid hw
    clear hw
    have HhA := Lib.hid hA
    clear hA
    have HhB := Lib.hid hB
    clear hB
    go_enter Try.func26, Try.ntmps26
    go_wp2_with (first
      | (go_at_call 20; refine HhWh.out.mono ?_; rintro e w1 ⟨rfl, hx1⟩)
      | (go_at_call 39; refine (HhB.out _ hx1).mono ?_; rintro e w2 ⟨u, rfl, hx2, hq2⟩))
    go_ret2
    exact ⟨_, rfl, hx1.trans hx2, hq2.base hx1.size⟩
end L24
end Go.Proofs.Ytaclndhenhjjaaa
