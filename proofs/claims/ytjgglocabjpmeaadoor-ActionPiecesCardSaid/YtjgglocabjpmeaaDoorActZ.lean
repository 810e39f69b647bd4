/- Layer 20: the walks of the laws ActionLeast and ActionPieces. -/
import Derived.Test.YtjgglocabjpmeaaDoorActY
namespace Go.Proofs.YtjgglocabjpmeaaDoor
open Go.RowKit Go.Shelf Go.Sort V
attribute [local go_sem] Oper.semAt_some
namespace L20
set_option maxRecDepth 100000 in
set_option maxHeartbeats 4000000 in
theorem ActionLeast_calls (v : Value) (xs : List Nat) (hn : xs.length ≤ maxLen) (hx : ∀ x ∈ xs, x < 4294967296) (w : World) (ht : Tab w) (hI : Rd w 1 encU v xs) :
    Calls Tryd.prog 4 #[v] w fun e w' => e = .returned (.bool true) ∧ Ext w w' := by
  have hA := fun W (h : Tab W) => awake20_calls W h
  have hC := fun W (h : Rd W 1 encU v xs) => Combine_calls v xs (by unfold maxLen at hn; omega) hx W h
  have hct := comb_lt hx
  have hmem := comb_mem xs
  obtain ⟨hmt, hmin⟩ := comb_min xs
  have hLt := fun W => Less_calls top (comb xs) (by decide) hct W
  rw [show less top (comb xs) = false from decide_eq_false (by omega)] at hLt
  change ∀ W, Calls Tryd.prog 14 #[.int .u32 2147418112, .int .u32 (comb xs : Int)] W fun e w' => e = .returned (.bool false) ∧ W = w' at hLt
  have hLe : ∀ k (hk : k < xs.length) (W : World), Calls Tryd.prog 14 #[.int .u32 (xs[k] : Int), .int .u32 (comb xs : Int)] W fun e w' => e = .returned (.bool false) ∧ W = w' := fun k hk W => by
    have h := Less_calls xs[k] (comb xs) (hx _ (List.getElem_mem hk)) hct W
    rwa [show less xs[k] (comb xs) = false from decide_eq_false (by have := hmin _ (List.getElem_mem hk); omega)] at h
  have HT := Lib.hid ht
  have HR := Lib.hid hI
  obtain ⟨a, c, rfl, hle, hcell⟩ := rdU_cell hI
  generalize comb xs = X at *
  unfold maxLen at hn
  clear hI ht hmt hmin hct hx
  have HhA := Lib.hid hA
  clear hA
  have HhC := Lib.hid hC
  clear hC
  have HhLt := Lib.hid hLt
  clear hLt
  have HhLe := Lib.hid hLe
  clear hLe
  have Hhcell := Lib.hid hcell
  clear hcell
  have Hhmem := Lib.hid hmem
  clear hmem
  go_enter Tryd.func4, Tryd.ntmps4
  go_wp2_with fail
  refine (HhA.out _ HT.out).mono ?_
  rintro _ w1 ⟨rfl, hx1⟩
  have HX1 := Lib.hid hx1
  clear hx1
  by_cases hlen : 300 < xs.length
  · have g1 : decide (300 < xs.length) = true := decide_eq_true hlen
    have g2 : decide ((300 : Int) < (xs.length : Int)) = true := decide_eq_true (by omega)
    go_wp2_with fail
    go_ret
    exact ⟨rfl, HX1.out⟩
  have g1 : decide (300 < xs.length) = false := decide_eq_false hlen
  have g2 : decide ((300 : Int) < (xs.length : Int)) = false := decide_eq_false (by omega)
  go_wp2_with fail
  refine (HhC.out _ (HR.out.ext HX1.out)).mono ?_
  rintro _ w2 ⟨rfl, hx2⟩
  have HX2 := Lib.hid (HX1.out.trans hx2)
  clear hx2
  go_wp2_with fail
  go_loopw [4, 5] (fun fd i wr => ∃ (k : Nat) (p : Bool), k ≤ xs.length ∧ i = .int .i64 k ∧ fd = .bool p ∧ Ext w wr ∧ ((X = top ∨ ∃ j, ∃ h : j < xs.length, j < k ∧ xs[j] = X) → p = true)) (fun _ i _ => xs.length - (intOf i).toNat)
  case atStart => exact ⟨0, _, by omega, rfl, rfl, HX2.out, fun h => by
    rcases h with rfl | ⟨j, _, hj, _⟩
    · rfl
    · omega⟩
  case round =>
    obtain ⟨k, p, hk, rfl, rfl, hx, hp⟩ := hrel
    have HX := Lib.hid hx
    have Hhp := Lib.hid hp
    clear hp
    clear hx
    by_cases hlt : k < xs.length
    · obtain ⟨b, o, rfl, h0⟩ := Hhcell.out k hlt
      have hc := HX.out.cell h0
      have hL := HhLe.out k hlt
      have hkey : ∀ q : Bool, (xs[k] = X → q = true) → (p = true → q = true) → ((X = top ∨ ∃ j, ∃ h : j < xs.length, j < k + 1 ∧ xs[j] = X) → q = true) := fun q h1 h2 h => by
        rcases h with h | ⟨j, hj, hjk, e⟩
        · exact h2 (Hhp.out (.inl h))
        · rcases Nat.lt_or_ge j k with h3 | h3
          · exact h2 (Hhp.out (.inr ⟨j, hj, h3, e⟩))
          · obtain rfl : j = k := by omega
            exact h1 e
      have h0k : (0 : Int) ≤ (k : Int) ∧ (k : Int) < (xs.length : Int) := by omega
      have Hhkey := Lib.hid hkey
      clear hkey
      have HhL := Lib.hid hL
      clear hL
      clear h0
      generalize xs[k] = y at *
      have hyX : y = X → ((y : Int) == (X : Int)) = true := fun e => by rw [e]; simp
      have HhyX := Lib.hid hyX
      clear hyX
      cases p
      · go_wp2_with fail
        refine (HhL.out _).mono ?_
        rintro _ _ ⟨rfl, rfl⟩
        go_wp2_with fail
        go_roundw
        case rel => exact ⟨k + 1, _, by omega, by go_num, rfl, HX.out, Hhkey.out _ HhyX.out (fun h => by cases h)⟩
        case measure => simp [intOf]; omega
      · go_wp2_with fail
        refine (HhL.out _).mono ?_
        rintro _ _ ⟨rfl, rfl⟩
        go_wp2_with fail
        go_roundw
        case rel => exact ⟨k + 1, _, by omega, by go_num, rfl, HX.out, Hhkey.out _ (fun _ => rfl) (fun _ => rfl)⟩
        case measure => simp [intOf]; omega
    · obtain rfl : k = xs.length := by omega
      have hpt : p = true := Hhp.out (by
        rcases Hhmem.out with h | h
        · exact .inl h
        · obtain ⟨j, hj, e⟩ := List.mem_iff_getElem.1 h
          exact .inr ⟨j, hj, hj, e⟩)
      subst hpt
      go_wp2_with fail
      refine (HhLt.out _).mono ?_
      rintro _ _ ⟨rfl, rfl⟩
      go_wp2_with fail
      go_ret
      exact ⟨rfl, HX.out⟩
set_option maxRecDepth 100000 in
set_option maxHeartbeats 4000000 in
theorem ActionPieces_calls (v u : Value) (xs ys : List Nat) (hn : xs.length ≤ maxLen) (hm : ys.length ≤ maxLen) (hx : ∀ x ∈ xs, x < 4294967296) (hy : ∀ x ∈ ys, x < 4294967296) (w : World) (ht : Tab w) (hI : Rd w 1 encU v xs) (hJ : Rd w 1 encU u ys) :
    Calls Tryd.prog 6 #[v, u] w fun e w' => e = .returned (.bool true) ∧ Ext w w' := by
  have hA := fun W (h : Tab W) => awake20_calls W h
  have hCx := fun W (h : Rd W 1 encU v xs) => Combine_calls v xs (by unfold maxLen at hn; omega) hx W h
  have hCy := fun W (h : Rd W 1 encU u ys) => Combine_calls u ys (by unfold maxLen at hm; omega) hy W h
  have hcx := comb_lt hx
  have hcy := comb_lt hy
  have hxy : ∀ x ∈ xs ++ ys, x < 4294967296 := fun z hz => (List.mem_append.1 hz).elim (hx z) (hy z)
  have hCb := fun (hl : xs.length + ys.length ≤ 1000) W s (h : Rd W 1 encU s (xs ++ ys)) => Combine_calls s (xs ++ ys) (by rw [List.length_append]; omega) hxy W h
  have hCp := fun W => Combine_calls _ [comb xs, comb ys] (by simp) (fun z hz => by simp at hz; rcases hz with rfl | rfl <;> assumption) _ (rd_lit encU_len W [comb xs, comb ys] 22 W.heap.size rfl)
  rw [← comb_pieces] at hCp
  change ∀ W : World, Calls Tryd.prog 13 #[.slice (some ⟨W.heap.size, 0, none⟩) 2 2] (W.alloc (.cells #[.int .u32 (comb xs : Int), .int .u32 (comb ys : Int)] 22)) fun e w' => e = .returned (.int .u32 (comb (xs ++ ys) : Int)) ∧ Ext (W.alloc (.cells #[.int .u32 (comb xs : Int), .int .u32 (comb ys : Int)] 22)) w' at hCp
  have HT := Lib.hid ht
  have HR := Lib.hid hI
  have HS := Lib.hid hJ
  obtain ⟨a, c, rfl, hle, -⟩ := rdU_cell hI
  obtain ⟨a2, c2, rfl, hle2, -⟩ := rdU_cell hJ
  generalize comb xs = X at *
  generalize comb ys = Y at *
  generalize comb (xs ++ ys) = Z at *
  have hl1 : ([] : List Nat).length + xs.length = xs.length := Nat.zero_add _
  unfold maxLen at hn hm
  clear hI hJ ht hcx hcy hx hy hxy
  have HhA := Lib.hid hA
  clear hA
  have HhCx := Lib.hid hCx
  clear hCx
  have HhCy := Lib.hid hCy
  clear hCy
  have HhCb := Lib.hid hCb
  clear hCb
  have HhCp := Lib.hid hCp
  clear hCp
  have Hhl1 := Lib.hid hl1
  clear hl1
  go_enter Tryd.func6, Tryd.ntmps6
  go_wp2_with fail
  refine (HhA.out _ HT.out).mono ?_
  rintro _ w1 ⟨rfl, hx1⟩
  have HX1 := Lib.hid hx1
  clear hx1
  by_cases hlen : 100 < xs.length
  · have g1 : decide (100 < xs.length) = true := decide_eq_true hlen
    have g2 : decide ((100 : Int) < (xs.length : Int)) = true := decide_eq_true (by omega)
    go_wp2_with fail
    go_ret
    exact ⟨rfl, HX1.out⟩
  have g1 : decide (100 < xs.length) = false := decide_eq_false hlen
  have g2 : decide ((100 : Int) < (xs.length : Int)) = false := decide_eq_false (by omega)
  by_cases hlen2 : 100 < ys.length
  · have g3 : decide (100 < ys.length) = true := decide_eq_true hlen2
    have g4 : decide ((100 : Int) < (ys.length : Int)) = true := decide_eq_true (by omega)
    go_wp2_with fail
    go_ret
    exact ⟨rfl, HX1.out⟩
  have g3 : decide (100 < ys.length) = false := decide_eq_false hlen2
  have g4 : decide ((100 : Int) < (ys.length : Int)) = false := decide_eq_false (by omega)
  have hCb := HhCb.out (by omega)
  have HhCb := Lib.hid hCb
  clear hCb
  go_wp2_with (first
    | (at_make; refine wpList_make_room rfl _ _ 29 rfl Tryd.underlying29 infoU w _ _ _ (xs.length + ys.length) rfl rfl (by omega) (by omega) (by unfold maxLen; omega) HX1.out ?_; intro w2 ho2 hx2; have HO2 := Lib.hid ho2; have HX2 := Lib.hid hx2; clear ho2 hx2)
    | (at_builtin; refine wpList_app_rd rfl (.tmp 22) (.tmp 23) _ rfl Tryd.underlying29 infoU rfl (by decide) encU_len encU_one w _ _ [] xs rfl rfl HO2.out (HR.out.ext HX2.out) (by rw [Hhl1.out]; omega) (by decide) HX2.out ?_; intro au3 cu3 w3 ho3 hx3; rw [Hhl1.out] at ho3 ⊢; have HO3 := Lib.hid ho3; have HX3 := Lib.hid hx3; clear ho3 hx3)
    | (at_builtin; refine wpList_app_rd rfl (.tmp 25) (.tmp 26) _ rfl Tryd.underlying29 infoU rfl (by decide) encU_len encU_one w _ _ xs ys rfl rfl HO3.out (HS.out.ext HX3.out) (by omega) (by decide) HX3.out ?_; intro au4 cu4 w4 ho4 hx4; have HO4 := Lib.hid (rd_of_own2 encU_len ho4); have HX4 := Lib.hid hx4; clear ho4 hx4)
    | (go_at_call 13; (with_reducible refine (HhCb.out _ _ HO4.out).mono ?_); rintro _ w5 ⟨rfl, hx5⟩; have HX5 := Lib.hid (HX4.out.trans hx5); clear hx5)
    | (go_at_call 13; (with_reducible refine (HhCx.out _ (HR.out.ext HX5.out)).mono ?_); rintro _ w6 ⟨rfl, hx6⟩; have HX6 := Lib.hid (HX5.out.trans hx6); clear hx6)
    | (go_at_call 13; (with_reducible refine (HhCy.out _ (HS.out.ext HX6.out)).mono ?_); rintro _ w7 ⟨rfl, hx7⟩; have HX7 := Lib.hid (HX6.out.trans hx7); clear hx7)
    | (go_at_call 13; (with_reducible refine (HhCp.out _).mono ?_); rintro _ w8 ⟨rfl, hx8⟩; have HX8 := Lib.hid ((HX7.out.alloc _).trans hx8); clear hx8))
  go_ret
  exact ⟨rfl, HX8.out⟩
end L20
end Go.Proofs.YtjgglocabjpmeaaDoor
