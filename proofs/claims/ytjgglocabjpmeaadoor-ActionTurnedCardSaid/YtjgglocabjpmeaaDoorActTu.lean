/- Layer 20: the walk of the law ActionTurned. (Printed by wip/tools/mkactt.py.) -/
import Derived.Test.YtjgglocabjpmeaaDoorActY
import Derived.Test.YtjgglocabjpmeaaDoorAppS
namespace Go.Proofs.YtjgglocabjpmeaaDoor
open Go.RowKit Go.Shelf Go.Sort V
attribute [local go_sem] Oper.semAt_some
namespace L20
theorem own_ext {w w' : World} {base e n k : Nat} {v : Value} {zs : List Value} (h : w.ownsRow base e n v k zs) (hx : Ext w w') : w'.ownsRow base e n v k zs := by
  refine ⟨h.1, ?_⟩
  rcases h.2 with h2 | ⟨g, cap, cur, rfl, hg, hh, r⟩
  · exact .inl h2
  · exact .inr ⟨g, cap, cur, rfl, hg, (hx.block (Array.getElem?_eq_some_iff.1 hh).1).trans hh, r⟩
set_option maxRecDepth 100000 in
set_option maxHeartbeats 8000000 in
theorem ActionTurned_calls (a b : Nat) (v : Value) (xs : List Nat) (ha : a < 4294967296) (hb : b < 4294967296) (hn : xs.length ≤ maxLen) (hx : ∀ x ∈ xs, x < 4294967296) (w : World) (ht : Tab w) (hI : Rd w 1 encU v xs) :
    Calls Tryd.prog 5 #[.int .u32 (a : Int), .int .u32 (b : Int), v] w fun e w' => e = .returned (.bool true) ∧ Ext w w' := by
  have hA := fun W (h : Tab W) => awake20_calls W h
  have hOa := fun W => Only_calls a ha W
  have hOb := fun W => Only_calls b hb W
  have hLa := fun k (hk : k < xs.length) W => Less_calls xs[k] a (hx _ (List.getElem_mem hk)) ha W
  have hLb := fun k (hk : k < xs.length) W => Less_calls xs[k] b (hx _ (List.getElem_mem hk)) hb W
  have hOk := fun k (hk : k < xs.length) W => Only_calls xs[k] (hx _ (List.getElem_mem hk)) W
  have hLt := fun W => Less_calls a top ha (by decide) W
  change ∀ W, Calls Tryd.prog 14 #[.int .u32 (a : Int), .int .u32 2147418112] W fun e w' => e = .returned (.bool (less a top)) ∧ W = w' at hLt
  have hC1 := fun (hl : xs.length ≤ 1000) W s (h : Rd W 1 encU s (([a] ++ xs) ++ [b])) => Combine_calls s (([a] ++ xs) ++ [b]) (by first | omega | (simp; done) | (simp; omega)) (fun z hz => by
    simp only [List.mem_append, List.mem_singleton] at hz
    rcases hz with (rfl | hz) | rfl
    · exact ha
    · exact hx z hz
    · exact hb) W h
  have hC2 := fun (hl : xs.length ≤ 1000) W s (h : Rd W 1 encU s (([b] ++ xs) ++ [a])) => Combine_calls s (([b] ++ xs) ++ [a]) (by first | omega | (simp; done) | (simp; omega)) (fun z hz => by
    simp only [List.mem_append, List.mem_singleton] at hz
    rcases hz with (rfl | hz) | rfl
    · exact hb
    · exact hx z hz
    · exact ha) W h
  have hkey : (∀ x ∈ xs, less x a = false ∧ less x b = false) →
      ((((a / 65536 * 65536 : Nat) : Int) == ((b / 65536 * 65536 : Nat) : Int)) = false ∧ comb (([a] ++ xs) ++ [b]) = comb (([b] ++ xs) ++ [a])) ∨
      (((a / 65536 * 65536 : Nat) : Int) = ((b / 65536 * 65536 : Nat) : Int) ∧ less a top = false ∧ comb (([a] ++ xs) ++ [b]) = top ∧ comb (([b] ++ xs) ++ [a]) = top) ∨
      (((a / 65536 * 65536 : Nat) : Int) = ((b / 65536 * 65536 : Nat) : Int) ∧ less a top = true ∧ comb (([a] ++ xs) ++ [b]) = b ∧ comb (([b] ++ xs) ++ [a]) = a) := fun h => by
    obtain ⟨k1, k2, k3⟩ := comb_turned a b xs (fun x hx => by have := of_decide_eq_false (h x hx).1; omega) (fun x hx => by have := of_decide_eq_false (h x hx).2; omega)
    have hs := sg_only a b ha hb
    by_cases he : sg a = sg b
    · by_cases h2 : sg a < sg top
      · exact .inr (.inr ⟨by rw [hs.1 he], decide_eq_true h2, k3 he h2⟩)
      · exact .inr (.inl ⟨by rw [hs.1 he], decide_eq_false h2, k2 he (by omega)⟩)
    · exact .inl ⟨by rw [beq_eq_false_iff_ne]; intro e; exact he (hs.2 (by omega)), k1 he⟩
  have hl1 : ([a] : List Nat).length + xs.length = ([a] ++ xs).length := by simp; omega
  have hl2 : ([b] : List Nat).length + xs.length = ([b] ++ xs).length := by simp; omega
  have hl3 : ([a] ++ xs).length = 1 + xs.length := by simp; omega
  have hl4 : ([b] ++ xs).length = 1 + xs.length := by simp; omega
  have HT := Lib.hid ht
  have HR := Lib.hid hI
  obtain ⟨ax, cx, rfl, hle, hcell⟩ := rdU_cell hI
  obtain ⟨la, hla⟩ : ∃ la, la = less a top := ⟨_, rfl⟩
  obtain ⟨oa, hoa⟩ : ∃ x : Int, x = ((a / 65536 * 65536 : Nat) : Int) := ⟨_, rfl⟩
  obtain ⟨ob, hob⟩ : ∃ y : Int, y = ((b / 65536 * 65536 : Nat) : Int) := ⟨_, rfl⟩
  obtain ⟨X, hX⟩ : ∃ X, X = comb (([a] ++ xs) ++ [b]) := ⟨_, rfl⟩
  obtain ⟨Y, hY⟩ : ∃ Y, Y = comb (([b] ++ xs) ++ [a]) := ⟨_, rfl⟩
  obtain ⟨L1, hL1⟩ : ∃ L, L = [a] ++ xs := ⟨_, rfl⟩
  obtain ⟨L2, hL2⟩ : ∃ L, L = [b] ++ xs := ⟨_, rfl⟩
  rw [← hla] at hLt hkey
  rw [← hoa, ← hob, ← hX, ← hY] at hkey
  rw [← hoa] at hOa
  rw [← hob] at hOb
  rw [← hX, ← hL1] at hC1
  rw [← hY, ← hL2] at hC2
  rw [← hL1] at hl1 hl3
  rw [← hL2] at hl2 hl4
  clear hla hoa hob hX hY
  unfold maxLen at hn
  clear hI ht hx
  have HhA := Lib.hid hA
  clear hA
  have HhOa := Lib.hid hOa
  clear hOa
  have HhOb := Lib.hid hOb
  clear hOb
  have HhLa := Lib.hid hLa
  clear hLa
  have HhLb := Lib.hid hLb
  clear hLb
  have HhOk := Lib.hid hOk
  clear hOk
  have HhLt := Lib.hid hLt
  clear hLt
  have HhC1 := Lib.hid hC1
  clear hC1
  have HhC2 := Lib.hid hC2
  clear hC2
  have Hhkey := Lib.hid hkey
  clear hkey
  have Hhcell := Lib.hid hcell
  clear hcell
  have Hhl1 := Lib.hid hl1
  clear hl1
  have Hhl2 := Lib.hid hl2
  clear hl2
  have Hhl3 := Lib.hid hl3
  clear hl3
  have Hhl4 := Lib.hid hl4
  clear hl4
  have HhL1 := Lib.hid hL1
  clear hL1
  have HhL2 := Lib.hid hL2
  clear hL2
  go_enter Tryd.func5, Tryd.ntmps5
  go_wp2_with fail
  refine (HhA.out _ HT.out).mono ?_
  rintro _ w1 ⟨rfl, hx1⟩
  have HX1 := Lib.hid hx1
  clear hx1
  by_cases hlen : 100 < xs.length
  · have g1 : decide (100 < xs.length) = true := decide_eq_true hlen
    have g2 : decide ((100 : Int) < (xs.length : Int)) = true := decide_eq_true (by omega)
    go_wp2_with fail
    go_ret
    exact ⟨rfl, HX1.out⟩
  have g1 : decide (100 < xs.length) = false := decide_eq_false hlen
  have g2 : decide ((100 : Int) < (xs.length : Int)) = false := decide_eq_false (by omega)
  go_wp2_with fail
  go_loopw [7] (fun i wr => ∃ k : Nat, k ≤ xs.length ∧ i = .int .i64 k ∧ Ext w wr ∧ ∀ j, (h : j < xs.length) → j < k → less xs[j] a = false ∧ less xs[j] b = false) (fun i _ => xs.length - (intOf i).toNat)
  case atStart => exact ⟨0, by omega, rfl, HX1.out, fun j _ hj => by omega⟩
  case round =>
    obtain ⟨k, hk, rfl, hx, hp⟩ := hrel
    have HX := Lib.hid hx
    have Hhp := Lib.hid hp
    clear hp
    clear hx
    by_cases hlt : k < xs.length
    · obtain ⟨bb, oo, rfl, h0⟩ := Hhcell.out k hlt
      have hc := HX.out.cell h0
      have hLa := HhLa.out k hlt
      have hLb := HhLb.out k hlt
      have hOk := HhOk.out k hlt
      have hnx : less xs[k] a = false → less xs[k] b = false → ∀ j, (h : j < xs.length) → j < k + 1 → less xs[j] a = false ∧ less xs[j] b = false := fun h1 h2 j hj hjk => by
        rcases Nat.lt_or_ge j k with h3 | h3
        · exact Hhp.out j hj h3
        · obtain rfl : j = k := by omega
          exact ⟨h1, h2⟩
      have h0k : (0 : Int) ≤ (k : Int) ∧ (k : Int) < (xs.length : Int) := by omega
      obtain ⟨p, hp1⟩ : ∃ p, p = less xs[k] a := ⟨_, rfl⟩
      obtain ⟨q, hq1⟩ : ∃ q, q = less xs[k] b := ⟨_, rfl⟩
      obtain ⟨ok, hok⟩ : ∃ y : Int, y = ((xs[k] / 65536 * 65536 : Nat) : Int) := ⟨_, rfl⟩
      rw [← hp1] at hLa hnx
      rw [← hq1] at hLb hnx
      rw [← hok] at hOk
      clear hp1 hq1 hok h0
      have HhLa := Lib.hid hLa
      clear hLa
      have HhLb := Lib.hid hLb
      clear hLb
      have HhOk := Lib.hid hOk
      clear hOk
      have Hhnx := Lib.hid hnx
      clear hnx
      generalize xs[k] = y at *
      have e1 : (ok == oa) = true ∨ (ok == oa) = false := by cases ok == oa <;> simp
      have e2 : (ok == ob) = true ∨ (ok == ob) = false := by cases ok == ob <;> simp
      cases p
      · cases q
        · rcases e1 with e1 | e1
          · go_wp2_with fail
            refine (HhLa.out _).mono ?_
            rintro _ _ ⟨rfl, rfl⟩
            go_wp2_with fail
            refine (HhLb.out _).mono ?_
            rintro _ _ ⟨rfl, rfl⟩
            go_wp2_with fail
            refine (HhOk.out _).mono ?_
            rintro _ _ ⟨rfl, rfl⟩
            go_wp2_with fail
            refine (HhOa.out _).mono ?_
            rintro _ _ ⟨rfl, rfl⟩
            go_wp2_with fail
            go_ret
            exact ⟨rfl, HX.out⟩
          · rcases e2 with e2 | e2
            · go_wp2_with fail
              refine (HhLa.out _).mono ?_
              rintro _ _ ⟨rfl, rfl⟩
              go_wp2_with fail
              refine (HhLb.out _).mono ?_
              rintro _ _ ⟨rfl, rfl⟩
              go_wp2_with fail
              refine (HhOk.out _).mono ?_
              rintro _ _ ⟨rfl, rfl⟩
              go_wp2_with fail
              refine (HhOa.out _).mono ?_
              rintro _ _ ⟨rfl, rfl⟩
              go_wp2_with fail
              refine (HhOk.out _).mono ?_
              rintro _ _ ⟨rfl, rfl⟩
              go_wp2_with fail
              refine (HhOb.out _).mono ?_
              rintro _ _ ⟨rfl, rfl⟩
              go_wp2_with fail
              go_ret
              exact ⟨rfl, HX.out⟩
            · go_wp2_with fail
              refine (HhLa.out _).mono ?_
              rintro _ _ ⟨rfl, rfl⟩
              go_wp2_with fail
              refine (HhLb.out _).mono ?_
              rintro _ _ ⟨rfl, rfl⟩
              go_wp2_with fail
              refine (HhOk.out _).mono ?_
              rintro _ _ ⟨rfl, rfl⟩
              go_wp2_with fail
              refine (HhOa.out _).mono ?_
              rintro _ _ ⟨rfl, rfl⟩
              go_wp2_with fail
              refine (HhOk.out _).mono ?_
              rintro _ _ ⟨rfl, rfl⟩
              go_wp2_with fail
              refine (HhOb.out _).mono ?_
              rintro _ _ ⟨rfl, rfl⟩
              go_wp2_with fail
              go_roundw
              case rel => exact ⟨k + 1, by omega, by go_num, HX.out, Hhnx.out (by trivial) (by trivial)⟩
              case measure => simp [intOf]; omega
        · go_wp2_with fail
          refine (HhLa.out _).mono ?_
          rintro _ _ ⟨rfl, rfl⟩
          go_wp2_with fail
          refine (HhLb.out _).mono ?_
          rintro _ _ ⟨rfl, rfl⟩
          go_wp2_with fail
          go_ret
          exact ⟨rfl, HX.out⟩
      · go_wp2_with fail
        refine (HhLa.out _).mono ?_
        rintro _ _ ⟨rfl, rfl⟩
        go_wp2_with fail
        go_ret
        exact ⟨rfl, HX.out⟩
    · obtain rfl : k = xs.length := by omega
      have hkey := Hhkey.out (fun x hx => by
        obtain ⟨j, hj, rfl⟩ := List.mem_iff_getElem.1 hx
        exact Hhp.out j hj hj)
      have hC1 := HhC1.out (by omega)
      have hC2 := HhC2.out (by omega)
      have HO1 := Lib.hid ((own_lit encU_len wr [a] 22 wr.heap.size wr.heap.size rfl (Nat.le_refl _) (by unfold maxLen; simp)).alloc (.cells #[.int .u32 (b : Int)] 22))
      have HO2 := Lib.hid (own_lit encU_len (wr.alloc (.cells #[.int .u32 (a : Int)] 22)) [b] 22 (wr.heap.size + 1) wr.heap.size (by rw [World.size_alloc]) (by rw [World.size_alloc]; omega) (by unfold maxLen; simp))
      have HXa := Lib.hid ((HX.out.alloc (.cells #[.int .u32 (a : Int)] 22)).alloc (.cells #[.int .u32 (b : Int)] 22))
      have hsz : w.heap.size ≤ wr.heap.size := HX.out.size
      have Hhkey := Lib.hid hkey
      clear hkey
      have HhC1 := Lib.hid hC1
      clear hC1
      have HhC2 := Lib.hid hC2
      clear hC2
      go_wp2_with (first
        | (at_builtin; refine wpList_app_sep rfl (.tmp 61) (.tmp 62) _ rfl Tryd.underlying29 infoU rfl (by decide) encU_len encU_one wr.heap.size wr.heap.size 1 _ [a] xs rfl rfl HO1.out (HR.out.ext HXa.out) (by first | omega | (simp; done) | (simp; omega)) (by decide) (by first | omega | (simp; done) | (simp; omega)) ?_; intro ga ca w3 ho3 hg3 hq3; rw [Hhl1.out, ← HhL1.out] at ho3; rw [Hhl1.out]; have hz3 := (ho3.lt ga rfl).2; have hy3 := hg3.size; rw [World.size_alloc, World.size_alloc] at hq3 hy3; have HA3 := Lib.hid ho3; have HB3 := Lib.hid (HO2.out.kept hg3 (.inr (by simp only [Value.ownBlock, ne_eq, Option.some.injEq]; omega))); have HX3 := Lib.hid (HXa.out.grown hg3 (fun k e => by simp only [Option.some.injEq] at e; omega)); clear ho3 hg3)
        | (at_builtin; refine wpList_app_sep rfl (.tmp 64) (.tmp 65) _ rfl Tryd.underlying29 infoU rfl (by decide) encU_len encU_one wr.heap.size (wr.heap.size + 1) 1 _ [b] xs rfl rfl HB3.out (HR.out.ext HX3.out) (by first | omega | (simp; done) | (simp; omega)) (by decide) (by omega) ?_; intro gb cb w4 ho4 hg4 hq4; rw [Hhl2.out, ← HhL2.out] at ho4; rw [Hhl2.out]; have hz4 := (ho4.lt gb rfl).2; have hy4 := hg4.size; have hab : gb ≠ ga := (by omega); have HB4 := Lib.hid ho4; have HA4 := Lib.hid (HA3.out.kept hg4 (.inr (by simp only [Value.ownBlock, ne_eq, Option.some.injEq]; omega))); have HX4 := Lib.hid (HX3.out.grown hg4 (fun k e => by simp only [Option.some.injEq] at e; omega)); have HGA := Lib.hid (HA4.out.lt ga rfl).1; have HGB := Lib.hid (HB4.out.lt gb rfl).1; clear ho4 hg4)
        | (at_builtin; refine wpList_app_sep rfl (.tmp 67) (.tmp 69) _ rfl Tryd.underlying29 infoU rfl (by decide) encU_len encU_one wr.heap.size ga ca _ L1 [b] rfl rfl (HA4.out.alloc _) (rd_lit encU_len w4 [b] _ _ rfl) (by have := Hhl3.out; first | omega | (simp; omega)) (by decide) (by first | omega | (simp; done) | (simp; omega)) ?_; intro gc cc w6 ho6 hg6 hq6; have hc6 := rd_of_own2 encU_len ho6; rw [show ([b] : List Nat).length = 1 from rfl] at hc6 ⊢; have HC6 := Lib.hid hc6; clear hc6; have HB6 := Lib.hid ((HB4.out.alloc _).kept hg6 (.inr (by simp only [Value.ownBlock, ne_eq, Option.some.injEq]; omega))); have HX6 := Lib.hid ((HX4.out.alloc _).grown hg6 (fun k e => by simp only [Option.some.injEq] at e; have := HGA.out; omega)); have hy6 := hg6.size; rw [World.size_alloc] at hy6; clear ho6 hg6 hq6)
        | (go_at_call 13; (with_reducible refine (HhC1.out _ _ HC6.out).mono ?_); rintro _ w7 ⟨rfl, hx7⟩; have HX7 := Lib.hid (HX6.out.trans hx7); have HB7 := Lib.hid (own_ext HB6.out hx7); have hy7 : w6.heap.size ≤ w7.heap.size := hx7.size; clear hx7)
        | (at_builtin; refine wpList_app_sep rfl (.tmp 72) (.tmp 74) _ rfl Tryd.underlying29 infoU rfl (by decide) encU_len encU_one wr.heap.size gb cb _ L2 [a] rfl rfl (HB7.out.alloc _) (rd_lit encU_len w7 [a] _ _ rfl) (by have := Hhl4.out; first | omega | (simp; omega)) (by decide) (by first | omega | (simp; done) | (simp; omega)) ?_; intro gd cd w9 ho9 hg9 hq9; have hc9 := rd_of_own2 encU_len ho9; rw [show ([a] : List Nat).length = 1 from rfl] at hc9 ⊢; have HD9 := Lib.hid hc9; clear hc9; have HX9 := Lib.hid ((HX7.out.alloc _).grown hg9 (fun k e => by simp only [Option.some.injEq] at e; have := HGB.out; omega)); clear ho9 hg9 hq9)
        | (go_at_call 13; (with_reducible refine (HhC2.out _ _ HD9.out).mono ?_); rintro _ w10 ⟨rfl, hx10⟩; have HXz := Lib.hid (HX9.out.trans hx10); clear hx10)
        | (go_at_call 15; fail))
      refine (HhOa.out _).mono ?_
      rintro _ _ ⟨rfl, rfl⟩
      go_wp2_with fail
      refine (HhOb.out _).mono ?_
      rintro _ _ ⟨rfl, rfl⟩
      rcases Hhkey.out with ⟨h1, rfl⟩ | ⟨rfl, rfl, rfl, rfl⟩ | ⟨rfl, rfl, rfl, rfl⟩
      · have h2 : (oa != ob) = true := by rw [bne, h1]; rfl
        go_wp2_with fail
        go_ret
        exact ⟨rfl, HXz.out⟩
      · go_wp2_with fail
        refine (HhLt.out _).mono ?_
        rintro _ _ ⟨rfl, rfl⟩
        unfold top at *
        go_wp2_with fail
        go_ret
        exact ⟨rfl, HXz.out⟩
      · go_wp2_with fail
        refine (HhLt.out _).mono ?_
        rintro _ _ ⟨rfl, rfl⟩
        go_wp2_with fail
        go_ret
        exact ⟨rfl, HXz.out⟩
end L20
end Go.Proofs.YtjgglocabjpmeaaDoor
