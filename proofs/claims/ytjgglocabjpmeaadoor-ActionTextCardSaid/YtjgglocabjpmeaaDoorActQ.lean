/- Layer 20: the seat of the cards: the walks of least, of the library's Backward, of Combine. -/
import Derived.RangeFuncBox
import Derived.RangeFuncNested
import Derived.RangeFuncBound
import Derived.RangeFuncCalls
import Derived.RangeFuncLeaves
import Derived.Shelf.Abstract
import Derived.Shelf.RegionOpen
import Derived.OwnWalkIn
import Derived.TacticsInMore
import Derived.LoopNIn
import Derived.LoopIn
import Derived.Test.YtjgglocabjpmeaaDoorActP
namespace Go.Proofs.YtjgglocabjpmeaaDoor
open Go.RowKit Go.Shelf V
attribute [local go_sem] Oper.semAt_some
namespace L20
def pick (r x : Nat) : Nat := if less x r then x else r
theorem pick_lt {r x : Nat} (h : r < 4294967296) (h' : x < 4294967296) : pick r x < 4294967296 := by unfold pick; split <;> assumption
def upto (n k : Nat) : List Nat := (List.range k).map fun j => n - 1 - j
theorem upto_succ (n k : Nat) : upto n (k + 1) = upto n k ++ [n - 1 - k] := by simp [upto, List.range_succ]
theorem upto_length (n k : Nat) : (upto n k).length = k := by simp [upto]
def fold (xs : List Nat) (is : List Nat) : Nat := is.foldl (fun r i => pick r (xs.getD i 0)) 2147418112
def comb (xs : List Nat) : Nat := fold xs (upto xs.length xs.length)
theorem fold_snoc (xs is : List Nat) (i : Nat) : fold xs (is ++ [i]) = pick (fold xs is) (xs.getD i 0) := by simp [fold]
theorem getD_lt {xs : List Nat} (h : ∀ x ∈ xs, x < 4294967296) (i : Nat) : xs.getD i 0 < 4294967296 := by
  rw [List.getD_eq_getElem?_getD]
  by_cases hi : i < xs.length
  · rw [List.getElem?_eq_getElem hi]; exact h _ (List.getElem_mem _)
  · rw [List.getElem?_eq_none (by omega)]; decide
theorem fold_lt {xs : List Nat} (h : ∀ x ∈ xs, x < 4294967296) (is : List Nat) : fold xs is < 4294967296 := by
  unfold fold
  generalize hr : (2147418112 : Nat) = r
  have hr' : r < 4294967296 := by omega
  clear hr
  induction is generalizing r with
  | nil => exact hr'
  | cons i is ih => exact ih _ (pick_lt hr' (getD_lt h i))
def encU (a : Nat) : List Value := [.int .u32 (a : Int)]
set_option maxRecDepth 100000 in
theorem least_calls (b o c : Nat) (r x : Nat) (hr : r < 4294967296) (hx : x < 4294967296) (hc : 2 ≤ c) (w : World) (h0 : w.cell? ⟨b, o, none⟩ = some (.int .u32 (r : Int))) (h1 : w.cell? ⟨b, o + 1, none⟩ = some (.int .u32 (x : Int))) :
    Calls Tryd.prog 25 #[.slice (some ⟨b, o, none⟩) 2 c] w fun e w' => e = .returned (.int .u32 (pick r x : Nat)) ∧ w = w' := by
  have hc1 : ¬ (c = 1) := by omega
  by_cases hl : less x r = true
  all_goals
    go_enter Tryd.func25, Tryd.ntmps25
    go_wp2
    refine wp_loop_rounds 2 ?_
    rw [rounds_succ]
    go_wp2_with (go_at_call 14; refine (Less_calls _ _ hx hr _).mono ?_; rintro e w' ⟨rfl, rfl⟩)
    rw [rounds_succ]
    go_wp2
    go_ret
    exact ⟨by simp [pick, hl], rfl⟩
/-- the closure that Backward hands back: what it hands on, and what a round keeps -/
theorem back1_in (l Bs n₀ b o c : Nat) (n : Nat) (g : Nat → Nat) (hn : n ≤ 9223372036854775807) (hb : b < n₀) (J Jx : List Nat → World → Prop)
    (hY : ∀ (pre : List Nat) (x : Nat) W, J pre W → pre.length < n → YieldAt Fence.wide (3 - 1) Tryd.prog l #[.int .i64 (x : Int), .int .u32 (g x : Nat)] W fun e W' =>
      (e = .returned (.bool true) ∧ J (pre ++ [x]) W' ∧ Keep (fun k => k < n₀ ∨ k = Bs) W W') ∨ (e = .returned (.bool false) ∧ Jx (pre ++ [x]) W'))
    (W : World) (hBs : W.cell? ⟨Bs, 0, none⟩ = some (.slice (some ⟨b, o, none⟩) n c)) (hc : ∀ j, j < n → W.cell? ⟨b, o + j, none⟩ = some (.int .u32 (g j : Nat))) (h0 : J [] W) :
    CallsIn Fence.wide 3 Tryd.prog 30 #[.func (.yield l) #[] #[], .pointer (some ⟨Bs, 0, none⟩)] W fun e W' => (∃ v, e = .returned v) ∧
      ((∃ ys, ys = upto n n ∧ J ys W') ∨ (∃ pre, (∃ k, k ≤ n ∧ pre = upto n k) ∧ Jx pre W')) := by
  refine callsIn_of_wp Tryd.func30 rfl trivial ?_ rfl
  simp only [Tryd.ntmps30, List.size_toArray, List.length_cons, List.length_nil, Nat.reduceAdd, Nat.reduceSub, Array.replicate_succ, Array.replicate_zero, List.push_toArray, List.append_toArray, List.nil_append, List.cons_append]
  gi_wp2
  gi_loopw [3] (fun i wr => ∃ k : Nat, k ≤ n ∧ i = .int .i64 ((n : Int) - 1 - k) ∧ J (upto n k) wr ∧ Keep (fun k => k < n₀ ∨ k = Bs) W wr) (fun i _ => (intOf i + 1).toNat)
  case atStart => exact ⟨0, Nat.zero_le _, by simp, h0, Keep.refl _ _⟩
  case round =>
    obtain ⟨k, hk, rfl, hJs, hnx⟩ := hrel
    by_cases hlt : k < n
    · obtain ⟨q, hq⟩ : ∃ q : Nat, q = n - 1 - k := ⟨_, rfl⟩
      have hqi : (n : Int) - 1 - k = (q : Int) := by omega
      have hq1 : q < n := by omega
      have hcx := (hnx.cell (p := ⟨b, o + q, none⟩) (.inl hb)).trans (hc q hq1)
      have hbs := (hnx.cell (p := ⟨Bs, 0, none⟩) (.inr rfl)).trans hBs
      have hup := upto_succ n k
      rw [← hq] at hup
      have HU := Lib.hid hup
      obtain ⟨fn, tmps, assign, body, hy, hR⟩ := hY _ q wr hJs (by rw [upto_length]; exact hlt)
      rw [hqi]
      clear hup hq hc hBs
      gi_wp2
      refine hR.mono ?_
      rintro e W3 (⟨rfl, hJ3, hk3⟩ | ⟨rfl, hJx3⟩)
      · gi_wp2
        go_roundw
        case rel => exact ⟨k + 1, by omega, by first | (simp; done) | (simp; omega), by rw [HU.out]; exact hJ3, hnx.trans hk3⟩
        case measure => simp [intOf] <;> omega
      · gi_wp2
        refine bodyPost_ret (results_none rfl _ _ _) rfl ?_
        exact ⟨⟨_, rfl⟩, .inr ⟨_, ⟨k + 1, by omega, HU.out.symm⟩, hJx3⟩⟩
    · obtain rfl : k = n := by omega
      gi_wp2
      go_end0
      exact ⟨⟨_, rfl⟩, .inl ⟨_, rfl, hJs⟩⟩
set_option maxRecDepth 100000 in
theorem back1_nil (l Bs : Nat) (J : List Nat → World → Prop) (W : World) (a : Option Addr) (c : Nat) (hBs : W.cell? ⟨Bs, 0, none⟩ = some (.slice a 0 c)) (h0 : J [] W) :
    CallsIn Fence.wide 3 Tryd.prog 30 #[.func (.yield l) #[] #[], .pointer (some ⟨Bs, 0, none⟩)] W fun e W' => (∃ v, e = .returned v) ∧ J [] W' := by
  refine callsIn_of_wp Tryd.func30 rfl trivial ?_ rfl
  simp only [Tryd.ntmps30, List.size_toArray, List.length_cons, List.length_nil, Nat.reduceAdd, Nat.reduceSub, Array.replicate_succ, Array.replicate_zero, List.push_toArray, List.append_toArray, List.nil_append, List.cons_append]
  gi_wp2
  gi_loopw [3] (fun i wr => i = .int .i64 (-1) ∧ J [] wr) (fun _ _ => 0)
  case atStart => exact ⟨rfl, h0⟩
  case round =>
    obtain ⟨rfl, hJs⟩ := hrel
    gi_wp2
    go_end0
    exact ⟨⟨_, rfl⟩, hJs⟩
theorem back_in (a : Option Addr) (n c : Nat) (w : World) :
    Calls Tryd.prog 24 #[.slice a n c] w fun e w' => e = .returned (.func (.func 30) #[] #[.pointer (some ⟨w.heap.size, 0, none⟩)]) ∧ w.alloc (.cells #[.slice a n c] 29) = w' := by
  go_enter Tryd.func24, Tryd.ntmps24
  go_wp2
  go_ret
  exact ⟨rfl, rfl⟩
theorem back_stops (Bs n₀ : Nat) (v : Value) (xs : List Nat) (hn : xs.length ≤ 9223372036854775807) (w : World) (hBs : Bs < w.heap.size) (_hn₀ : n₀ ≤ w.heap.size)
    (hc : w.cell? ⟨Bs, 0, none⟩ = some v) (hI : Rd w 1 encU v xs) (hlow : ∀ b o c, v = .slice (some ⟨b, o, none⟩) xs.length c → 0 < xs.length → b < n₀) :
    SeqStopsK Fence.wide 3 Tryd.prog 30 #[.pointer (some ⟨Bs, 0, none⟩)] (fun x : Nat => #[Value.int .i64 (x : Int), Value.int .u32 (xs.getD x 0 : Nat)]) (Keep (fun k => k < n₀ ∨ k = Bs)) (fun ys => ys = upto xs.length xs.length)
      (fun pre => ∃ k, k ≤ xs.length ∧ pre = upto xs.length k) xs.length w := fun l J Jx W hW _ _ hY h0 => by
  have hc' := (hW.cell (p := ⟨Bs, 0, none⟩) hBs).trans hc
  obtain ⟨a, c, rfl, hle, hnil, hel⟩ := hI.ext hW
  by_cases h00 : xs.length = 0
  · rw [h00] at hc' ⊢
    exact (back1_nil l Bs J W a c hc' h0).mono fun e W' ⟨he, hj⟩ => ⟨he, .inl ⟨_, rfl, hj⟩⟩
  · obtain ⟨b, o, rfl, _⟩ := hel 0 (by omega)
    refine back1_in l Bs n₀ b o c xs.length (fun j => xs.getD j 0) hn (hlow b o c rfl (by omega)) J Jx hY W hc' ?_ h0
    intro j hj
    obtain ⟨b', o', e, hat⟩ := hel j hj
    obtain ⟨rfl, rfl⟩ : b = b' ∧ o = o' := by simpa using e
    have := hat 0 (by simp [encU])
    simpa [encU, hj] using this
set_option maxRecDepth 100000 in
theorem keepK_b {S : Nat → Prop} {w : World} (hS : ∀ k, S k → k < w.heap.size) (W : World) (l : Nat) (o o' : Obj) (hl : w.heap.size ≤ l) (_h : W.heap[l]? = some o) (_ : o.isCells = false) (_ : o.isWalk = false) : Keep S W (W.putObj l o') := by
  have hg := grownBy_putObj' W l o'
  refine ⟨hg.os, hg.tape, hg.output, hg.size, fun k hk => World.putObj_heap_other (fun e => ?_)⟩
  have := hS k hk
  omega
theorem Combine_calls (v : Value) (xs : List Nat) (hn : xs.length ≤ 9223372036854775807) (hx : ∀ x ∈ xs, x < 4294967296) (w : World) (hI : Rd w 1 encU v xs) :
    Calls Tryd.prog 13 #[v] w fun e w' => e = .returned (.int .u32 (comb xs : Nat)) ∧ Ext w w' := by
  obtain ⟨a, c, rfl, hR⟩ := id hI
  have hlow : ∀ b o c', Value.slice a xs.length c = .slice (some ⟨b, o, none⟩) xs.length c' → 0 < xs.length → b < w.heap.size := by
    intro b o c' e h0
    obtain ⟨b', o', e', hat⟩ := hR.2.2 0 h0
    simp only [Value.slice.injEq] at e
    rw [e.1] at e'
    obtain ⟨rfl, rfl⟩ : b = b' ∧ o = o' := by simpa using e'
    exact World.block_lt_of_cell? _ _ (hat 0 (by simp [encU]))
  clear hR
  have bR := Boxed.new w 22 (.int .u32 2147418112)
  have bN := Boxed.new (w.alloc (.cells #[.int .u32 2147418112] 22)) 29 (.slice a xs.length c)
  rw [World.size_alloc] at bN
  have hE0 : Ext w ((w.alloc (.cells #[.int .u32 2147418112] 22)).alloc (.cells #[.slice a xs.length c] 29)) := ((Ext.refl w).alloc _).alloc _
  refine (callsIn_wide (n := 4)).1 ?_
  refine callsIn_of_wp_marks Tryd.func13 rfl trivial ?_ rfl
  simp only [Tryd.ntmps13, List.size_toArray, List.length_cons, List.length_nil, Nat.reduceAdd, Nat.reduceSub, Array.replicate_succ, Array.replicate_zero, List.push_toArray, List.append_toArray, List.nil_append, List.cons_append]
  gi_wp2_with (refine ⟨trivial, ?_⟩; gi_at_call 24; refine (callsIn_wide.2 (back_in _ _ _ _)).mono ?_; rintro e w' ⟨rfl, rfl⟩)
  have h1 : 1 ≤ 4 := by omega
  refine wpIn_rangeFunc_ownF rfl h1 (gf := 30) (lb := #[.pointer (some ⟨w.heap.size + 1, 0, none⟩)]) rfl trivial (enters_of Tryd.func30 (by kernel_rfl) rfl)
    (back_stops (w.heap.size + 1) w.heap.size _ xs hn _ (by simp) (by simp; omega) bN.cell (hI.ext hE0) hlow) keepK_t (keepK_b (by simp; omega)) (Below.refl _ _) (fun _ => rfl)
    (fun pre W => (W.cell? ⟨w.heap.size, 0, none⟩ = some (.int .u32 (fold xs pre : Nat)) ∧ W.frozen? ⟨w.heap.size, 0, none⟩ = false ∧ W.cell? ⟨w.heap.size + 1, 0, none⟩ = some (.slice a xs.length c)) ∧ Below w.heap.size w W)
    (fun _ _ _ => False)
    (OwnFrom.and (Own.from (fun s A B row hs hg hr => ⟨cell_kept hs.1 hg hr, (frozen_kept hs.1 hg hr).trans hs.2.1, cell_kept hs.2.2 hg hr⟩) _) (ownFrom_below (Nat.le_refl _) (by simp; omega)))
    (fun _ _ _ _ _ hs _ _ => hs)
    ⟨⟨(bR.alloc _).cell, (bR.alloc _).frozen, bN.cell⟩, hE0⟩
    (fun x => { tmps := #[.slice a xs.length c, undef, .int .u32 0, .pointer (some ⟨w.heap.size, 0, none⟩), undef, .int .u32 (xs.getD x 0 : Nat), .slice a xs.length c, .func (.func 30) #[] #[.pointer (some ⟨w.heap.size + 1, 0, none⟩)], .int .i64 (x : Int), .int .u32 (xs.getD x 0 : Nat), undef, undef, undef, undef, undef], defers := [] }) ?assign ?body ?done ?stop
  case assign =>
    intro l x W K hK
    gi_wp2
    exact hK
  case body =>
    rintro l pre x W ⟨⟨hc, hf, hc2⟩, hB⟩ _
    have hlb : w.heap.size + 1 < W.heap.size := World.block_lt_of_cell? _ _ hc2
    have hlt : w.heap.size < W.heap.size := World.block_lt_of_cell? _ _ hc
    have hfl := fold_lt hx pre
    have hxl := getD_lt hx x
    have hsn := fold_snoc xs pre x
    have HS := Lib.hid hsn
    clear hsn
    generalize fold xs pre = r at hc hfl HS ⊢
    generalize xs.getD x 0 = y at hxl HS ⊢
    have n1 : 1 ≤ 4 - 1 - 1 := by omega
    gi_wp2_with (refine ⟨trivial, ?_⟩; gi_at_call 25; refine (CallsIn.inRound l (callsIn_wide.2 (least_calls W.heap.size 0 2 r y hfl hxl (by omega) _ (by simp [go_sem]) (by simp [go_sem])))).mono ?_; rintro e w' ⟨rfl, rfl⟩)
    refine ⟨(KeepsOthers.setCell _ _ _).trans (KeepsOthers.alloc _ _), (Keep.setCell W (by intro h; rcases h with h | h <;> simp at h) _).trans (Keep.alloc _ (by intro k hk; simp only [World.size_setCell]; omega) _), ⟨?_, ?_, ?_⟩, (hB.setCell (p := ⟨w.heap.size, 0, none⟩) (Nat.le_refl _) _).alloc (by simp only [World.size_setCell]; omega) _⟩
    · rw [HS.out]
      exact Ext.cell ((Ext.refl _).alloc _) (World.cell?_setCell_same' _ _ _ (by rw [hc]; rfl))
    · exact Ext.frozen ((Ext.refl _).alloc _) (World.cell?_setCell_same' _ _ _ (by rw [hc]; rfl)) (by rw [World.frozen?_setCell]; exact hf)
    · refine Ext.cell ((Ext.refl _).alloc _) ?_
      rw [World.cell?_of_block (w := W) (Below.heap_setCell _ _ _ _ (by simp))]
      exact hc2
  case done =>
    rintro D ys W hD rfl ⟨⟨hc, _⟩, hB⟩ hK
    gi_wp2
    refine ⟨by simp, .inl ⟨_, _, rfl, run_takeDeferred hK, ?_⟩⟩
    exact ⟨_, results_tmp rfl _ _ _, rfl, hB.trans (belowK_b (w := w) (Nat.le_refl _) W D _ _ (by simp at hD; omega) hK rfl rfl)⟩
  case stop =>
    rintro D c pre W _ _ h _
    exact h.elim
end L20
end Go.Proofs.YtjgglocabjpmeaaDoor
