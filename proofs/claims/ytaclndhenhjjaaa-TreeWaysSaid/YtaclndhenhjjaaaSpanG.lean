/- Layer 23: the library's Values over spans, and the walk of Merge. -/
import Derived.Test.YtaclndhenhjjaaaSpanF
namespace Go.Proofs.Ytaclndhenhjjaaa
open Go.RowKit Go.Shelf V
attribute [local go_sem] Oper.semAt_some
namespace L23
set_option maxRecDepth 100000 in
set_option maxHeartbeats 2000000 in
theorem values1_in (l Bs n₀ : Nat) (v : Value) (xs : List Span) (hl : xs.length ≤ 1000000) (J Jx : List Span → World → Prop) (W : World) (hn₀ : n₀ ≤ W.heap.size)
    (hv : Rd W 3 encS v xs) (hlow : ∀ b o c, v = .slice (some ⟨b, o, none⟩) xs.length c → 0 < xs.length → b < n₀)
    (hJa : ∀ p A o, J p A → J p (A.alloc o))
    (hY : ∀ (pre : List Span) (x : Span) W, J pre W → pre.length < xs.length → YieldAt Fence.wide (3 - 1) Try.prog l #[.agg #[.int .u32 (x.lo : Int), .int .u32 (x.hi : Int), .int .i64 x.way]] W fun e W' =>
      (e = .returned (.bool true) ∧ J (pre ++ [x]) W' ∧ Below n₀ W W') ∨ (e = .returned (.bool false) ∧ Jx (pre ++ [x]) W'))
    (hBs : W.cell? ⟨Bs, 0, none⟩ = some v) (h0 : J [] W) :
    CallsIn Fence.wide 3 Try.prog 42 #[.func (.yield l) #[] #[], .pointer (some ⟨Bs, 0, none⟩)] W fun e W' => (∃ v, e = .returned v) ∧
      ((∃ ys, ys = xs ∧ J ys W') ∨ (∃ pre, pre <+: xs ∧ Jx pre W')) := by
  obtain ⟨a, c, rfl, hac, hca⟩ := rdS_cell hv
  clear hv
  refine callsIn_of_wp Try.func42 rfl trivial ?_ rfl
  simp only [Try.ntmps42, List.size_toArray, List.length_cons, List.length_nil, Nat.reduceAdd, Nat.reduceSub, Array.replicate_succ, Array.replicate_zero, List.push_toArray, List.append_toArray, List.nil_append, List.cons_append]
  gi_wp2
  gi_loopw [7] (fun i wr => ∃ k : Nat, k ≤ xs.length ∧ i = .int .i64 k ∧ J (xs.take k) wr ∧ Below n₀ W wr) (fun i _ => xs.length - (intOf i).toNat)
  case atStart => exact ⟨0, Nat.zero_le _, by simp, h0, Below.refl _ _⟩
  case round =>
    obtain ⟨k, hk, rfl, hJs, hnx⟩ := hrel
    by_cases hlt : k < xs.length
    · obtain ⟨b, o, rfl, h1, h2, h3⟩ := hca k hlt
      have hb := hlow b o c rfl (by omega)
      replace h1 := (hnx.cell (p := ⟨b, o + k * 3, none⟩) hb).trans h1
      replace h2 := (hnx.cell (p := ⟨b, o + k * 3 + 1, none⟩) hb).trans h2
      replace h3 := (hnx.cell (p := ⟨b, o + k * 3 + 2, none⟩) hb).trans h3
      have htk : xs.take (k + 1) = xs.take k ++ [xs[k]] := List.take_succ_eq_append_getElem hlt
      have Hhtk := Lib.hid htk
      clear htk
      generalize xs[k] = s at *
      obtain ⟨fn, tmps, assign, body, hy, hR⟩ := hY (xs.take k) s (wr.alloc (.cells #[.int .u32 (s.lo : Int), .int .u32 (s.hi : Int), .int .i64 s.way] 33)) (hJa _ _ _ hJs) (by rw [List.length_take]; omega)
      clear hca
      gi_wp2
      refine hR.mono ?_
      rintro e W3 (⟨rfl, hJ3, hk3⟩ | ⟨rfl, hJx3⟩)
      · gi_wp2
        go_roundw
        case rel => exact ⟨k + 1, by omega, by go_num, by rw [Hhtk.out]; exact hJ3, (hnx.alloc (Nat.le_trans hn₀ hnx.size) _).trans hk3⟩
        case measure => simp [intOf] <;> omega
      · gi_wp2
        refine bodyPost_ret (results_none rfl _ _ _) rfl ?_
        exact ⟨⟨_, rfl⟩, .inr ⟨xs.take (k + 1), List.take_prefix _ _, by rw [Hhtk.out]; exact hJx3⟩⟩
    · obtain rfl : k = xs.length := by omega
      gi_wp2
      go_end0
      exact ⟨⟨_, rfl⟩, .inl ⟨_, rfl, by rw [List.take_length] at hJs; exact hJs⟩⟩
theorem values_in (a : Option Addr) (n c : Nat) (w : World) :
    Calls Try.prog 37 #[.slice a n c] w fun e w' => e = .returned (.func (.func 42) #[] #[.pointer (some ⟨w.heap.size, 0, none⟩)]) ∧ w.alloc (.cells #[.slice a n c] 24) = w' := by
  go_enter Try.func37, Try.ntmps37
  go_wp2
  go_ret
  exact ⟨rfl, rfl⟩
theorem values_stops (Bs n₀ : Nat) (v : Value) (xs : List Span) (hl : xs.length ≤ 1000000) (w : World) (_hBs : Bs < w.heap.size) (hn₀ : n₀ ≤ w.heap.size)
    (hc : w.cell? ⟨Bs, 0, none⟩ = some v) (hI : Rd w 3 encS v xs) (hlow : ∀ b o c, v = .slice (some ⟨b, o, none⟩) xs.length c → 0 < xs.length → b < n₀) :
    SeqStopsK Fence.wide 3 Try.prog 42 #[.pointer (some ⟨Bs, 0, none⟩)] (fun x : Span => #[.agg #[.int .u32 (x.lo : Int), .int .u32 (x.hi : Int), .int .i64 x.way]]) (Below n₀) (fun ys => ys = xs) (fun pre => pre <+: xs) xs.length w := fun l J Jx W hW hJ _ hY h0 => by
  have hE : Ext w W := hW
  exact values1_in l Bs n₀ v xs hl J Jx W (Nat.le_trans hn₀ hE.size) (hI.ext hE) hlow (fun p A o h => hJ p A _ none h (World.grownBy_alloc A o none) (fun r e => by cases e)) hY (hE.cell hc) h0
theorem rd_low {w : World} {v : Value} {xs : List Span} (h : Rd w 3 encS v xs) : ∀ b o c, v = .slice (some ⟨b, o, none⟩) xs.length c → 0 < xs.length → b < w.heap.size := by
  intro b o c e h0
  obtain ⟨a, c', rfl, -, h4⟩ := rdS_cell h
  obtain ⟨b', o', e', g1, -⟩ := h4 0 h0
  simp only [Value.slice.injEq] at e
  rw [e.1] at e'
  obtain ⟨rfl, rfl⟩ : b = b' ∧ o = o' := by simpa using e'
  exact World.block_lt_of_cell? _ _ g1
/-- what Merge answers -/
def mergeA (xs : List Span) : List Span × Int := if whole xs then (merge xs, 0) else ([], 2)
set_option maxRecDepth 100000 in
set_option maxHeartbeats 2000000 in
theorem Merge_calls (v : Value) (xs : List Span) (hl : xs.length ≤ 1000000) (hok : ∀ s ∈ xs, OkS s) (w : World) (hv : Rd w 3 encS v xs) :
    Calls Try.prog 18 #[v] w fun e w' => ∃ u, e = .returned (.tuple #[u, .int .i64 (mergeA xs).2]) ∧ Ext w w' ∧ Own w' w.heap.size u (mergeA xs).1 := by
  obtain ⟨a, c, rfl, -⟩ := rdS_cell hv
  cases hw : whole xs
  case false =>
    have hA : mergeA xs = ([], 2) := by simp [mergeA, hw]
    rw [hA]
    go_enter Try.func18, Try.ntmps18
    go_wp2_with (go_at_call 19; refine (Whole_calls _ xs (by omega) hok _ hv).mono ?_; rw [hw]; rintro e w1 ⟨rfl, hx1⟩)
    go_ret2
    exact ⟨_, rfl, hx1, World.ownsRow_nil _ _ _ _⟩
  case true =>
    have hA : mergeA xs = (merge xs, 0) := by simp [mergeA, hw]
    rw [hA]
    go_enter Try.func18, Try.ntmps18
    go_wp2_with (first
      | (go_at_call 19; refine (Whole_calls _ xs (by omega) hok _ hv).mono ?_; rw [hw]; rintro e w1 ⟨rfl, hx1⟩)
      | (go_at_call 37; refine (values_in _ _ _ _).mono ?_; rintro e w' ⟨rfl, rfl⟩)
      | (go_at_call 35; refine (merged_calls 42 _ w1.heap.size xs.length xs (Nat.le_refl _) hl _ (by simp) (enters_of Try.func42 (by kernel_rfl) rfl) (values_stops w1.heap.size w1.heap.size _ xs hl _ (by simp) (by simp) (Boxed.new w1 _ _).cell (hv.ext (hx1.alloc _)) (rd_low (hv.ext hx1)))).mono ?_; rintro e w2 ⟨u, rfl, hx2, hown⟩))
    go_ret2
    exact ⟨u, rfl, (hx1.alloc _).trans hx2, own_base hown (by have := hx1.size; simp; omega)⟩
end L23
end Go.Proofs.Ytaclndhenhjjaaa
