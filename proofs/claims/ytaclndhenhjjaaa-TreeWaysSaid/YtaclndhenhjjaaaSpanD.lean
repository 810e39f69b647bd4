/- Layer 23: the walk of the reference's Merge. -/
import Derived.RangeFuncBox
import Derived.Test.YtaclndhenhjjaaaSpanC
namespace Go.Proofs.Ytaclndhenhjjaaa
open Go.RowKit V
namespace L23
theorem infoS : (Try.prog.info? 33).map (fun i => (i.zero, i.size, i.bytes)) = some (some (.agg #[.int .u32 0, .int .u32 0, .int .i64 0]), 3, 16) := by kernel_rfl
/-- a slice of spans that a call made, from a block on -/
def Own (w : World) (base : Nat) (v : Value) (xs : List Span) : Prop := w.ownsRow base 33 3 v xs.length (xs.flatMap encS)
theorem Own.rd {w : World} {base : Nat} {v : Value} {xs : List Span} (h : Own w base v xs) : Rd w 3 encS v xs := rd_of_own encS_len h
theorem Own.alloc {w : World} {base : Nat} {v : Value} {xs : List Span} (h : Own w base v xs) (o : Obj) : Own (w.alloc o) base v xs := World.ownsRow.alloc h o
theorem Own.drewN {w : World} {base : Nat} {v : Value} {xs : List Span} (h : Own w base v xs) (n : Nat) : Own (w.drewN n) base v xs := by
  obtain ⟨h1, h2⟩ := h
  exact ⟨h1, by rw [heap_drewN]; exact h2⟩
/-- one span appended to a slice that the call at hand (begun in w0) has made -/
theorem app1 {ops : Array Oper} {rest : List Oper} {o : Oper} {a : Act} {Q : Exit → Act → World → Prop} {W : World} (hgd : o.guard = none) (s x : Operand)
    (hop : o.op = .call { callee := .builtin .append, args := #[s, x], argTypes := #[24, 24] }) (w0 : World) (u : Value) (xs : List Span) (hs : a.eval s = u) (y : Span) (t' : TypeId) (g : Nat) (hg : g = W.heap.size)
    (hx : a.eval x = .slice (some ⟨g, 0, none⟩) 1 1) (hown : Own W w0.heap.size u xs) (hl : xs.length ≤ 1000000) (hE : Ext w0 W)
    (h : ∀ g c w', Own w' w0.heap.size (.slice (some ⟨g, 0, none⟩) (xs.length + 1) c) (xs ++ [y]) → Ext w0 w' → wpList Try.prog ops Q rest (a.put o.dst (.slice (some ⟨g, 0, none⟩) (xs.length + 1) c)) w') :
    wpList Try.prog ops Q (o :: rest) a (W.alloc (.cells #[.int .u32 (y.lo : Int), .int .u32 (y.hi : Int), .int .i64 y.way] t')) := by
  obtain ⟨i0, hi, hz0, hz1, hz2⟩ := info_parts infoS
  have hlo := hown.lt
  subst hg
  refine wpList_append_own _ hgd s x 24 hop w0.heap.size 33 i0 (.agg #[.int .u32 0, .int .u32 0, .int .i64 0]) 3 16 Try.underlying24 hi hz0 hz1 hz2 rfl (by decide) _ xs.length (xs.flatMap encS) hs (hown.alloc _) _ 1 1 (encS y) hx rfl (cells_new W (encS y) t') (encS_one _) (by unfold maxLen; omega) (by omega) (by have := hE.size; simp; omega) ?_
  intro u' w' hown' hg' _
  obtain ⟨g', c', rfl⟩ := ownsRow_succ hown'
  exact h g' c' w' (by unfold Own; simpa using hown') (Ext.grown (hE.alloc _) hg' (fun k e => (hlo k e).1))
set_option maxRecDepth 100000 in
set_option maxHeartbeats 2000000 in
theorem refMerge_calls (v : Value) (xs : List Span) (hl : xs.length ≤ 1000000) (w : World) (hv : Rd w 3 encS v xs) :
    Calls Try.prog 23 #[v] w fun e w' => ∃ u, e = .returned u ∧ Ext w w' ∧ Own w' w.heap.size u (merge xs) := by
  obtain ⟨a, c, rfl, hac, hca⟩ := rdS_cell hv
  clear hv
  obtain ⟨i0, hi, hz0, hz1, hz2⟩ := info_parts infoS
  go_enter Try.func23, Try.ntmps23
  go_wp2
  go_loopw [3, 4] (fun u i wr => ∃ k : Nat, k ≤ xs.length ∧ i = .int .i64 k ∧ Ext w wr ∧ Own wr w.heap.size u (merge (xs.take k))) (fun _ i _ => xs.length - (intOf i).toNat)
  case atStart => exact ⟨0, by omega, rfl, Ext.refl _, World.ownsRow_nil _ _ _ _⟩
  case round =>
    obtain ⟨k, hk, rfl, hx, hown⟩ := hrel
    have HX := Lib.hid hx
    by_cases hlt : k < xs.length
    · obtain ⟨b, o, rfl, h1, h2, h3⟩ := hca k hlt
      replace h1 := hx.cell h1; replace h2 := hx.cell h2; replace h3 := hx.cell h3
      have hs := merge_succ hlt
      have hml := merge_len (xs.take k)
      rw [List.length_take, Nat.min_eq_left hk] at hml
      generalize merge (xs.take k) = out at *
      have HS := Lib.hid hs
      generalize hsv : xs[k] = s at *
      have Hhsv := Lib.hid hsv
      clear hsv
      have Hhs := Lib.hid hs
      clear hs
      obtain ⟨lo, hi', wy'⟩ := s
      dsimp only at *
      clear hca hx
      have hlo := hown.lt
      obtain ⟨ao, co, rfl, hco, hcells⟩ := rdS_cell hown.rd
      have Hhown := Lib.hid hown
      clear hown
      have Hhlo := Lib.hid hlo
      clear hlo
      by_cases h0 : out.length = 0
      · have hd : decide ((0 : Int) < (out.length : Int)) = false := decide_eq_false (by omega)
        have hd2 : decide (0 < out.length) = false := decide_eq_false (by omega)
        have hput : put out ⟨lo, hi', wy'⟩ = out ++ [⟨lo, hi', wy'⟩] := by rw [List.eq_nil_of_length_eq_zero h0]; rfl
        have Hhput := Lib.hid hput
        clear hput
        have Hh0 := Lib.hid h0
        clear h0
        clear hcells
        go_wp2_with (first
          | (go_quiet (fail))
          | (at_builtin; refine wpList_append_own _ rfl _ _ 24 rfl w.heap.size 33 i0 (.agg #[.int .u32 0, .int .u32 0, .int .i64 0]) 3 16 Try.underlying24 hi hz0 hz1 hz2 rfl (by decide) _ out.length (out.flatMap encS) rfl (by first | exact Hhown.out.alloc _ | exact (Hhown.out.drewN _).alloc _) _ 1 1 (encS ⟨lo, hi', wy'⟩) rfl rfl (cells_new _ _ _) (encS_one _) (by unfold maxLen; omega) (by omega) (by have := HX.out.size; simp; omega) ?_; intro u' w1 hown' hg' _))
        have hE : Ext w w1 := Ext.grown (by repeat (first | exact HX.out | apply Ext.drewN | apply Ext.alloc | apply Ext.drew)) hg' (fun k e => (Hhlo.out k e).1)
        go_roundw
        case rel => exact ⟨k + 1, by omega, by go_num, hE, by rw [Hhs.out, Hhput.out]; unfold Own; simpa using hown'⟩
        case measure => simp [intOf]; omega
      · have hpos : 0 < out.length := by omega
        obtain ⟨q, hq⟩ : ∃ q, q = out.length - 1 := ⟨_, rfl⟩
        have hql : q < out.length := by omega
        have hd4 : ((out.length : Int) - 1) = (q : Int) := by omega
        obtain ⟨g, og, rfl, g1, g2, g3⟩ := hcells q hql
        have hd : decide ((0 : Int) < (out.length : Int)) = true := decide_eq_true (by omega)
        have hd2 : decide (0 < out.length) = true := decide_eq_true (by omega)
        obtain ⟨g', c', e', hgb, hgs, hfz⟩ := own_parts Hhown.out hpos
        simp only [Value.slice.injEq, Option.some.injEq, Addr.mk.injEq, and_true, true_and] at e'
        obtain ⟨⟨rfl, rfl⟩, rfl⟩ := e'
        rw [Nat.zero_add] at g1 g2 g3
        have hfz1 := hfz (q * 3 + 1)
        clear hcells hfz
        by_cases hw : out[q].way = wy'
        · have hput : put out ⟨lo, hi', wy'⟩ = out.set q ⟨out[q].lo, hi', out[q].way⟩ := by subst hq; exact put_same hpos hw
          have Hhput := Lib.hid hput
          clear hput
          have Hhq := Lib.hid hq
          clear hq
          generalize hov : out[q] = ov at *
          have Hhov := Lib.hid hov
          clear hov
          obtain ⟨vlo, vhi, vwy⟩ := ov
          dsimp only at *
          subst hw
          go_wp2_with (go_quiet (fail))
          go_roundw
          case rel =>
            have hst := own_store (e := 33) encS_len (Own.drewN Hhown.out nq) q 1 (.int .u32 (hi' : Int)) ⟨vlo, hi', vwy⟩ hql (by decide) (by rw [Hhov.out]; rfl)
            exact ⟨k + 1, by omega, by go_num, Ext.setCell (by repeat (first | exact HX.out | apply Ext.drewN | apply Ext.alloc | apply Ext.drew)) hgb _, by rw [Hhs.out, Hhput.out]; unfold Own; rw [List.length_set]; exact hst.1⟩
          case measure => simp [intOf]; omega
        · have hput : put out ⟨lo, hi', wy'⟩ = out ++ [⟨lo, hi', wy'⟩] := by subst hq; exact put_other hpos hw
          have Hhput := Lib.hid hput
          clear hput
          have Hhq := Lib.hid hq
          clear hq
          have hne : (out[q].way == wy') = false := by simp [hw]
          have Hhw := Lib.hid hw
          clear hw
          generalize out[q] = ov at *
          obtain ⟨vlo, vhi, vwy⟩ := ov
          dsimp only at *
          go_wp2_with (first
            | (go_quiet (fail))
            | (at_builtin; refine wpList_append_own _ rfl _ _ 24 rfl w.heap.size 33 i0 (.agg #[.int .u32 0, .int .u32 0, .int .i64 0]) 3 16 Try.underlying24 hi hz0 hz1 hz2 rfl (by decide) _ out.length (out.flatMap encS) rfl (by first | exact Hhown.out.alloc _ | exact (Hhown.out.drewN _).alloc _) _ 1 1 (encS ⟨lo, hi', wy'⟩) rfl rfl (cells_new _ _ _) (encS_one _) (by unfold maxLen; omega) (by omega) (by have := HX.out.size; simp; omega) ?_; intro u' w1 hown' hg' _))
          have hE : Ext w w1 := Ext.grown (by repeat (first | exact HX.out | apply Ext.drewN | apply Ext.alloc | apply Ext.drew)) hg' (fun k e => (Hhlo.out k e).1)
          go_roundw
          case rel => exact ⟨k + 1, by omega, by go_num, hE, by rw [Hhs.out, Hhput.out]; unfold Own; simpa using hown'⟩
          case measure => simp [intOf]; omega
    · obtain rfl : k = xs.length := by omega
      rw [List.take_length] at hown
      go_wp2
      go_ret
      exact ⟨_, rfl, HX.out, hown⟩
end L23
end Go.Proofs.Ytaclndhenhjjaaa
