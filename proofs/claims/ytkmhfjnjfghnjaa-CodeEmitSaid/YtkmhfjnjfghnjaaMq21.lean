import Derived.RangeFuncBox
import Derived.RangeFuncNested
import Derived.RangeFuncBound
import Derived.RangeFuncCalls
import Derived.RangeFuncLeaves
import Derived.Shelf.Abstract
import Derived.Shelf.RegionOpen
import Derived.OwnWalkIn
import Derived.TacticsInMore
import Derived.LoopNIn
import Derived.LoopIn
import Derived.Laws.EntriesVeiled
import Derived.Test.YtkmhfjnjfghnjaaMq13
/- Cut out of XSpanB, XSpanC, XSpanD, XSpanE, XSpanF, XSpanG, XSpanH, XSpanI, XSpanK by wip/tools/cutout.py: what Of_calls, Whole_calls, all of XSpanH, up, up_step, ofA lean on. -/
namespace Go.Proofs.Ytkmhfjnjfghnjaa
open Go.RowKit Go.Shelf V
attribute [local go_sem] Oper.semAt_some
namespace L23
set_option maxRecDepth 100000 in
set_option maxHeartbeats 400000 in
theorem Whole_calls (v : Value) (xs : List Span) (hl : xs.length ≤ 140737488351232) (hok : ∀ s ∈ xs, OkS s) (w : World) (hv : Rd w 3 encS v xs) :
    Calls Try.prog 101 #[v] w fun e w' => e = .returned (.bool (whole xs)) ∧ Ext w w' := by
  obtain ⟨a, c, rfl, hac, hca⟩ := rdS_cell hv
  clear hv
  go_enter Try.func101, Try.ntmps101
  go_wp2
  go_loopw [3, 8] (fun v i wr => ∃ k nx : Nat, k ≤ xs.length ∧ i = .int .i64 k ∧ nx ≤ 4294967296 ∧ v = .int .u64 nx ∧ Ext w wr ∧ chain xs 0 = chain (xs.drop k) nx) (fun _ i _ => xs.length - (intOf i).toNat)
  case atStart => exact ⟨0, 0, by omega, rfl, by omega, rfl, Ext.refl _, rfl⟩
  case round =>
    obtain ⟨k, nx, hk, rfl, hnx, rfl, hx, heq⟩ := hrel
    have HE := Lib.hid heq
    have HX := Lib.hid hx
    clear heq
    by_cases hlt : k < xs.length
    · obtain ⟨b, o, rfl, h1, h2, h3⟩ := hca k hlt
      replace h1 := hx.cell h1; replace h2 := hx.cell h2; replace h3 := hx.cell h3
      have hs := chain_step hlt nx
      have HS := Lib.hid hs
      obtain ⟨ok1, ok2, -, -⟩ := hok _ (List.getElem_mem hlt)
      clear hs hca hok hx
      generalize xs[k] = s at *
      obtain ⟨lo, hi, wy⟩ := s
      dsimp only at *
      by_cases hc : lo = nx ∧ lo ≤ hi
      · obtain ⟨rfl, hle⟩ := hc
        go_wp2
        go_roundw
        case rel => exact ⟨k + 1, hi + 1, by omega, by go_num, by omega, by go_num, HX.out.alloc _, by rw [HE.out, HS.out, if_pos ⟨rfl, hle⟩]⟩
        case measure => simp [intOf]; omega
      · have hres : whole xs = false := by unfold whole; rw [HE.out, HS.out, if_neg hc]; rfl
        have HR := Lib.hid hres
        clear hres
        by_cases h4 : lo = nx
        · subst h4
          have h5 : hi < lo := by omega
          go_wp2
          go_ret
          exact ⟨by rw [HR.out]; rfl, HX.out.alloc _⟩
        · have h6 : ((lo : Int) != (nx : Int)) = true := by rw [bne_iff_ne]; omega
          go_wp2
          go_ret
          exact ⟨by rw [HR.out]; rfl, HX.out.alloc _⟩
    · obtain rfl : k = xs.length := by omega
      have hres : whole xs = ((nx : Int) == 4294967296) := by
        unfold whole; rw [HE.out, List.drop_eq_nil_of_le (Nat.le_refl _), chain_nil, Bool.eq_iff_iff]; simp; omega
      have HR := Lib.hid hres
      clear hres
      go_wp2
      go_ret
      exact ⟨by rw [HR.out]; rfl, HX.out⟩
theorem infoS : (Try.prog.info? 146).map (fun i => (i.zero, i.size, i.bytes)) = some (some (.agg #[.int .u32 0, .int .u32 0, .int .i64 0]), 3, 16) := by kernel_rfl
/-- a slice of spans that a call made, from a block on -/
def Own (w : World) (base : Nat) (v : Value) (xs : List Span) : Prop := w.ownsRow base 146 3 v xs.length (xs.flatMap encS)
theorem Own.rd {w : World} {base : Nat} {v : Value} {xs : List Span} (h : Own w base v xs) : Rd w 3 encS v xs := rd_of_own encS_len h
theorem Own.alloc {w : World} {base : Nat} {v : Value} {xs : List Span} (h : Own w base v xs) (o : Obj) : Own (w.alloc o) base v xs := World.ownsRow.alloc h o
theorem Own.drewN {w : World} {base : Nat} {v : Value} {xs : List Span} (h : Own w base v xs) (n : Nat) : Own (w.drewN n) base v xs := by
  obtain ⟨h1, h2⟩ := h
  exact ⟨h1, by rw [heap_drewN]; exact h2⟩
theorem put_step {w W w1 : World} {Bo base t : Nat} {u v : Value} (hB : Bo < base) (hbs : base ≤ w.heap.size) (hE : Ext w W) (hbx : Boxed w Bo t v) (hlo : ∀ k, u.ownBlock = some k → base ≤ k ∧ k < w.heap.size) (hg : W.grownBy w1 u.ownBlock) :
    Boxed w1 Bo t v ∧ (∀ x, Keep (fun k => k < base ∧ k ≠ Bo) w (w1.setCell ⟨Bo, 0, none⟩ x)) ∧ (KeepsOthers w W → (∀ (j : Nat) (o : Obj), u.ownBlock = some j → W.heap[j]? = some o → o.isCells = true) → KeepsOthers w w1) := by
  have hsz := hE.size
  have hne : ∀ k, k < base → some k ≠ u.ownBlock := fun k hk e => by have := (hlo k e.symm).1; omega
  refine ⟨(hg.block Bo (by omega) (hne Bo hB)).trans ((hE.block (by omega)).trans hbx), fun x => ⟨hg.os.trans hE.os, hg.tape.trans hE.tape, hg.output.trans hE.output, ?_, fun k hk => ?_⟩, fun h1 h2 => h1.trans (KeepsOthers.of_grownBy hg h2)⟩
  · rw [World.size_setCell]; exact Nat.le_trans hsz hg.size
  · rw [Below.heap_setCell _ _ _ _ hk.2]
    exact (hg.block k (by omega) (hne k hk.1)).trans (hE.block (by omega))
theorem own_isCells {W : World} {base : Nat} {u : Value} {out : List Span} (h : Own W base u out) : ∀ (j : Nat) (o : Obj), u.ownBlock = some j → W.heap[j]? = some o → o.isCells = true := by
  intro j o hj ho
  rcases h.2 with ⟨rfl, _⟩ | ⟨g, cap, cur, rfl, _, hh, _⟩
  · simp [Value.ownBlock] at hj
  · simp only [Value.ownBlock, Option.some.injEq] at hj
    subst hj
    rw [hh] at ho
    cases ho
    rfl
theorem koDrewN (w : World) (n : Nat) : KeepsOthers w (w.drewN n) := ⟨Nat.le_refl _, fun _ _ h _ => h⟩
set_option maxRecDepth 100000 in
set_option maxHeartbeats 2000000 in
theorem put_calls (Bo base : Nat) (u : Value) (out : List Span) (s : Span) (hl : out.length ≤ 1000000) (w : World) (hB : Bo < base) (hbs : base ≤ w.heap.size) (hbx : Boxed w Bo 108 u) (hown : Own w base u out) :
    Calls Try.prog 110 #[.agg #[.int .u32 (s.lo : Int), .int .u32 (s.hi : Int), .int .i64 s.way], .pointer (some ⟨Bo, 0, none⟩)] w fun e w' =>
      e = .returned (.tuple #[]) ∧ ∃ u', Boxed w' Bo 108 u' ∧ Own w' base u' (put out s) ∧ Keep (fun k => k < base ∧ k ≠ Bo) w w' ∧ KeepsOthers w w' := by
  obtain ⟨i0, hi, hz0, hz1, hz2⟩ := info_parts infoS
  have hlo := hown.lt
  obtain ⟨ao, co, rfl, hco, hcells⟩ := rdS_cell hown.rd
  obtain ⟨lo, hi', wy'⟩ := s
  dsimp only
  have hcb := hbx.cell
  have hfb := hbx.frozen
  have hltb : Bo < w.heap.size := by omega
  by_cases h0 : out.length = 0
  · have hd : decide ((0 : Int) < (out.length : Int)) = false := decide_eq_false (by omega)
    have hd2 : decide (0 < out.length) = false := decide_eq_false (by omega)
    have hput : put out ⟨lo, hi', wy'⟩ = out ++ [⟨lo, hi', wy'⟩] := by rw [List.eq_nil_of_length_eq_zero h0]; rfl
    have Hhput := Lib.hid hput
    clear hput
    have Hh0 := Lib.hid h0
    clear h0
    have Hhlo := Lib.hid hlo
    clear hlo
    have Hhown := Lib.hid hown
    clear hown
    have Hhbx := Lib.hid hbx
    clear hcells
    go_enter Try.func110, Try.ntmps110
    go_wp2_with (first
          | (go_quiet (fail))
          | (at_builtin; refine wpList_append_own _ rfl _ _ 108 rfl base 146 i0 (.agg #[.int .u32 0, .int .u32 0, .int .i64 0]) 3 16 Try.underlying108 hi hz0 hz1 hz2 rfl (by decide) _ out.length (out.flatMap encS) rfl (by first | exact (Hhown.out.alloc _).alloc _ | exact ((Hhown.out.alloc _).drewN _).alloc _) _ 1 1 (encS ⟨lo, hi', wy'⟩) rfl rfl (cells_new' _ _ _ _ (by simp)) (encS_one _) (by unfold maxLen; omega) (by omega) (by simp; omega) ?_; intro u' w1 hown' hg' _; obtain ⟨g', cap', rfl⟩ := ownsRow_succ hown'; have hE1 : Ext w _ := (((Ext.refl w).alloc (.cells #[.int .u32 (lo : Int), .int .u32 (hi' : Int), .int .i64 wy'] 146)).drewN nq).alloc (.cells #[.int .u32 (lo : Int), .int .u32 (hi' : Int), .int .i64 wy'] 146); obtain ⟨hbx1, hkp1, hko1⟩ := put_step hB hbs hE1 Hhbx.out Hhlo.out hg'; have hcb1 := hbx1.cell; have hfb1 := hbx1.frozen; have HO' := Lib.hid hown'; clear hown'))
    go_end0
    exact ⟨rfl, _, hbx1.set _, ownsRow_setCell_below HO'.out hB _ |> fun h => by unfold Own; rw [Hhput.out]; simpa using h, hkp1 _, (hko1 (((KeepsOthers.alloc _ _).trans (koDrewN _ _)).trans (KeepsOthers.alloc _ _)) (own_isCells (((Hhown.out.alloc _).drewN _).alloc _))).trans (KeepsOthers.setCell _ _ _)⟩
  · have hpos : 0 < out.length := by omega
    obtain ⟨q, hq⟩ : ∃ q, q = out.length - 1 := ⟨_, rfl⟩
    have hql : q < out.length := by omega
    have hd4 : ((out.length : Int) - 1) = (q : Int) := by omega
    obtain ⟨g, og, rfl, g1, g2, g3⟩ := hcells q hql
    have hd : decide ((0 : Int) < (out.length : Int)) = true := decide_eq_true (by omega)
    have hd2 : decide (0 < out.length) = true := decide_eq_true (by omega)
    obtain ⟨g', c', e', hgb, hgs, hfz⟩ := own_parts hown hpos
    simp only [Value.slice.injEq, Option.some.injEq, Addr.mk.injEq, and_true, true_and] at e'
    obtain ⟨⟨rfl, rfl⟩, rfl⟩ := e'
    rw [Nat.zero_add] at g1 g2 g3
    have hfz1 := hfz (q * 3 + 1)
    clear hcells hfz
    by_cases hw : out[q].way = wy'
    · have hput : put out ⟨lo, hi', wy'⟩ = out.set q ⟨out[q].lo, hi', out[q].way⟩ := by subst hq; exact put_same hpos hw
      have Hhput := Lib.hid hput
      clear hput
      have Hhq := Lib.hid hq
      clear hq
      have Hhlo := Lib.hid hlo
      clear hlo
      have Hhown := Lib.hid hown
      clear hown
      have Hhbx := Lib.hid hbx
      clear hbx
      generalize hov : out[q] = ov at *
      have Hhov := Lib.hid hov
      clear hov
      obtain ⟨vlo, vhi, vwy⟩ := ov
      dsimp only at *
      subst hw
      go_enter Try.func110, Try.ntmps110
      go_wp2_with (go_quiet (fail))
      have hst := own_store (e := 146) encS_len (Own.drewN (Hhown.out.alloc (.cells #[.int .u32 (lo : Int), .int .u32 (hi' : Int), .int .i64 vwy] 146)) nq) q 1 (.int .u32 (hi' : Int)) ⟨vlo, hi', vwy⟩ hql (by decide) (by rw [Hhov.out]; rfl)
      have hkp : Keep (fun k => k < base ∧ k ≠ Bo) w ((w.alloc (.cells #[.int .u32 (lo : Int), .int .u32 (hi' : Int), .int .i64 vwy] 146)).drewN nq) := Keep.of_below (((Ext.refl w).alloc _).drewN _) (fun k hk => by omega)
      refine bodyPost_ret (results_none rfl _ _ _) rfl ⟨rfl, .slice (some ⟨g, 0, none⟩) out.length co, ?_, ?_, hkp.trans (Keep.setCell _ (by simp only; omega) _), ((KeepsOthers.alloc _ _).trans (koDrewN _ _)).trans (KeepsOthers.setCell _ _ _)⟩
      · unfold Boxed
        rw [Below.heap_setCell _ _ _ _ (by simp only; omega)]
        exact (Ext.block (((Ext.refl w).alloc _).drewN nq) (by omega)).trans Hhbx.out
      · rw [Hhput.out]; unfold Own; rw [List.length_set]; exact hst.1
    · have hput : put out ⟨lo, hi', wy'⟩ = out ++ [⟨lo, hi', wy'⟩] := by subst hq; exact put_other hpos hw
      have Hhput := Lib.hid hput
      clear hput
      have Hhq := Lib.hid hq
      clear hq
      have Hhlo := Lib.hid hlo
      clear hlo
      have Hhown := Lib.hid hown
      clear hown
      have Hhbx := Lib.hid hbx
      have hne : (out[q].way == wy') = false := by simp [hw]
      have Hhw := Lib.hid hw
      clear hw
      generalize out[q] = ov at *
      obtain ⟨vlo, vhi, vwy⟩ := ov
      dsimp only at *
      go_enter Try.func110, Try.ntmps110
      go_wp2_with (first
          | (go_quiet (fail))
          | (at_builtin; refine wpList_append_own _ rfl _ _ 108 rfl base 146 i0 (.agg #[.int .u32 0, .int .u32 0, .int .i64 0]) 3 16 Try.underlying108 hi hz0 hz1 hz2 rfl (by decide) _ out.length (out.flatMap encS) rfl (by first | exact (Hhown.out.alloc _).alloc _ | exact ((Hhown.out.alloc _).drewN _).alloc _) _ 1 1 (encS ⟨lo, hi', wy'⟩) rfl rfl (cells_new' _ _ _ _ (by simp)) (encS_one _) (by unfold maxLen; omega) (by omega) (by simp; omega) ?_; intro u' w1 hown' hg' _; obtain ⟨g', cap', rfl⟩ := ownsRow_succ hown'; have hE1 : Ext w _ := (((Ext.refl w).alloc (.cells #[.int .u32 (lo : Int), .int .u32 (hi' : Int), .int .i64 wy'] 146)).drewN nq).alloc (.cells #[.int .u32 (lo : Int), .int .u32 (hi' : Int), .int .i64 wy'] 146); obtain ⟨hbx1, hkp1, hko1⟩ := put_step hB hbs hE1 Hhbx.out Hhlo.out hg'; have hcb1 := hbx1.cell; have hfb1 := hbx1.frozen; have HO' := Lib.hid hown'; clear hown'))
      go_end0
      exact ⟨rfl, _, hbx1.set _, ownsRow_setCell_below HO'.out hB _ |> fun h => by unfold Own; rw [Hhput.out]; simpa using h, hkp1 _, (hko1 (((KeepsOthers.alloc _ _).trans (koDrewN _ _)).trans (KeepsOthers.alloc _ _)) (own_isCells (((Hhown.out.alloc _).drewN _).alloc _))).trans (KeepsOthers.setCell _ _ _)⟩
theorem own_kept {W W' : World} {base : Nat} {u : Value} {xs : List Span} {row : Option Nat} (h : Own W base u xs) (hg : W.grownBy W' row) (hr : ∀ r, row = some r → ∃ o : Obj, W.heap[r]? = some o ∧ o.isCells = false) : Own W' base u xs := by
  refine World.ownsRow.kept h hg ?_
  cases hu : u.ownBlock with
  | none => exact .inl rfl
  | some k =>
    refine .inr fun e => ?_
    obtain ⟨o, ho, hc⟩ := hr k e.symm
    rw [own_isCells h k o hu ho] at hc
    cases hc
theorem own_base {W : World} {base base' : Nat} {u : Value} {xs : List Span} (h : Own W base u xs) (hb : base' ≤ base) : Own W base' u xs := by
  obtain ⟨h1, h2⟩ := h
  refine ⟨h1, ?_⟩
  rcases h2 with h2 | ⟨g, cap, cur, hv, hg, r⟩
  · exact .inl h2
  · exact .inr ⟨g, cap, cur, hv, by omega, r⟩
set_option maxRecDepth 100000 in
set_option maxHeartbeats 2000000 in
theorem merged_calls (gf : Nat) (lb : Array Value) (n₀ N : Nat) (xs : List Span) (hN : xs.length ≤ N) (hN2 : N ≤ 1000000) (w : World) (hn₀ : n₀ ≤ w.heap.size) (hgf : ∀ args w, (callFunc gf args).run Try.prog w = .ok (.enter gf args) w)
    (hseq : SeqStopsK Fence.wide 3 Try.prog gf lb (fun x : Span => #[.agg #[.int .u32 (x.lo : Int), .int .u32 (x.hi : Int), .int .i64 x.way]]) (Below n₀) (fun ys => ys = xs) (fun pre => pre <+: xs) N w) :
    Calls Try.prog 99 #[.func (.func gf) #[] lb] w fun e w' => ∃ u, e = .returned u ∧ Ext w w' ∧ Own w' w.heap.size u (merge xs) := by
  refine (callsIn_wide (n := 4)).1 ?_
  refine callsIn_of_wp_marks Try.func99 rfl trivial ?_ rfl
  simp only [Try.ntmps99, List.size_toArray, List.length_cons, List.length_nil, Nat.reduceAdd, Nat.reduceSub, Array.replicate_succ, Array.replicate_zero, List.push_toArray, List.append_toArray, List.nil_append, List.cons_append]
  gi_wp2
  have h1 : 1 ≤ 4 := by omega
  have bO := Boxed.new w 108 (.slice none 0 0)
  have bF := Boxed.new (w.alloc (.cells #[.slice none 0 0] 108)) 162 (.func (.func 110) #[] #[.pointer (some ⟨w.heap.size, 0, none⟩)])
  rw [World.size_alloc] at bF
  have hE0 : Ext w ((w.alloc (.cells #[.slice none 0 0] 108)).alloc (.cells #[.func (.func 110) #[] #[.pointer (some ⟨w.heap.size, 0, none⟩)]] 162)) := ((Ext.refl w).alloc _).alloc _
  have hsz0 : ((w.alloc (.cells #[.slice none 0 0] 108)).alloc (.cells #[.func (.func 110) #[] #[.pointer (some ⟨w.heap.size, 0, none⟩)]] 162)).heap.size = w.heap.size + 2 := by simp
  replace bO := bO.alloc (.cells #[.func (.func 110) #[] #[.pointer (some ⟨w.heap.size, 0, none⟩)]] 162)
  obtain ⟨W0, hW0⟩ : ∃ W0, ((w.alloc (.cells #[.slice none 0 0] 108)).alloc (.cells #[.func (.func 110) #[] #[.pointer (some ⟨w.heap.size, 0, none⟩)]] 162)) = W0 := ⟨_, rfl⟩
  rw [hW0] at bO bF hE0 hsz0 ⊢
  clear hW0
  refine wpIn_rangeFunc_ownH (w0 := w) rfl h1 (gf := gf) (lb := lb) rfl trivial hgf hseq belowK_t (belowK_b (by omega)) hE0 (fun _ => rfl)
    (fun pre W => ((∃ u, Boxed W w.heap.size 108 u ∧ Own W (w.heap.size + 2) u (merge pre)) ∧ Boxed W (w.heap.size + 1) 162 (.func (.func 110) #[] #[.pointer (some ⟨w.heap.size, 0, none⟩)])) ∧ Below w.heap.size w W)
    (fun _ _ _ => False)
    (OwnFrom.and (OwnFrom.and (Own.from (fun s A B row hs hg hr => ?hI1) _) (Own.from (boxed_own _ _ _) _)) (ownFrom_below (Nat.le_refl _) (by omega)))
    (fun _ _ _ _ _ hs _ _ => hs)
    ⟨⟨⟨_, bO, World.ownsRow_nil _ _ _ _⟩, bF⟩, hE0⟩
    (fun x a' W => ∃ Bx, w.heap.size + 1 < Bx ∧ W.heap[Bx]? = some (.cells #[.int .u32 (x.lo : Int), .int .u32 (x.hi : Int), .int .i64 x.way] 146 (0, 0)) ∧
      a' = { tmps := #[.func (.func gf) #[] lb, undef, .slice none 0 0, .pointer (some ⟨w.heap.size, 0, none⟩), .pointer (some ⟨w.heap.size + 1, 0, none⟩), .pointer (some ⟨Bx, 0, none⟩), .func (.func 110) #[] #[.pointer (some ⟨w.heap.size, 0, none⟩)], .func (.func gf) #[] lb, .agg #[.int .u32 (x.lo : Int), .int .u32 (x.hi : Int), .int .i64 x.way], undef, undef, undef, undef], defers := [] })
    (fun x a' _ X Y row hs hg hr => ?hI2)
    ?assign ?body ?done ?stop
  case hI1 =>
    obtain ⟨u, hb, ho⟩ := hs
    exact ⟨u, boxed_own _ _ (fun (_ : Unit) => u) () A B row hb hg hr, own_kept ho hg hr⟩
  case hI2 =>
    obtain ⟨Bx, k1, k2, k3⟩ := hs
    refine ⟨Bx, k1, (hg.block Bx (Array.getElem?_eq_some_iff.1 k2).1 (fun e => ?_)).trans k2, k3⟩
    obtain ⟨o, ho, hc⟩ := (hr Bx e.symm).2
    rw [k2] at ho
    cases ho
    cases hc
  case assign =>
    rintro l pre x W K ⟨⟨⟨u, bu, ou⟩, bf⟩, hB⟩ hK
    gi_wp2
    exact hK _ _ ((KeepsOthers.alloc _ _).from _) ((Below.refl _ W).alloc (Nat.le_trans hn₀ hB.size) _) ⟨⟨⟨u, bu.alloc _, ou.alloc _⟩, bf.alloc _⟩, hB.alloc hB.size _⟩ ⟨W.heap.size, bf.lt, heap_alloc_new W _, rfl⟩
  case body =>
    rintro l pre x a' W hl ⟨r, hr⟩ ⟨⟨⟨u, bu, ou⟩, bf⟩, hB⟩ ⟨Bx, hBx, bX, rfl⟩ hlt
    have cF := bf.cell
    have n1 : 1 ≤ 4 - 1 - 1 := by omega
    have hml := merge_len pre
    have x0 : W.cell? ⟨Bx, 0, none⟩ = some (.int .u32 (x.lo : Int)) := by simp [World.cell?, bX]
    have x1 : W.cell? ⟨Bx, 1, none⟩ = some (.int .u32 (x.hi : Int)) := by simp [World.cell?, bX]
    have x2 : W.cell? ⟨Bx, 2, none⟩ = some (.int .i64 x.way) := by simp [World.cell?, bX]
    have hput := put_calls w.heap.size (w.heap.size + 2) u (merge pre) x (by omega) W (by omega) (by have := bf.lt; omega) bu ou
    have Hhput := Lib.hid hput
    clear hput
    have hmp : merge (pre ++ [x]) = put (merge pre) x := by unfold merge; rw [List.foldl_append]; rfl
    have Hhmp := Lib.hid hmp
    clear hmp
    gi_wp2_with (refine ⟨trivial, ?_⟩; gi_at_call 110; refine (CallsIn.inRound l (callsIn_wide.2 Hhput.out)).mono ?_; rintro e w' ⟨rfl, u', bu', ou', hkp, hko⟩)
    exact ⟨hko.from _, hkp.below (fun k hk => ⟨by omega, by omega⟩), ⟨⟨⟨u', bu', by rw [Hhmp.out]; exact ou'⟩, (hkp.block _ ⟨by omega, by omega⟩).trans bf⟩, hB.trans (hkp.below (fun k hk => ⟨by omega, by omega⟩))⟩⟩
  case done =>
    rintro D ys W hD rfl ⟨⟨⟨u, bu, ou⟩, bf⟩, hB⟩ hK
    have cu := bu.cell
    gi_wp2
    refine ⟨by simp, .inl ⟨_, _, rfl, run_takeDeferred hK, ?_⟩⟩
    refine ⟨_, results_tmp rfl _ _ _, u, rfl, hB.trans (belowK_b (w := w) (Nat.le_refl _) W D _ _ (by omega) hK rfl rfl), own_base (own_kept ou (grownBy_putObj' _ D (.deferred none)) (fun r e => by cases e; exact ⟨_, hK, rfl⟩)) (by omega)⟩
  case stop =>
    rintro D c pre W _ _ h _
    exact h.elim
def encU (n : Nat) : List Value := [.int .u32 (n : Int)]
def encI (i : Int) : List Value := [.int .i64 i]
theorem rdU_cell {w : World} {v : Value} {xs : List Nat} (h : Rd w 1 encU v xs) : ∃ a c, v = .slice a xs.length c ∧ xs.length ≤ c ∧ ∀ i, (hi : i < xs.length) → ∃ b o, a = some ⟨b, o, none⟩ ∧ w.cell? ⟨b, o + i, none⟩ = some (.int .u32 (xs[i] : Int)) := by
  obtain ⟨a, c, h1, h2, h3, h4⟩ := h
  refine ⟨a, c, h1, h2, fun i hi => ?_⟩
  obtain ⟨b, o, e, k⟩ := h4 i hi
  have := k 0 (by simp [encU])
  rw [Nat.mul_one] at this
  exact ⟨b, o, e, this⟩
theorem rdI_cell {w : World} {v : Value} {xs : List Int} (h : Rd w 1 encI v xs) : ∃ a c, v = .slice a xs.length c ∧ xs.length ≤ c ∧ ∀ i, (hi : i < xs.length) → ∃ b o, a = some ⟨b, o, none⟩ ∧ w.cell? ⟨b, o + i, none⟩ = some (.int .i64 xs[i]) := by
  obtain ⟨a, c, h1, h2, h3, h4⟩ := h
  refine ⟨a, c, h1, h2, fun i hi => ?_⟩
  obtain ⟨b, o, e, k⟩ := h4 i hi
  have := k 0 (by simp [encI])
  rw [Nat.mul_one] at this
  exact ⟨b, o, e, this⟩
/-- the span ahead of a number, if there is room for one -/
def gap (o : Int) (next n : Nat) : List Span := if next < n then [⟨next, n - 1, o⟩] else []
/-- the spans of numbers from one on, those between, and the one behind them all -/
def pc (o : Int) : List Nat → List Int → Nat → List Span
  | n :: r, w :: q, next => gap o next n ++ ⟨n, n, w⟩ :: pc o r q (n + 1)
  | [], _, next => gap o next 4294967296
  | _ :: _, [], next => gap o next 4294967296
theorem pc_step {o : Int} {ns : List Nat} {ws : List Int} {k : Nat} (h : k < ns.length) (h' : k < ws.length) (next : Nat) : pc o (ns.drop k) (ws.drop k) next = gap o next ns[k] ++ ⟨ns[k], ns[k], ws[k]⟩ :: pc o (ns.drop (k + 1)) (ws.drop (k + 1)) (ns[k] + 1) := by
  rw [List.drop_eq_getElem_cons h, List.drop_eq_getElem_cons h']; rfl
theorem pc_end (o : Int) (ns : List Nat) (ws : List Int) (next : Nat) : pc o (ns.drop ns.length) ws next = gap o next 4294967296 := by
  rw [List.drop_length]; rfl
theorem pc_len (o : Int) : ∀ (ns : List Nat) (ws : List Int) (next : Nat), (pc o ns ws next).length ≤ 2 * ns.length + 1
  | n :: r, w :: q, next => by
    have := pc_len o r q (n + 1)
    unfold pc gap
    split <;> simp <;> omega
  | [], _, next => by unfold pc gap; split <;> simp
  | _ :: _, [], next => by unfold pc gap; split <;> simp
abbrev tupS (x : Span) : Array Value := #[.agg #[.int .u32 (x.lo : Int), .int .u32 (x.hi : Int), .int .i64 x.way]]
set_option maxRecDepth 100000 in
set_option maxHeartbeats 2000000 in
theorem pieces1_in (l b1 b2 b3 n₀ : Nat) (vn vw : Value) (ns : List Nat) (ws : List Int) (o : Int) (hl : ns.length ≤ 1000000) (hlw : ns.length = ws.length) (hns : ∀ n ∈ ns, n < 4294967296) (J Jx : List Span → World → Prop) (w W : World) (hE : Ext w W)
    (_hn₀ : n₀ ≤ w.heap.size) (xs : List Span) (hxs : xs = pc o ns ws 0)
    (hvn : Rd w 1 encU vn ns) (hvw : Rd w 1 encI vw ws) (hlown : ∀ b o c, vn = .slice (some ⟨b, o, none⟩) ns.length c → 0 < ns.length → b < n₀) (hloww : ∀ b o c, vw = .slice (some ⟨b, o, none⟩) ws.length c → 0 < ws.length → b < n₀)
    (h1 : b1 < n₀) (h2 : b2 < n₀) (h3 : b3 < n₀) (c1 : w.cell? ⟨b1, 0, none⟩ = some vn) (c2 : w.cell? ⟨b2, 0, none⟩ = some (.int .i64 o)) (c3 : w.cell? ⟨b3, 0, none⟩ = some vw)
    (hY : ∀ (pre : List Span) (x : Span) W, J pre W → pre.length < xs.length → YieldAt Fence.wide (3 - 1) Try.prog l (tupS x) W fun e W' =>
      (e = .returned (.bool true) ∧ J (pre ++ [x]) W' ∧ Below n₀ W W') ∨ (e = .returned (.bool false) ∧ Jx (pre ++ [x]) W'))
    (h0 : J [] W) :
    CallsIn Fence.wide 3 Try.prog 111 #[.func (.yield l) #[] #[], .pointer (some ⟨b1, 0, none⟩), .pointer (some ⟨b2, 0, none⟩), .pointer (some ⟨b3, 0, none⟩)] W fun e W' => (∃ v, e = .returned v) ∧
      ((∃ ys, ys = xs ∧ J ys W') ∨ (∃ pre, pre <+: xs ∧ Jx pre W')) := by
  obtain ⟨an, cn, rfl, hacn, hcan⟩ := rdU_cell hvn
  obtain ⟨aw, cw, rfl, hacw, hcaw⟩ := rdI_cell hvw
  clear hvn hvw
  replace c1 := hE.cell c1; replace c2 := hE.cell c2; replace c3 := hE.cell c3
  refine callsIn_of_wp Try.func111 rfl trivial ?_ rfl
  simp only [Try.ntmps111, List.size_toArray, List.length_cons, List.length_nil, Nat.reduceAdd, Nat.reduceSub, Array.replicate_succ, Array.replicate_zero, List.push_toArray, List.append_toArray, List.nil_append, List.cons_append]
  gi_wp2
  gi_loopw [5, 10] (fun nx i wr => ∃ (k : Nat) (next : Nat) (pre : List Span), k ≤ ns.length ∧ next ≤ 4294967296 ∧ i = .int .i64 k ∧ nx = .int .u64 next ∧ J pre wr ∧ Below n₀ W wr ∧ xs = pre ++ pc o (ns.drop k) (ws.drop k) next) (fun _ i _ => ns.length - (intOf i).toNat)
  case atStart => exact ⟨0, 0, [], Nat.zero_le _, by omega, rfl, rfl, h0, Below.refl _ _, by simpa using hxs⟩
  case round =>
    obtain ⟨k, next, pre, hk, hnext, rfl, rfl, hJ, hB, hsplit⟩ := hrel
    have d1 := (hB.cell (p := ⟨b1, 0, none⟩) h1).trans c1
    have d2 := (hB.cell (p := ⟨b2, 0, none⟩) h2).trans c2
    have d3 := (hB.cell (p := ⟨b3, 0, none⟩) h3).trans c3
    by_cases hlt : k < ns.length
    · obtain ⟨b, q, rfl, g1⟩ := hcan k hlt
      obtain ⟨b', q', rfl, g2⟩ := hcaw k (by omega)
      have hb := hlown b q cn rfl (by omega)
      have hb' := hloww b' q' cw rfl (by omega)
      replace g1 := (hB.cell (p := ⟨b, q + k, none⟩) hb).trans (hE.cell g1)
      replace g2 := (hB.cell (p := ⟨b', q' + k, none⟩) hb').trans (hE.cell g2)
      rw [pc_step hlt (by omega)] at hsplit
      have hnk := hns _ (List.getElem_mem hlt)
      clear hcan hcaw
      generalize ns[k] = n at *
      generalize ws[k]'(by omega) = wy at *
      have hkw : k < ws.length := by omega
      generalize ws.length = nws at *
      by_cases hn : next < n
      · have hd : decide (next < n) = true := decide_eq_true hn
        have hd' : decide ((next : Int) < (n : Int)) = true := decide_eq_true (by omega)
        obtain ⟨j, hjn⟩ : ∃ j, j = n - 1 := ⟨n - 1, by omega⟩
        have hj : ((n : Int) - 1) = (j : Int) := by omega
        have hjl : j < 4294967296 := by omega
        have hnl : next < 4294967296 := by omega
        have hg : gap o next n = [⟨next, j, o⟩] := by unfold gap; rw [if_pos hn, hjn]
        rw [hg] at hsplit
        obtain ⟨fn, tmps, assign, body, hy, hR⟩ := hY pre ⟨next, j, o⟩ wr hJ (by rw [hsplit]; simp)
        have Hhjn := Lib.hid hjn
        clear hjn
        gi_wp2
        refine hR.mono ?_
        rintro e W3 (⟨rfl, hJ3, hk3⟩ | ⟨rfl, hJx3⟩)
        · obtain ⟨fn', tmps', assign', body', hy', hR'⟩ := hY (pre ++ [⟨next, j, o⟩]) ⟨n, n, wy⟩ W3 hJ3 (by rw [hsplit]; simp)
          replace d2 := (hk3.cell (p := ⟨b2, 0, none⟩) h2).trans d2
          replace d3 := (hk3.cell (p := ⟨b3, 0, none⟩) h3).trans d3
          replace g2 := (hk3.cell (p := ⟨b', q' + k, none⟩) hb').trans g2
          gi_wp2
          refine hR'.mono ?_
          rintro e W4 (⟨rfl, hJ4, hk4⟩ | ⟨rfl, hJx4⟩)
          · gi_wp2
            go_roundw
            case rel => exact ⟨k + 1, n + 1, _, by omega, by omega, by go_num, by go_num, hJ4, (hB.trans hk3).trans hk4, by rw [hsplit]; simp⟩
            case measure => simp [intOf]; omega
          · gi_wp2
            refine bodyPost_ret (results_none rfl _ _ _) rfl ?_
            exact ⟨⟨_, rfl⟩, .inr ⟨_, by rw [hsplit]; exact ⟨pc o (ns.drop (k + 1)) (ws.drop (k + 1)) (n + 1), by simp⟩, hJx4⟩⟩
        · gi_wp2
          refine bodyPost_ret (results_none rfl _ _ _) rfl ?_
          exact ⟨⟨_, rfl⟩, .inr ⟨_, by rw [hsplit]; exact ⟨_, by rw [List.append_assoc]⟩, hJx3⟩⟩
      · have hd : decide (next < n) = false := decide_eq_false hn
        have hd' : decide ((next : Int) < (n : Int)) = false := decide_eq_false (by omega)
        have hg : gap o next n = [] := by unfold gap; rw [if_neg hn]
        rw [hg, List.nil_append] at hsplit
        obtain ⟨fn', tmps', assign', body', hy', hR'⟩ := hY pre ⟨n, n, wy⟩ wr hJ (by rw [hsplit]; simp)
        gi_wp2
        refine ⟨(fun _ h => by cases h), ?_⟩
        gi_wp2
        refine hR'.mono ?_
        rintro e W4 (⟨rfl, hJ4, hk4⟩ | ⟨rfl, hJx4⟩)
        · gi_wp2
          go_roundw
          case rel => exact ⟨k + 1, n + 1, _, by omega, by omega, by go_num, by go_num, hJ4, hB.trans hk4, by rw [hsplit]; simp⟩
          case measure => simp [intOf]; omega
        · gi_wp2
          refine bodyPost_ret (results_none rfl _ _ _) rfl ?_
          exact ⟨⟨_, rfl⟩, .inr ⟨_, by rw [hsplit]; exact ⟨pc o (ns.drop (k + 1)) (ws.drop (k + 1)) (n + 1), by simp⟩, hJx4⟩⟩
    · obtain rfl : k = ns.length := by omega
      rw [pc_end] at hsplit
      by_cases hn : next < 4294967296
      · have hg : gap o next 4294967296 = [⟨next, 4294967295, o⟩] := by unfold gap; rw [if_pos hn]
        rw [hg] at hsplit
        have hd : decide (next < 4294967296) = true := decide_eq_true hn
        have hd' : decide ((next : Int) < 4294967296) = true := decide_eq_true (by omega)
        obtain ⟨fn, tmps, assign, body, hy, hR⟩ := hY pre ⟨next, 4294967295, o⟩ wr hJ (by rw [hsplit]; simp)
        clear hcan hcaw
        have hlit : ((4294967295 : Nat) : Int) = 4294967295 := rfl
        simp only [tupS, hlit] at hy
        gi_wp2
        refine hR.mono ?_
        rintro e W3 (⟨rfl, hJ3, hk3⟩ | ⟨rfl, hJx3⟩)
        · gi_wp2
          go_end0
          exact ⟨⟨_, rfl⟩, .inl ⟨_, hsplit.symm, hJ3⟩⟩
        · gi_wp2
          go_end0
          exact ⟨⟨_, rfl⟩, .inr ⟨xs, List.prefix_refl _, by rw [hsplit]; exact hJx3⟩⟩
      · have hd : decide (next < 4294967296) = false := decide_eq_false hn
        have hd' : decide ((next : Int) < 4294967296) = false := decide_eq_false (by omega)
        have hg : gap o next 4294967296 = [] := by unfold gap; rw [if_neg hn]
        rw [hg, List.append_nil] at hsplit
        have Hhn := Lib.hid hn
        clear hn
        have Hhnext := Lib.hid hnext
        clear hnext
        clear hcan hcaw
        gi_wp2
        go_end0
        exact ⟨⟨_, rfl⟩, .inl ⟨_, rfl, by rw [hsplit]; exact hJ⟩⟩
set_option maxHeartbeats 2000000 in
theorem pieces_calls (a1 a2 : Option Addr) (n1 n2 k1 k2 : Nat) (o : Int) (w : World) :
    Calls Try.prog 100 #[.slice a1 n1 k1, .slice a2 n2 k2, .int .i64 o] w fun e w' => e = .returned (.func (.func 111) #[] #[.pointer (some ⟨w.heap.size, 0, none⟩), .pointer (some ⟨w.heap.size + 2, 0, none⟩), .pointer (some ⟨w.heap.size + 1, 0, none⟩)]) ∧
      Ext w w' ∧ w'.heap.size = w.heap.size + 3 ∧ w'.cell? ⟨w.heap.size, 0, none⟩ = some (.slice a1 n1 k1) ∧ w'.cell? ⟨w.heap.size + 2, 0, none⟩ = some (.int .i64 o) ∧ w'.cell? ⟨w.heap.size + 1, 0, none⟩ = some (.slice a2 n2 k2) := by
  go_enter Try.func100, Try.ntmps100
  go_wp2
  go_ret
  have h1 := Boxed.new w 67 (.slice a1 n1 k1)
  have h2 := Boxed.new (w.alloc (.cells #[.slice a1 n1 k1] 67)) 61 (.slice a2 n2 k2)
  rw [World.size_alloc] at h2
  have h3 := Boxed.new ((w.alloc (.cells #[.slice a1 n1 k1] 67)).alloc (.cells #[.slice a2 n2 k2] 61)) 3 (.int .i64 o)
  rw [World.size_alloc, World.size_alloc] at h3
  exact ⟨rfl, (((Ext.refl w).alloc _).alloc _).alloc _, by simp, ((h1.alloc _).alloc _).cell, h3.cell, (h2.alloc _).cell⟩
theorem rdU_low {w : World} {v : Value} {xs : List Nat} (h : Rd w 1 encU v xs) : ∀ b o c, v = .slice (some ⟨b, o, none⟩) xs.length c → 0 < xs.length → b < w.heap.size := by
  intro b o c e h0
  obtain ⟨a, c', rfl, -, h4⟩ := rdU_cell h
  obtain ⟨b', o', e', g1⟩ := h4 0 h0
  simp only [Value.slice.injEq] at e
  rw [e.1] at e'
  obtain ⟨rfl, rfl⟩ : b = b' ∧ o = o' := by simpa using e'
  exact World.block_lt_of_cell? _ _ g1
theorem rdI_low {w : World} {v : Value} {xs : List Int} (h : Rd w 1 encI v xs) : ∀ b o c, v = .slice (some ⟨b, o, none⟩) xs.length c → 0 < xs.length → b < w.heap.size := by
  intro b o c e h0
  obtain ⟨a, c', rfl, -, h4⟩ := rdI_cell h
  obtain ⟨b', o', e', g1⟩ := h4 0 h0
  simp only [Value.slice.injEq] at e
  rw [e.1] at e'
  obtain ⟨rfl, rfl⟩ : b = b' ∧ o = o' := by simpa using e'
  exact World.block_lt_of_cell? _ _ g1
theorem pieces_stops (b1 b2 b3 : Nat) (vn vw : Value) (ns : List Nat) (ws : List Int) (o : Int) (hl : ns.length ≤ 1000000) (hlw : ns.length = ws.length) (hns : ∀ n ∈ ns, n < 4294967296) (w : World)
    (hvn : Rd w 1 encU vn ns) (hvw : Rd w 1 encI vw ws) (c1 : w.cell? ⟨b1, 0, none⟩ = some vn) (c2 : w.cell? ⟨b2, 0, none⟩ = some (.int .i64 o)) (c3 : w.cell? ⟨b3, 0, none⟩ = some vw) :
    SeqStopsK Fence.wide 3 Try.prog 111 #[.pointer (some ⟨b1, 0, none⟩), .pointer (some ⟨b2, 0, none⟩), .pointer (some ⟨b3, 0, none⟩)] (fun x : Span => #[.agg #[.int .u32 (x.lo : Int), .int .u32 (x.hi : Int), .int .i64 x.way]]) (Below w.heap.size) (fun ys => ys = pc o ns ws 0) (fun pre => pre <+: pc o ns ws 0) (pc o ns ws 0).length w := fun l J Jx W hW _ _ hY h0 => by
  have hE : Ext w W := hW
  exact pieces1_in l b1 b2 b3 w.heap.size vn vw ns ws o hl hlw hns J Jx w W hE (Nat.le_refl _) _ rfl hvn hvw (rdU_low hvn) (rdI_low hvw) (World.block_lt_of_cell? _ _ c1) (World.block_lt_of_cell? _ _ c2) (World.block_lt_of_cell? _ _ c3) c1 c2 c3 hY h0
/-- do numbers rise, from one on? -/
def up : List Nat → Nat → Bool
  | [], _ => true
  | n :: r, next => decide (next ≤ n) && up r (n + 1)
theorem up_step {ns : List Nat} {k : Nat} (h : k < ns.length) (next : Nat) : up (ns.drop k) next = (decide (next ≤ ns[k]) && up (ns.drop (k + 1)) (ns[k] + 1)) := by
  rw [List.drop_eq_getElem_cons h]; rfl
/-- what comes behind the numbers ahead of a place -/
def nextOf (ns : List Nat) (k : Nat) : Nat := if 0 < k then (ns[k - 1]?.getD 0) + 1 else 0
/-- what Of answers -/
def ofA (ns : List Nat) (ws : List Int) (o : Int) : List Span × Int := if ns.length = ws.length ∧ up ns 0 = true then (merge (pc o ns ws 0), 0) else ([], 2)
theorem nextOf_succ {ns : List Nat} {k : Nat} (h : k < ns.length) : nextOf ns (k + 1) = ns[k] + 1 := by unfold nextOf; simp [h]
set_option maxRecDepth 100000 in
set_option maxHeartbeats 2000000 in
theorem Of_calls (vn vw : Value) (ns : List Nat) (ws : List Int) (o : Int) (hl : ns.length ≤ 300000) (hns : ∀ n ∈ ns, n < 4294967296) (w : World) (hvn : Rd w 1 encU vn ns) (hvw : Rd w 1 encI vw ws) :
    Calls Try.prog 73 #[vn, vw, .int .i64 o] w fun e w' => ∃ u, e = .returned (.tuple #[u, .int .i64 (ofA ns ws o).2]) ∧ Ext w w' ∧ Own w' w.heap.size u (ofA ns ws o).1 := by
  have hvnR := hvn
  have hvwR := hvw
  obtain ⟨an, cn, rfl, hacn, hcan⟩ := rdU_cell hvn
  obtain ⟨aw, cw, rfl, hacw, hcaw⟩ := rdI_cell hvw
  clear hvn hvw hcaw
  have HhvnR := Lib.hid hvnR
  clear hvnR
  have HhvwR := Lib.hid hvwR
  clear hvwR
  by_cases hlw : ns.length = ws.length
  · have hd : ((ns.length : Int) != (ws.length : Int)) = false := by rw [hlw]; simp
    have hd' : (ns.length != ws.length) = false := by rw [hlw]; simp
    have Hhlw := Lib.hid hlw
    clear hlw
    go_enter Try.func73, Try.ntmps73
    go_wp2
    go_loopw [16] (fun i wr => ∃ k : Nat, k ≤ ns.length ∧ i = .int .i64 k ∧ Ext w wr ∧ up ns 0 = up (ns.drop k) (nextOf ns k)) (fun i _ => ns.length - (intOf i).toNat)
    case atStart => exact ⟨0, by omega, rfl, Ext.refl _, rfl⟩
    case round =>
      obtain ⟨k, hk, rfl, hx, hup⟩ := hrel
      have HX := Lib.hid hx
      by_cases hlt : k < ns.length
      · obtain ⟨b, q, rfl, g1⟩ := hcan k hlt
        rw [up_step hlt] at hup
        replace g1 := hx.cell g1
        by_cases h0 : 0 < k
        · obtain ⟨j, hj⟩ : ∃ j, j = k - 1 := ⟨_, rfl⟩
          obtain ⟨b', q', e', g2⟩ := hcan j (by omega)
          obtain ⟨rfl, rfl⟩ : b = b' ∧ q = q' := by simpa using e'
          replace g2 := hx.cell g2
          have hjk : ((k : Int) - 1) = (j : Int) := by omega
          have hd0 : decide (0 < k) = true := decide_eq_true h0
          have hd0' : decide ((0 : Int) < (k : Int)) = true := decide_eq_true (by omega)
          have hn : nextOf ns k = ns[j]'(by omega) + 1 := by
            have := nextOf_succ (ns := ns) (k := j) (by omega)
            rwa [show j + 1 = k by omega] at this
          have hnx := nextOf_succ hlt
          rw [hn] at hup
          have hnk := hns _ (List.getElem_mem hlt)
          have hjl : j < ns.length := by omega
          clear hcan hn
          generalize ns[j]'(by omega) = m at *
          generalize ns[k] = n at *
          have Hhnx := Lib.hid hnx
          clear hnx
          have Hh0 := Lib.hid h0
          clear h0
          have Hhj := Lib.hid hj
          clear hj
          by_cases hmn : m + 1 ≤ n
          · have hd1 : decide (n ≤ m) = false := decide_eq_false (by omega)
            have hd1' : decide ((n : Int) ≤ (m : Int)) = false := decide_eq_false (by omega)
            rw [decide_eq_true hmn, Bool.true_and] at hup
            have Hhup := Lib.hid hup
            clear hup
            go_wp2_with (go_quiet (fail))
            go_roundw
            case rel => exact ⟨k + 1, by omega, by go_num, (by repeat (first | exact HX.out | apply Ext.drewN | apply Ext.alloc | apply Ext.drew)), by rw [Hhnx.out]; exact Hhup.out⟩
            case measure => simp [intOf]; omega
          · have hd1 : decide (n ≤ m) = true := decide_eq_true (by omega)
            have hd1' : decide ((n : Int) ≤ (m : Int)) = true := decide_eq_true (by omega)
            rw [decide_eq_false hmn, Bool.false_and] at hup
            have hA : ofA ns ws o = ([], 2) := by unfold ofA; rw [if_neg (fun h => by rw [hup] at h; exact absurd h.2 (by decide))]
            have Hhup := Lib.hid hup
            clear hup
            have HhA := Lib.hid hA
            clear hA
            go_wp2_with (go_quiet (fail))
            go_ret2
            exact ⟨_, (by rw [HhA.out]; rfl), (by repeat (first | exact HX.out | apply Ext.drewN | apply Ext.alloc | apply Ext.drew)), by rw [HhA.out]; exact World.ownsRow_nil _ _ _ _⟩
        · have hnx := nextOf_succ hlt
          have hup1 : up ns 0 = up (ns.drop (k + 1)) (nextOf ns (k + 1)) := by rw [hnx, hup]; simp [nextOf, h0]
          have hd0 : decide (0 < k) = false := decide_eq_false h0
          have hd0' : decide ((0 : Int) < (k : Int)) = false := decide_eq_false (by omega)
          have Hhup1 := Lib.hid hup1
          clear hup1
          have Hh0 := Lib.hid h0
          clear h0
          clear hcan hup hnx
          go_wp2_with (go_quiet (fail))
          go_roundw
          case rel => exact ⟨k + 1, by omega, by go_num, (by repeat (first | exact HX.out | apply Ext.drewN | apply Ext.alloc | apply Ext.drew)), Hhup1.out⟩
          case measure => simp [intOf]; omega
      · obtain rfl : k = ns.length := by omega
        have hA : ofA ns ws o = (merge (pc o ns ws 0), 0) := by unfold ofA; rw [if_pos ⟨Hhlw.out, by rw [hup, List.drop_length]; rfl⟩]
        have Hhup := Lib.hid hup
        clear hup
        have HhA := Lib.hid hA
        clear hA
        have hlen := pc_len o ns ws 0
        clear hcan
        go_wp2_with (first
          | (go_at_call 100; refine (pieces_calls _ _ _ _ _ _ _ _).mono ?_; rintro e w1 ⟨rfl, hx1, hs1, k1, k2, k3⟩)
          | (go_at_call 99; refine (merged_calls 111 _ w1.heap.size (pc o ns ws 0).length (pc o ns ws 0) (Nat.le_refl _) (by omega) _ (Nat.le_refl _) (enters_of Try.func111 (by kernel_rfl) rfl) (pieces_stops _ _ _ _ _ ns ws o (by omega) Hhlw.out hns _ (HhvnR.out.ext (HX.out.trans hx1)) (HhvwR.out.ext (HX.out.trans hx1)) k1 k2 k3)).mono ?_; rintro e w2 ⟨u, rfl, hx2, hown⟩))
        go_ret2
        exact ⟨u, (by rw [HhA.out]; rfl), (HX.out.trans hx1).trans hx2, by rw [HhA.out]; exact own_base hown (by have := HX.out.size; omega)⟩
  · have hd : ((ns.length : Int) != (ws.length : Int)) = true := by simp; omega
    have hd' : (ns.length != ws.length) = true := by simp; omega
    have hA : ofA ns ws o = ([], 2) := by unfold ofA; rw [if_neg (fun h => hlw h.1)]
    rw [hA]
    have Hhlw := Lib.hid hlw
    clear hlw
    have HhA := Lib.hid hA
    clear hA
    clear hcan
    go_enter Try.func73, Try.ntmps73
    go_wp2
    go_ret2
    exact ⟨_, rfl, Ext.refl _, World.ownsRow_nil _ _ _ _⟩
theorem Own.ext {w w' : World} {base : Nat} {v : Value} {xs : List Span} (h : Own w base v xs) (hx : Ext w w') : Own w' base v xs := by
  obtain ⟨h1, h2⟩ := h
  refine ⟨h1, ?_⟩
  rcases h2 with h2 | ⟨g, cap, cur, hv, hg, hh, r⟩
  · exact .inl h2
  · exact .inr ⟨g, cap, cur, hv, hg, (hx.block (Array.getElem?_eq_some_iff.1 hh).1).trans hh, r⟩
end L23
end Go.Proofs.Ytkmhfjnjfghnjaa

/- Cut out of XSpanP by wip/tools/cutout.py: what all of XSpanP lean on. -/
namespace Go.Proofs.Ytkmhfjnjfghnjaa
open Go.RowKit V
namespace L23
theorem chain_app : ∀ (xs ys : List Span) (n : Nat), chain (xs ++ ys) n = (chain xs n).bind (chain ys)
  | [], ys, n => rfl
  | s :: r, ys, n => by
    simp only [List.cons_append, chain]
    split
    · exact chain_app r ys _
    · rfl
theorem chain_cons {s : Span} {r : List Span} {n m : Nat} (h : chain (s :: r) n = some m) : s.lo = n ∧ s.lo ≤ s.hi ∧ chain r (s.hi + 1) = some m := by
  unfold chain at h
  split at h
  · rename_i hc; exact ⟨hc.1, hc.2, h⟩
  · cases h
theorem chain_mk {s : Span} {r : List Span} {n m : Nat} (h1 : s.lo = n) (h2 : s.lo ≤ s.hi) (h : chain r (s.hi + 1) = some m) : chain (s :: r) n = some m := by
  unfold chain
  rw [if_pos ⟨h1, h2⟩, h]
theorem chain_split {xs ys : List Span} {n m : Nat} (h : chain (xs ++ ys) n = some m) : ∃ b, chain xs n = some b ∧ chain ys b = some m := by
  rw [chain_app] at h
  cases hx : chain xs n with
  | none => rw [hx] at h; cases h
  | some b => rw [hx] at h; exact ⟨b, rfl, h⟩
theorem chain_join {xs ys : List Span} {n b : Nat} (h : chain xs n = some b) : chain (xs ++ ys) n = chain ys b := by rw [chain_app, h]; rfl
theorem way_app : ∀ (xs ys : List Span) (n : Nat), way (xs ++ ys) n = if (way xs n).2 = true then way xs n else way ys n
  | [], ys, n => rfl
  | s :: r, ys, n => by
    simp only [List.cons_append, way]
    split
    · rfl
    · exact way_app r ys n
theorem put_snoc (i : List Span) (l s : Span) : put (i ++ [l]) s = if l.way = s.way then i ++ [⟨l.lo, s.hi, l.way⟩] else i ++ [l, s] := by
  unfold put
  rw [List.getLast?_append, List.getLast?_singleton]
  simp only [Option.some_or]
  split
  · rw [List.length_append, List.length_singleton, Nat.add_sub_cancel, List.set_append_right _ _ (Nat.le_refl _), Nat.sub_self]; rfl
  · simp
theorem nil_or_snoc (out : List Span) : out = [] ∨ ∃ i l, out = i ++ [l] := by
  rcases List.eq_nil_or_concat out with h | ⟨i, l, h⟩
  · exact .inl h
  · exact .inr ⟨i, l, by simpa using h⟩
theorem chain_put {out ys : List Span} {y : Span} {a m : Nat} (h : chain (out ++ y :: ys) a = some m) : chain (put out y ++ ys) a = some m := by
  rcases nil_or_snoc out with rfl | ⟨i, l, rfl⟩
  · exact h
  · rw [put_snoc]
    split
    · rw [List.append_assoc] at h ⊢
      obtain ⟨b, h1, h2⟩ := chain_split h
      obtain ⟨e1, e2, h3⟩ := chain_cons h2
      obtain ⟨e3, e4, h4⟩ := chain_cons h3
      rw [chain_join h1]
      exact chain_mk e1 (by dsimp only; omega) h4
    · simpa using h
theorem way_put {out ys : List Span} {y : Span} {a m : Nat} (h : chain (out ++ y :: ys) a = some m) (n : Nat) : way (put out y ++ ys) n = way (out ++ y :: ys) n := by
  rcases nil_or_snoc out with rfl | ⟨i, l, rfl⟩
  · rfl
  · rw [put_snoc]
    split
    · rename_i hw
      rw [List.append_assoc] at h ⊢
      obtain ⟨b, h1, h2⟩ := chain_split h
      obtain ⟨e1, e2, h3⟩ := chain_cons h2
      obtain ⟨e3, e4, h4⟩ := chain_cons h3
      rw [List.append_assoc, way_app i, way_app i]
      split
      · rfl
      · simp only [List.cons_append, List.nil_append, way]
        by_cases c1 : l.lo ≤ n ∧ n ≤ l.hi
        · rw [if_pos ⟨c1.1, by omega⟩, if_pos c1]
        · by_cases c2 : y.lo ≤ n ∧ n ≤ y.hi
          · rw [if_pos ⟨by omega, c2.2⟩, if_neg c1, if_pos c2, hw]
          · rw [if_neg (by omega), if_neg c1, if_neg c2]
    · simp
theorem chain_merge {ys : List Span} : ∀ {out : List Span} {a m : Nat}, chain (out ++ ys) a = some m → chain (ys.foldl put out) a = some m := by
  induction ys with
  | nil => intro out a m h; simpa using h
  | cons y ys ih => intro out a m h; exact ih (chain_put h)
theorem way_merge' {ys : List Span} : ∀ {out : List Span} {a m : Nat}, chain (out ++ ys) a = some m → ∀ n, way (ys.foldl put out) n = way (out ++ ys) n := by
  induction ys with
  | nil => intro out a m _ n; simp
  | cons y ys ih => intro out a m h n; rw [← way_put h n]; exact ih (chain_put h) n
theorem whole_iff (xs : List Span) : whole xs = true ↔ chain xs 0 = some 4294967296 := by unfold whole; simp
theorem whole_merge {xs : List Span} (h : whole xs = true) : whole (merge xs) = true := (whole_iff _).2 (chain_merge (out := []) ((whole_iff _).1 h))
theorem way_merge {xs : List Span} (h : whole xs = true) (n : Nat) : way (merge xs) n = way xs n := way_merge' (out := []) ((whole_iff _).1 h) n
theorem way_found : ∀ {xs : List Span} {a m n : Nat}, chain xs a = some m → a ≤ n → n < m → (way xs n).2 = true
  | [], a, m, n, h, h1, h2 => by simp [chain] at h; omega
  | s :: r, a, m, n, h, h1, h2 => by
    obtain ⟨e1, e2, h3⟩ := chain_cons h
    simp only [way]
    split
    · rfl
    · exact way_found h3 (by omega) h2
/-- the ways of spans -/
def wys (xs : List Span) : List Int := xs.map (·.way)
/-- no neighbours are the same -/
def nd : List Int → Prop
  | a :: b :: r => a ≠ b ∧ nd (b :: r)
  | _ => True
theorem nd_snoc : ∀ (i : List Int) (l s : Int), nd (i ++ [l]) → l ≠ s → nd (i ++ [l, s])
  | [], _, _, _, h => ⟨h, trivial⟩
  | [_], l, s, h, h' => ⟨h.1, nd_snoc [] l s h.2 h'⟩
  | _ :: b :: r, l, s, h, h' => ⟨h.1, nd_snoc (b :: r) l s h.2 h'⟩
theorem nd_put {out : List Span} {y : Span} (h : nd (wys out)) : nd (wys (put out y)) := by
  rcases nil_or_snoc out with rfl | ⟨i, l, rfl⟩
  · trivial
  · rw [put_snoc]
    simp only [wys, List.map_append, List.map_cons, List.map_nil] at h
    split
    · simp only [wys, List.map_append, List.map_cons, List.map_nil]; exact h
    · rename_i hne
      simp only [wys, List.map_append, List.map_cons, List.map_nil]
      exact nd_snoc _ _ _ h hne
theorem nd_fold {ys : List Span} : ∀ {out : List Span}, nd (wys out) → nd (wys (ys.foldl put out)) := by
  induction ys with
  | nil => intro out h; exact h
  | cons y ys ih => intro out h; exact ih (nd_put h)
theorem nd_merge (xs : List Span) : nd (wys (merge xs)) := nd_fold (out := []) trivial
theorem nd_get : ∀ (ws : List Int) (i : Nat), nd ws → i + 1 < ws.length → ws[i]? ≠ ws[i + 1]?
  | a :: b :: r, 0, h, _ => by simpa using h.1
  | a :: b :: r, i + 1, h, hl => by
    have := nd_get (b :: r) i h.2 (by simpa using hl)
    simpa using this
theorem wys_get (xs : List Span) (i : Nat) (h : i < xs.length) : (wys xs)[i]? = some (wy xs i) := by
  unfold wys
  rw [List.getElem?_map, List.getElem?_eq_getElem h, wy_get h]; rfl
theorem nd_dup {xs : List Span} (h : nd (wys xs)) : dup xs xs.length = false := by
  cases hd : dup xs xs.length with
  | false => rfl
  | true =>
    unfold dup at hd
    rw [List.any_eq_true] at hd
    obtain ⟨i, hi, e⟩ := hd
    rw [List.mem_range] at hi
    unfold dupAt at e
    simp at e
    have h2 := nd_get (wys xs) (i - 1) h (by simp [wys]; omega)
    rw [show i - 1 + 1 = i by omega, wys_get xs i hi, wys_get xs (i - 1) (by omega), e.2] at h2
    exact absurd rfl h2
theorem dup_nd : ∀ {xs : List Span}, dup xs xs.length = false → nd (wys xs) := by
  intro xs h
  have key : ∀ (ws : List Int), (∀ i, i + 1 < ws.length → ws[i]? ≠ ws[i + 1]?) → nd ws := by
    intro ws
    induction ws with
    | nil => intro _; trivial
    | cons a r ih =>
      intro h
      cases r with
      | nil => trivial
      | cons b r => exact ⟨by simpa using h 0 (by simp), ih (fun i hi => by have h9 := h (i + 1) (by simpa using hi); simpa using h9)⟩
  refine key _ (fun i hi e => ?_)
  have hi' : i + 1 < xs.length := by simpa [wys] using hi
  rw [wys_get xs i (by omega), wys_get xs (i + 1) hi'] at e
  have : dup xs xs.length = true := by
    unfold dup
    rw [List.any_eq_true]
    exact ⟨i + 1, List.mem_range.2 hi', by unfold dupAt; simp; exact (Option.some.inj e).symm⟩
  rw [h] at this; cases this
theorem merged_merge {xs : List Span} (h : whole xs = true) : mergedB (merge xs) = true := by
  unfold mergedB; rw [whole_merge h, nd_dup (nd_merge xs)]; rfl
theorem nd_tail {a : Int} : ∀ {r : List Int}, nd (a :: r) → nd r
  | [], _ => trivial
  | _ :: _, h => h.2
theorem nd_app : ∀ {i r : List Int}, nd (i ++ r) → nd r
  | [], _, h => h
  | _ :: i, _, h => nd_app (i := i) (nd_tail h)
theorem fold_id {ys : List Span} : ∀ {out : List Span}, nd (wys (out ++ ys)) → ys.foldl put out = out ++ ys := by
  induction ys with
  | nil => intro out _; simp
  | cons y ys ih =>
    intro out h
    have hp : put out y = out ++ [y] := by
      rcases nil_or_snoc out with rfl | ⟨i, l, rfl⟩
      · rfl
      · rw [put_snoc, if_neg ?_]
        · simp
        · simp only [wys, List.append_assoc, List.map_append, List.map_cons, List.map_nil] at h
          exact (nd_app h).1
    rw [List.foldl_cons, hp, ih (by simpa using h)]
    simp
theorem merge_id {xs : List Span} (h : nd (wys xs)) : merge xs = xs := fold_id (out := []) h
theorem merge_merge (xs : List Span) : merge (merge xs) = merge xs := merge_id (nd_merge xs)
/-- the way of a number among numbers -/
def look : List Nat → List Int → Int → Nat → Int
  | n :: r, w :: q, o, m => if n = m then w else look r q o m
  | _, _, o, _ => o
theorem look_lt : ∀ {ns : List Nat} {ws : List Int} {o : Int} {next m : Nat}, up ns next = true → m < next → look ns ws o m = o
  | [], _, _, _, _, _, _ => by unfold look; rfl
  | _ :: _, [], _, _, _, _, _ => by unfold look; rfl
  | n :: r, w :: q, o, next, m, h, hm => by
    simp only [up, Bool.and_eq_true, decide_eq_true_eq] at h
    unfold look
    rw [if_neg (by omega)]
    exact look_lt h.2 (by omega)
theorem look_at : ∀ {ns : List Nat} {ws : List Int} {o : Int} {next k : Nat} (h : k < ns.length) (h' : k < ws.length), up ns next = true → look ns ws o ns[k] = ws[k]
  | n :: r, w :: q, o, next, 0, _, _, _ => by simp [look]
  | n :: r, w :: q, o, next, k + 1, h, h', hu => by
    simp only [up, Bool.and_eq_true, decide_eq_true_eq] at hu
    have hk : k < r.length := by simpa using h
    have hge : ∀ {l : List Nat} {nx i : Nat} (hi : i < l.length), up l nx = true → nx ≤ l[i] := by
      intro l
      induction l with
      | nil => intro nx i hi; simp at hi
      | cons a l ih =>
        intro nx i hi hu
        simp only [up, Bool.and_eq_true, decide_eq_true_eq] at hu
        cases i with
        | zero => exact hu.1
        | succ i => have := ih (i := i) (by simpa using hi) hu.2; simp; omega
    have h1 := hge hk hu.2
    simp only [List.getElem_cons_succ]
    unfold look
    rw [if_neg (by omega)]
    exact look_at hk (by simpa using h') hu.2
theorem look_none : ∀ {ns : List Nat} {ws : List Int} {o : Int} {m : Nat}, (∀ k (h : k < ns.length), ns[k] ≠ m) → look ns ws o m = o
  | [], _, _, _, _ => by unfold look; rfl
  | _ :: _, [], _, _, _ => by unfold look; rfl
  | n :: r, w :: q, o, m, h => by
    unfold look
    rw [if_neg (by have := h 0 (by simp); simpa using this)]
    exact look_none (fun k hk => by have := h (k + 1) (by simpa using hk); simpa using this)
/-- the last way among the first numbers -/
def lst (ns : List Nat) (ws : List Int) (o : Int) (n : Nat) : Nat → Int
  | 0 => o
  | k + 1 => if ns[k]? = some n then (ws[k]?).getD 0 else lst ns ws o n k
theorem lst_or (ns : List Nat) (ws : List Int) (o : Int) (n : Nat) : ∀ k, (lst ns ws o n k = o ∧ ∀ j, j < k → ns[j]? ≠ some n) ∨ ∃ j, j < k ∧ ns[j]? = some n ∧ lst ns ws o n k = (ws[j]?).getD 0
  | 0 => .inl ⟨rfl, by omega⟩
  | k + 1 => by
    unfold lst
    by_cases h : ns[k]? = some n
    · rw [if_pos h]; exact .inr ⟨k, by omega, h, rfl⟩
    · rw [if_neg h]
      rcases lst_or ns ws o n k with ⟨h1, h2⟩ | ⟨j, h1, h2, h3⟩
      · refine .inl ⟨h1, fun j hj => ?_⟩
        by_cases e : j = k
        · subst e; exact h
        · exact h2 j (by omega)
      · exact .inr ⟨j, by omega, h2, h3⟩
theorem lst_look {ns : List Nat} {ws : List Int} {o : Int} {n : Nat} (hl : ns.length = ws.length) (hu : up ns 0 = true) : lst ns ws o n ns.length = look ns ws o n := by
  rcases lst_or ns ws o n ns.length with ⟨h1, h2⟩ | ⟨j, h1, h2, h3⟩
  · rw [h1, look_none (fun k hk e => h2 k hk (by rw [List.getElem?_eq_getElem hk, e]))]
  · rw [h3]
    rw [List.getElem?_eq_getElem h1] at h2
    have e : ns[j] = n := Option.some.inj h2
    subst e
    rw [look_at h1 (by omega) hu, List.getElem?_eq_getElem (by omega)]; rfl
theorem gap_chain {o : Int} {next n : Nat} (h : next ≤ n) : chain (gap o next n) next = some n := by
  unfold gap
  split
  · exact chain_mk rfl (by dsimp only; omega) (by simp only [chain]; congr 1; omega)
  · simp only [chain]; congr 1; omega
theorem gap_way {o : Int} {next n m : Nat} (h : next ≤ m) : way (gap o next n) m = if m < n then (o, true) else (0, false) := by
  unfold gap
  split
  · simp only [way]
    by_cases hm : m < n
    · rw [if_pos ⟨h, by omega⟩, if_pos hm]
    · rw [if_neg (by omega), if_neg hm]
  · rw [if_neg (by omega)]; rfl
theorem pc_chain (o : Int) : ∀ (ns : List Nat) (ws : List Int) (next : Nat), ns.length = ws.length → up ns next = true → (∀ n ∈ ns, n < 4294967296) → next ≤ 4294967296 → chain (pc o ns ws next) next = some 4294967296
  | n :: r, w :: q, next, hl, hu, hn, hx => by
    simp only [up, Bool.and_eq_true, decide_eq_true_eq] at hu
    have hn0 := hn n (by simp)
    unfold pc
    rw [chain_join (gap_chain hu.1)]
    exact chain_mk rfl (Nat.le_refl _) (pc_chain o r q (n + 1) (by simpa using hl) hu.2 (fun x hx => hn x (by simp [hx])) (by omega))
  | [], ws, next, _, _, _, hx => by unfold pc; exact gap_chain hx
  | _ :: _, [], _, hl, _, _, _ => by simp at hl
theorem pc_way (o : Int) : ∀ (ns : List Nat) (ws : List Int) (next m : Nat), ns.length = ws.length → up ns next = true → next ≤ m → m < 4294967296 → way (pc o ns ws next) m = (look ns ws o m, true)
  | n :: r, w :: q, next, m, hl, hu, hm, hx => by
    simp only [up, Bool.and_eq_true, decide_eq_true_eq] at hu
    unfold pc
    rw [way_app, gap_way hm]
    by_cases hmn : m < n
    · rw [if_pos hmn, if_pos rfl]
      unfold look
      rw [if_neg (by omega), look_lt hu.2 (by omega)]
    · rw [if_neg hmn, if_neg (by simp)]
      unfold way look
      by_cases e : n = m
      · rw [if_pos ⟨by dsimp only; omega, by dsimp only; omega⟩, if_pos e]
      · rw [if_neg (by dsimp only; omega), if_neg e]
        exact pc_way o r q (n + 1) m (by simpa using hl) hu.2 (by omega) hx
  | [], ws, next, m, _, _, hm, hx => by
    unfold pc look
    rw [gap_way hm, if_pos hx]
  | _ :: _, [], _, _, hl, _, _, _ => by simp at hl
theorem pc_whole {o : Int} {ns : List Nat} {ws : List Int} (hl : ns.length = ws.length) (hu : up ns 0 = true) (hn : ∀ n ∈ ns, n < 4294967296) : whole (pc o ns ws 0) = true :=
  (whole_iff _).2 (pc_chain o ns ws 0 hl hu hn (by omega))
/-- spans cut in two somewhere -/
def cutAt (xs : List Span) (i at_ : Nat) (s : Span) : List Span := xs.take i ++ [⟨s.lo, at_ - 1, s.way⟩, ⟨at_, s.hi, s.way⟩] ++ xs.drop (i + 1)
theorem split_at {xs : List Span} {i : Nat} (h : i < xs.length) : xs = xs.take i ++ xs[i] :: xs.drop (i + 1) := by
  rw [← List.drop_eq_getElem_cons h, List.take_append_drop]
theorem chain_cut {s : Span} {at_ : Nat} (r : List Span) (n : Nat) (h1 : s.lo < at_) (h2 : at_ ≤ s.hi) : chain (⟨s.lo, at_ - 1, s.way⟩ :: ⟨at_, s.hi, s.way⟩ :: r) n = chain (s :: r) n := by
  simp only [chain]
  by_cases c : s.lo = n ∧ s.lo ≤ s.hi
  · rw [if_pos c, if_pos ⟨c.1, by omega⟩, if_pos ⟨by omega, h2⟩]
  · rw [if_neg c, if_neg (by omega)]
theorem whole_cut {xs : List Span} {i at_ : Nat} (h : i < xs.length) (h1 : xs[i].lo < at_) (h2 : at_ ≤ xs[i].hi) : whole (cutAt xs i at_ xs[i]) = whole xs := by
  have e : chain (cutAt xs i at_ xs[i]) 0 = chain xs 0 := by
    conv => rhs; rw [split_at h]
    unfold cutAt
    rw [List.append_assoc, chain_app, chain_app]
    congr 1
    funext b
    exact chain_cut _ _ h1 h2
  unfold whole; rw [e]
theorem put_put (out : List Span) (s : Span) (m m' : Nat) : put (put out ⟨s.lo, m, s.way⟩) ⟨m', s.hi, s.way⟩ = put out s := by
  rcases nil_or_snoc out with rfl | ⟨i, l, rfl⟩
  · show put ([] ++ [_]) _ = _
    rw [put_snoc, if_pos rfl]; rfl
  · rw [put_snoc, put_snoc]
    dsimp only
    split
    · rename_i h
      rw [put_snoc, if_pos h]
    · rw [show i ++ [l, (⟨s.lo, m, s.way⟩ : Span)] = (i ++ [l]) ++ [⟨s.lo, m, s.way⟩] by simp, put_snoc, if_pos rfl]
      simp
theorem merge_cut {xs : List Span} {i at_ : Nat} (h : i < xs.length) : merge (cutAt xs i at_ xs[i]) = merge xs := by
  conv => rhs; rw [split_at h]
  unfold merge cutAt
  simp only [List.foldl_append, List.foldl_cons, List.foldl_nil, put_put]
theorem merged_cut {xs : List Span} {i at_ : Nat} (h : i < xs.length) : mergedB (cutAt xs i at_ xs[i]) = false := by
  have hd : dup (cutAt xs i at_ xs[i]) (cutAt xs i at_ xs[i]).length = true := by
    have hlen : (cutAt xs i at_ xs[i]).length = xs.length + 1 := by unfold cutAt; simp; omega
    unfold dup
    rw [List.any_eq_true]
    refine ⟨i + 1, List.mem_range.2 (by omega), ?_⟩
    unfold dupAt
    have hti : (xs.take i).length = i := by rw [List.length_take]; omega
    have e1 : (cutAt xs i at_ xs[i])[i]? = some ⟨xs[i].lo, at_ - 1, xs[i].way⟩ := by
      unfold cutAt
      rw [List.append_assoc, List.getElem?_append_right (by omega), hti, Nat.sub_self]; rfl
    have e2 : (cutAt xs i at_ xs[i])[i + 1]? = some ⟨at_, xs[i].hi, xs[i].way⟩ := by
      unfold cutAt
      rw [List.append_assoc, List.getElem?_append_right (by omega), hti, Nat.add_sub_cancel_left]; rfl
    simp [wy, e1, e2]
  unfold mergedB; rw [hd]; simp
end L23
end Go.Proofs.Ytkmhfjnjfghnjaa

