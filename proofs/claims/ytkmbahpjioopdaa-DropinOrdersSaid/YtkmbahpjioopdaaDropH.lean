/- Layer 14: slices.AppendSeq, slices.Collect at files. -/
import Derived.Test.YtkmbahpjioopdaaDropG
namespace Go.Proofs.Ytkmbahpjioopdaa
open Go.RowKit Go.Maps Go.Sort Go.Shelf V
attribute [local go_sem] Oper.semAt_some Option.isSome_some
namespace L12
theorem encR_len (r : FR) : (encR r).length = 3 := rfl
theorem encR_one (r : FR) : ∀ u ∈ encR r, u.oneCell' = true := by
  intro u hu; simp [encR] at hu; rcases hu with rfl | rfl | rfl <;> rfl
theorem ko_walks {W W' : World} (h : KeepsOthers W W') : KeepsWalks W W' := ⟨h.size, fun k o hk ho => h.same k o hk (by cases o <;> simp_all [Obj.isWalk, Obj.isCells])⟩
theorem ownRow_kept {W W' : World} {base e n k : Nat} {u : Value} {z : List Value} {row : Option Nat} (h : W.ownsRow base e n u k z) (hg : W.grownBy W' row) (hr : ∀ r, row = some r → ∃ o : Obj, W.heap[r]? = some o ∧ o.isCells = false) : W'.ownsRow base e n u k z := by
  refine World.ownsRow.kept h hg ?_
  rcases h.2 with ⟨rfl, _⟩ | ⟨g, cap, cur, rfl, _, hgb, _⟩
  · exact .inl rfl
  · refine .inr fun e' => ?_
    obtain ⟨o, ho, hc⟩ := hr g (by simpa [Value.ownBlock] using e'.symm)
    rw [hgb] at ho
    cases ho
    cases hc
set_option maxRecDepth 100000 in
set_option maxHeartbeats 2000000 in
theorem AppendSeq_calls (gf : Nat) (lb : Array Value) (S : List FR → Prop) (Sp : List FR → Prop) (N : Nat) (hN : N ≤ 1000000) (w : World) (hgf : ∀ args w, (callFunc gf args).run Try.prog w = .ok (.enter gf args) w)
    (hseq : SeqStopsK Fence.wide 3 Try.prog gf lb (fun x : FR => #[rV x]) KeepsWalks S Sp N w) :
    Calls Try.prog 39 #[.slice none 0 0, .func (.func gf) #[] lb] w fun e w' => ∃ u xs, e = .returned u ∧ S xs ∧ Ext w w' ∧ w'.ownsRow w.heap.size 24 3 u xs.length (xs.flatMap encR) := by
  refine (callsIn_wide (n := 4)).1 ?_
  refine callsIn_of_wp_marks Try.func39 rfl trivial ?_ rfl
  simp only [Try.ntmps39, List.size_toArray, List.length_cons, List.length_nil, Nat.reduceAdd, Nat.reduceSub, Array.replicate_succ, Array.replicate_zero, List.push_toArray, List.append_toArray, List.nil_append, List.cons_append]
  gi_wp2
  have h1 : 1 ≤ 4 := by omega
  have bO := Boxed.new w 25 (.slice none 0 0)
  have hE0 : Ext w (w.alloc (.cells #[.slice none 0 0] 25)) := (Ext.refl w).alloc _
  have hsz0 : (w.alloc (.cells #[.slice none 0 0] 25)).heap.size = w.heap.size + 1 := by simp
  obtain ⟨W0, hW0⟩ : ∃ W0, (w.alloc (.cells #[.slice none 0 0] 25)) = W0 := ⟨_, rfl⟩
  rw [hW0] at bO hE0 hsz0 ⊢
  clear hW0
  refine wpIn_rangeFunc_ownH (w0 := w) rfl h1 (gf := gf) (lb := lb) rfl trivial hgf hseq walksK_t walksK_b hE0 (fun _ => rfl)
    (fun pre W => (∃ u, Boxed W w.heap.size 25 u ∧ W.ownsRow w.heap.size 24 3 u pre.length (pre.flatMap encR)) ∧ Below w.heap.size w W)
    (fun _ _ _ => False)
    (OwnFrom.and (Own.from (fun s A B row hs hg hr => ?hI1) _) (ownFrom_below (Nat.le_refl _) (by omega)))
    (fun _ _ _ _ _ hs _ _ => hs)
    ⟨⟨_, bO, World.ownsRow_nil _ _ _ _⟩, hE0⟩
    (fun x a' W => ∃ Bx, w.heap.size < Bx ∧ W.heap[Bx]? = some (.cells #[.string (str x.nm), .int .i64 x.dir, .slice x.a x.n x.c] 24 (0, 0)) ∧
      a' = { tmps := #[.slice none 0 0, .func (.func gf) #[] lb, .pointer (some ⟨w.heap.size, 0, none⟩), undef, .slice none 0 0, .pointer (some ⟨Bx, 0, none⟩), .func (.func gf) #[] lb, .agg #[.string (str x.nm), .int .i64 x.dir, .slice x.a x.n x.c], undef, undef, undef, undef, undef], defers := [] })
    (fun x a' _ X Y row hs hg hr => ?hI2)
    ?assign ?body ?done ?stop
  case hI1 =>
    obtain ⟨u, hb, ho⟩ := hs
    exact ⟨u, boxed_own _ _ (fun (_ : Unit) => u) () A B row hb hg hr, ownRow_kept ho hg hr⟩
  case hI2 =>
    obtain ⟨Bx, k1, k2, k3⟩ := hs
    refine ⟨Bx, k1, (hg.block Bx (Array.getElem?_eq_some_iff.1 k2).1 (fun e => ?_)).trans k2, k3⟩
    obtain ⟨o, ho, hc⟩ := (hr Bx e.symm).2
    rw [k2] at ho
    cases ho
    cases hc
  case assign =>
    rintro l pre x W K ⟨⟨u, bu, ou⟩, hB⟩ hK
    unfold rV
    gi_wp2
    exact hK _ _ ((KeepsOthers.alloc _ _).from _) (KeepsWalks.alloc _ _) ⟨⟨u, bu.alloc _, ou.alloc _⟩, hB.alloc hB.size _⟩ ⟨W.heap.size, bu.lt, heap_alloc_new W _, rfl⟩
  case body =>
    rintro l pre x a' W hl ⟨r, hr⟩ ⟨⟨u, bu, ou⟩, hB⟩ ⟨Bx, hBx, bX, rfl⟩ hlt
    have cu := bu.cell
    have fu := bu.frozen
    have x0 := blk_cell bX 0
    have x1 := blk_cell bX 1
    have x2 := blk_cell bX 2
    simp at x0 x1 x2
    obtain ⟨i0, hi, hz0, hz1, hz2⟩ := info_parts infoF
    have HBU := Lib.hid bu
    have HOU := Lib.hid ou
    have HBB := Lib.hid hB
    have hwz := hB.size
    clear bu ou hB bX hr
    gi_wp2_with (first
      | (gi_at_builtin
         refine wpListIn_append_own _ rfl _ _ 25 rfl w.heap.size 24 i0 (.agg #[.string ⟨#[]⟩, .int .i64 0, .slice none 0 0]) 3 48 Try.underlying25 hi hz0 hz1 hz2 rfl (by decide) _ pre.length (pre.flatMap encR) rfl (HOU.out.alloc _) ⟨W.heap.size, 0, none⟩ 1 1 (encR x) rfl rfl (cells_new' _ _ _ _ (by simp)) (encR_one _) (by unfold maxLen; omega) (by omega) (by simp; omega) ?_
         intro u' w1 hown' hg' _
         obtain ⟨g', cap', rfl⟩ := ownsRow_succ hown'
         obtain ⟨k1, k2, k3, k4, k5⟩ := HBU.out.appended (by decide) HOU.out (by omega) (Nat.le_refl _) hown' hg'
         have c1 := k1.cell
         have f1 := k1.frozen
         have K2 := Lib.hid k2
         have K3 := Lib.hid k3
         have K4 := Lib.hid k4
         have K5 := Lib.hid k5
         clear k1 k2 k3 k4 k5 hown' hg'
         go_frame)
      | gi_in)
    refine ⟨K4.out.from _, ko_walks K4.out, ⟨_, K2.out, ?_⟩, HBB.out.trans K5.out⟩
    rw [List.length_append, List.length_singleton, List.flatMap_append, List.flatMap_singleton]
    exact K3.out
  case done =>
    rintro D ys W hD hys ⟨⟨u, bu, ou⟩, hB⟩ hK
    have cu := bu.cell
    gi_wp2
    refine ⟨by simp, .inl ⟨_, _, rfl, run_takeDeferred hK, ?_⟩⟩
    exact ⟨_, results_tmp rfl _ _ _, u, ys, rfl, hys, hB.trans (belowK_b (w := w) (Nat.le_refl _) W D _ _ (by omega) hK rfl rfl), ownRow_kept ou (grownBy_putObj' _ D (.deferred none)) (fun r e => by cases e; exact ⟨_, hK, rfl⟩)⟩
  case stop =>
    rintro D c pre W _ _ h _
    exact h.elim
set_option maxHeartbeats 1000000 in
theorem Collect_calls (gf : Nat) (lb : Array Value) (S : List FR → Prop) (Sp : List FR → Prop) (N : Nat) (hN : N ≤ 1000000) (w : World) (hgf : ∀ args w, (callFunc gf args).run Try.prog w = .ok (.enter gf args) w)
    (hseq : SeqStopsK Fence.wide 3 Try.prog gf lb (fun x : FR => #[rV x]) KeepsWalks S Sp N w) :
    Calls Try.prog 24 #[.func (.func gf) #[] lb] w fun e w' => ∃ u xs, e = .returned u ∧ S xs ∧ Ext w w' ∧ w'.ownsRow w.heap.size 24 3 u xs.length (xs.flatMap encR) := by
  have hA := AppendSeq_calls gf lb S Sp N hN w hgf hseq
  have HhA := Lib.hid hA
  clear hA
  clear hseq hgf
  go_enter Try.func24, Try.ntmps24
  go_wp2_with fail
  refine HhA.out.mono ?_
  rintro e w1 ⟨u, xs, rfl, h1, h2, h3⟩
  have H1 := Lib.hid h1
  have H2 := Lib.hid h2
  have H3 := Lib.hid h3
  clear h1 h2 h3
  go_wp2_with fail
  go_ret
  exact ⟨u, xs, rfl, H1.out, H2.out, H3.out⟩
end L12
end Go.Proofs.Ytkmbahpjioopdaa
