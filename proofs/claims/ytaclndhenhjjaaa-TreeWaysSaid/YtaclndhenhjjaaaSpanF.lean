/- Layer 23: the walk of merged: over whatever iterator hands spans on, the spans put behind one another. -/
import Derived.Laws.EntriesVeiled
import Derived.Test.YtaclndhenhjjaaaSpanE
namespace Go.Proofs.Ytaclndhenhjjaaa
open Go.RowKit Go.Shelf V
attribute [local go_sem] Oper.semAt_some
namespace L23
theorem own_kept {W W' : World} {base : Nat} {u : Value} {xs : List Span} {row : Option Nat} (h : Own W base u xs) (hg : W.grownBy W' row) (hr : ∀ r, row = some r → ∃ o : Obj, W.heap[r]? = some o ∧ o.isCells = false) : Own W' base u xs := by
  refine World.ownsRow.kept h hg ?_
  cases hu : u.ownBlock with
  | none => exact .inl rfl
  | some k =>
    refine .inr fun e => ?_
    obtain ⟨o, ho, hc⟩ := hr k e.symm
    rw [own_isCells h k o hu ho] at hc
    cases hc
theorem own_base {W : World} {base base' : Nat} {u : Value} {xs : List Span} (h : Own W base u xs) (hb : base' ≤ base) : Own W base' u xs := by
  obtain ⟨h1, h2⟩ := h
  refine ⟨h1, ?_⟩
  rcases h2 with h2 | ⟨g, cap, cur, hv, hg, r⟩
  · exact .inl h2
  · exact .inr ⟨g, cap, cur, hv, by omega, r⟩
def aggS (s : Span) : Value := .agg #[.int .u32 (s.lo : Int), .int .u32 (s.hi : Int), .int .i64 s.way]
set_option maxRecDepth 100000 in
set_option maxHeartbeats 2000000 in
theorem merged_calls (gf : Nat) (lb : Array Value) (n₀ N : Nat) (xs : List Span) (hN : xs.length ≤ N) (hN2 : N ≤ 1000000) (w : World) (hn₀ : n₀ ≤ w.heap.size) (hgf : ∀ args w, (callFunc gf args).run Try.prog w = .ok (.enter gf args) w)
    (hseq : SeqStopsK Fence.wide 3 Try.prog gf lb (fun x : Span => #[.agg #[.int .u32 (x.lo : Int), .int .u32 (x.hi : Int), .int .i64 x.way]]) (Below n₀) (fun ys => ys = xs) (fun pre => pre <+: xs) N w) :
    Calls Try.prog 35 #[.func (.func gf) #[] lb] w fun e w' => ∃ u, e = .returned u ∧ Ext w w' ∧ Own w' w.heap.size u (merge xs) := by
  refine (callsIn_wide (n := 4)).1 ?_
  refine callsIn_of_wp_marks Try.func35 rfl trivial ?_ rfl
  simp only [Try.ntmps35, List.size_toArray, List.length_cons, List.length_nil, Nat.reduceAdd, Nat.reduceSub, Array.replicate_succ, Array.replicate_zero, List.push_toArray, List.append_toArray, List.nil_append, List.cons_append]
  gi_wp2
  have h1 : 1 ≤ 4 := by omega
  have bO := Boxed.new w 24 (.slice none 0 0)
  have bF := Boxed.new (w.alloc (.cells #[.slice none 0 0] 24)) 67 (.func (.func 40) #[] #[.pointer (some ⟨w.heap.size, 0, none⟩)])
  rw [World.size_alloc] at bF
  have hE0 : Ext w ((w.alloc (.cells #[.slice none 0 0] 24)).alloc (.cells #[.func (.func 40) #[] #[.pointer (some ⟨w.heap.size, 0, none⟩)]] 67)) := ((Ext.refl w).alloc _).alloc _
  have hsz0 : ((w.alloc (.cells #[.slice none 0 0] 24)).alloc (.cells #[.func (.func 40) #[] #[.pointer (some ⟨w.heap.size, 0, none⟩)]] 67)).heap.size = w.heap.size + 2 := by simp
  replace bO := bO.alloc (.cells #[.func (.func 40) #[] #[.pointer (some ⟨w.heap.size, 0, none⟩)]] 67)
  obtain ⟨W0, hW0⟩ : ∃ W0, ((w.alloc (.cells #[.slice none 0 0] 24)).alloc (.cells #[.func (.func 40) #[] #[.pointer (some ⟨w.heap.size, 0, none⟩)]] 67)) = W0 := ⟨_, rfl⟩
  rw [hW0] at bO bF hE0 hsz0 ⊢
  clear hW0
  refine wpIn_rangeFunc_ownH (w0 := w) rfl h1 (gf := gf) (lb := lb) rfl trivial hgf hseq belowK_t (belowK_b (by omega)) hE0 (fun _ => rfl)
    (fun pre W => ((∃ u, Boxed W w.heap.size 24 u ∧ Own W (w.heap.size + 2) u (merge pre)) ∧ Boxed W (w.heap.size + 1) 67 (.func (.func 40) #[] #[.pointer (some ⟨w.heap.size, 0, none⟩)])) ∧ Below w.heap.size w W)
    (fun _ _ _ => False)
    (OwnFrom.and (OwnFrom.and (Own.from (fun s A B row hs hg hr => ?hI1) _) (Own.from (boxed_own _ _ _) _)) (ownFrom_below (Nat.le_refl _) (by omega)))
    (fun _ _ _ _ _ hs _ _ => hs)
    ⟨⟨⟨_, bO, World.ownsRow_nil _ _ _ _⟩, bF⟩, hE0⟩
    (fun x a' W => ∃ Bx, w.heap.size + 1 < Bx ∧ W.heap[Bx]? = some (.cells #[.int .u32 (x.lo : Int), .int .u32 (x.hi : Int), .int .i64 x.way] 33 (0, 0)) ∧
      a' = { tmps := #[.func (.func gf) #[] lb, undef, .slice none 0 0, .pointer (some ⟨w.heap.size, 0, none⟩), .pointer (some ⟨w.heap.size + 1, 0, none⟩), .pointer (some ⟨Bx, 0, none⟩), .func (.func 40) #[] #[.pointer (some ⟨w.heap.size, 0, none⟩)], .func (.func gf) #[] lb, .agg #[.int .u32 (x.lo : Int), .int .u32 (x.hi : Int), .int .i64 x.way], undef, undef, undef, undef], defers := [] })
    (fun x a' _ X Y row hs hg hr => ?hI2)
    ?assign ?body ?done ?stop
  case hI1 =>
    obtain ⟨u, hb, ho⟩ := hs
    exact ⟨u, boxed_own _ _ (fun (_ : Unit) => u) () A B row hb hg hr, own_kept ho hg hr⟩
  case hI2 =>
    obtain ⟨Bx, k1, k2, k3⟩ := hs
    refine ⟨Bx, k1, (hg.block Bx (Array.getElem?_eq_some_iff.1 k2).1 (fun e => ?_)).trans k2, k3⟩
    obtain ⟨o, ho, hc⟩ := (hr Bx e.symm).2
    rw [k2] at ho
    cases ho
    cases hc
  case assign =>
    rintro l pre x W K ⟨⟨⟨u, bu, ou⟩, bf⟩, hB⟩ hK
    gi_wp2
    exact hK _ _ ((KeepsOthers.alloc _ _).from _) ((Below.refl _ W).alloc (Nat.le_trans hn₀ hB.size) _) ⟨⟨⟨u, bu.alloc _, ou.alloc _⟩, bf.alloc _⟩, hB.alloc hB.size _⟩ ⟨W.heap.size, bf.lt, heap_alloc_new W _, rfl⟩
  case body =>
    rintro l pre x a' W hl ⟨r, hr⟩ ⟨⟨⟨u, bu, ou⟩, bf⟩, hB⟩ ⟨Bx, hBx, bX, rfl⟩ hlt
    have cF := bf.cell
    have n1 : 1 ≤ 4 - 1 - 1 := by omega
    have hml := merge_len pre
    have x0 : W.cell? ⟨Bx, 0, none⟩ = some (.int .u32 (x.lo : Int)) := by simp [World.cell?, bX]
    have x1 : W.cell? ⟨Bx, 1, none⟩ = some (.int .u32 (x.hi : Int)) := by simp [World.cell?, bX]
    have x2 : W.cell? ⟨Bx, 2, none⟩ = some (.int .i64 x.way) := by simp [World.cell?, bX]
    have hput := put_calls w.heap.size (w.heap.size + 2) u (merge pre) x (by omega) W (by omega) (by have := bf.lt; omega) bu ou
    have Hhput := Lib.hid hput
    clear hput
    have hmp : merge (pre ++ [x]) = put (merge pre) x := by unfold merge; rw [List.foldl_append]; rfl
    have Hhmp := Lib.hid hmp
    clear hmp
    gi_wp2_with (refine ⟨trivial, ?_⟩; gi_at_call 40; refine (CallsIn.inRound l (callsIn_wide.2 Hhput.out)).mono ?_; rintro e w' ⟨rfl, u', bu', ou', hkp, hko⟩)
    exact ⟨hko.from _, hkp.below (fun k hk => ⟨by omega, by omega⟩), ⟨⟨⟨u', bu', by rw [Hhmp.out]; exact ou'⟩, (hkp.block _ ⟨by omega, by omega⟩).trans bf⟩, hB.trans (hkp.below (fun k hk => ⟨by omega, by omega⟩))⟩⟩
  case done =>
    rintro D ys W hD rfl ⟨⟨⟨u, bu, ou⟩, bf⟩, hB⟩ hK
    have cu := bu.cell
    gi_wp2
    refine ⟨by simp, .inl ⟨_, _, rfl, run_takeDeferred hK, ?_⟩⟩
    refine ⟨_, results_tmp rfl _ _ _, u, rfl, hB.trans (belowK_b (w := w) (Nat.le_refl _) W D _ _ (by omega) hK rfl rfl), own_base (own_kept ou (grownBy_putObj' _ D (.deferred none)) (fun r e => by cases e; exact ⟨_, hK, rfl⟩)) (by omega)⟩
  case stop =>
    rintro D c pre W _ _ h _
    exact h.elim
end L23
end Go.Proofs.Ytaclndhenhjjaaa
