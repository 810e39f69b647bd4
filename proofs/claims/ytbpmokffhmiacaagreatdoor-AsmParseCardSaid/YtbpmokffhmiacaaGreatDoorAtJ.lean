/- Layer 7: the walk of Parse. -/
import Derived.Test.YtbpmokffhmiacaaGreatDoorAtI
import Derived.Test.YtbpmokffhmiacaaGreatDoorMarks
namespace Go.Proofs.YtbpmokffhmiacaaGreatDoor
open Go.RowKit Go.Shelf Go.Sort V
attribute [local go_sem] Oper.semAt_some
namespace L07
theorem infoP : (Tryz.prog.info? 34).map (fun i => (i.zero, i.size, i.bytes)) = some (some (.agg #[.int .u16 0, .int .u8 0, .int .u8 0, .int .u32 0]), 4, 8) := by kernel_rfl
/-- Parse's state: its results' cells, the box of its row, the row -/
structure PQ (w : World) (q : List In) (u : Value) (W : World) : Prop where
  ext : Ext w W
  r2 : Boxed W w.heap.size 22 (.slice none 0 0)
  r3 : Boxed W (w.heap.size + 1) 26 (.int .i64 0)
  box : Boxed W (w.heap.size + 2) 22 u
  own : W.ownsRow (w.heap.size + 4) 34 4 u q.length (q.flatMap encN)
theorem PQ.grow {w W W' : World} {q : List In} {u : Value} {row : Option Nat} (h : PQ w q u W) (hg : W.grownBy W' row) (hr : ∀ r, row = some r → r = w.heap.size + 3 ∨ (w.heap.size + 4 ≤ r ∧ ∃ o : Obj, W.heap[r]? = some o ∧ o.isCells = false)) : PQ w q u W' := by
  have hn : ∀ k, k < w.heap.size + 3 → some k ≠ row := fun k hk e => by rcases hr k e.symm with h | ⟨h, -⟩ <;> omega
  refine ⟨h.ext.grown hg (fun r e => by rcases hr r e with h | ⟨h, -⟩ <;> omega), h.r2.kept hg (hn _ (by omega)), h.r3.kept hg (hn _ (by omega)), h.box.kept hg (hn _ (by omega)), World.ownsRow.kept h.own hg ?_⟩
  cases hu : u.ownBlock with
  | none => exact .inl rfl
  | some k =>
    refine .inr fun e => ?_
    have hk := (h.own.lt k hu).1
    rcases hr k e.symm with h2 | ⟨-, o, ho, hc⟩
    · omega
    · rcases h.own.2 with ⟨rfl, _⟩ | ⟨g, cap, cur, rfl, hg2, hh, -⟩
      · cases hu
      · cases hu
        rw [hh] at ho; cases ho; cases hc
theorem PQ.ext' {w W W' : World} {q : List In} {u : Value} (h : PQ w q u W) (hx : Ext W W') : PQ w q u W' :=
  ⟨h.ext.trans hx, (hx.block h.r2.lt).trans h.r2, (hx.block h.r3.lt).trans h.r3, (hx.block h.box.lt).trans h.box, ownsRow_keep h.own (Keep.of_below hx (fun _ hk => hk)) (fun b e => (h.own.lt b e).2)⟩
/-- an instruction put behind the others, the box set -/
theorem PQ.appended {w W W5 : World} {q : List In} {i : In} {u u5 : Value} {k : Nat} (h : PQ w q u W) (hg : W.grownBy W5 u.ownBlock) (hk : k = q.length + 1)
    (ho : W5.ownsRow (w.heap.size + 4) 34 4 u5 k ((q ++ [i]).flatMap encN)) : PQ w (q ++ [i]) u5 (W5.setCell ⟨w.heap.size + 2, 0, none⟩ u5) := by
  subst hk
  have hn : ∀ k, k < w.heap.size + 4 → some k ≠ u.ownBlock := fun k hk e => by have := (h.own.lt k e.symm).1; omega
  refine ⟨(h.ext.grown hg (fun k e => by have := (h.own.lt k e).1; omega)).setCell (by show w.heap.size ≤ w.heap.size + 2; omega) _, (h.r2.kept hg (hn _ (by omega))).other (by omega) _, (h.r3.kept hg (hn _ (by omega))).other (by omega) _, (h.box.kept hg (hn _ (by omega))).set _, ?_⟩
  rw [List.length_append]
  exact ownsRow_keep (S := fun k => k ≠ w.heap.size + 2) ho (Keep.setCell W5 (fun e => e rfl) _) (fun b e e2 => by have := (ho.lt b e).1; omega)
theorem PQ.round {w W' X w9 : World} {q : List In} {u : Value} (hsz : w.heap.size + 4 ≤ W'.heap.size) (hx : Ext W' X) (hT : PQ w q u X) (hg : X.grownBy w9 u.ownBlock) (v : Value) :
    KeepsOthers W' (w9.setCell ⟨w.heap.size + 2, 0, none⟩ v) ∧ Keep (fun j => j = w.heap.size + 3) W' (w9.setCell ⟨w.heap.size + 2, 0, none⟩ v) := by
  constructor
  · refine ((keepsOthers_ext hx).trans (KeepsOthers.of_grownBy hg (fun j o e ho => ?_))).trans (KeepsOthers.setCell _ _ _)
    rcases hT.own.2 with ⟨rfl, _⟩ | ⟨g, cap, cur, rfl, hg2, hh, -⟩
    · cases e
    · cases e; rw [hh] at ho; cases ho; rfl
  · have h1 : Keep (fun j => j = w.heap.size + 3) W' X := Keep.of_below hx (fun k hk => by omega)
    have h2 : Keep (fun j => j = w.heap.size + 3) X w9 := ⟨hg.os, hg.tape, hg.output, hg.size, fun k hk => hg.block k (by have := hx.size; omega) (fun e => by have := (hT.own.lt k e.symm).1; omega)⟩
    exact (h1.trans h2).trans (Keep.setCell w9 (by show ¬ (w.heap.size + 2 = w.heap.size + 3); omega) v)
/-- refused: its results' cells -/
structure RX (w W : World) : Prop where
  ext : Ext w W
  r2 : Boxed W w.heap.size 22 (.slice none 0 0)
  r3 : Boxed W (w.heap.size + 1) 26 (.int .i64 70)
theorem RX.grow {w W W' : World} {row : Option Nat} (h : RX w W) (hg : W.grownBy W' row) (hr : ∀ r, row = some r → w.heap.size + 3 ≤ r) : RX w W' := by
  have hn : ∀ k, k < w.heap.size + 3 → some k ≠ row := fun k hk e => by have := hr k e.symm; omega
  exact ⟨h.ext.grown hg (fun r e => by have := hr r e; omega), h.r2.kept hg (hn _ (by omega)), h.r3.kept hg (hn _ (by omega))⟩
theorem PQ.refuse {w W : World} {q : List In} {u : Value} (h : PQ w q u W) : RX w ((W.setCell ⟨w.heap.size, 0, none⟩ (.slice none 0 0)).setCell ⟨w.heap.size + 1, 0, none⟩ (.int .i64 70)) :=
  ⟨(h.ext.setCell (by show w.heap.size ≤ w.heap.size; omega) _).setCell (by show w.heap.size ≤ w.heap.size + 1; omega) _, (h.r2.set _).other (by omega) _, (h.r3.other (by omega) _).set _⟩
theorem trim_len (x y : List UInt8) : (Lib.trimSuffix x y).length ≤ x.length := by
  unfold Lib.trimSuffix
  split
  · rw [List.length_take]; omega
  · exact Nat.le_refl _
theorem wpListIn_app_g {α : Type} {F : Fence} {n : Nat} {P : Program} {W : World} {ops : Array Oper} {rest : List Oper} {o : Oper} {a : Act} {Q : Exit → Act → World → Prop} (hgd : o.guard = none) (s x : Operand) (t : TypeId)
    (ho : o.op = .call { callee := .builtin .append, args := #[s, x], argTypes := #[t, t] }) {e : TypeId} {m bytes : Nat} {z : Value} (hu : P.underlying t = some (.slice e)) (hinfo : (P.info? e).map (fun i => (i.zero, i.size, i.bytes)) = some (some z, m, bytes)) (hzs : z.cells.size = m) (hn : 0 < m)
    {enc : α → List Value} (henc : ∀ x, (enc x).length = m) (hone : ∀ x, ∀ u ∈ enc x, u.oneCell' = true) (base : Nat) (u v : Value) (xs ys : List α) (hs : a.eval s = u) (hx : a.eval x = v) (hown : W.ownsRow base e m u xs.length (xs.flatMap enc)) (hrd : Rd W m enc v ys)
    (h63 : xs.length + ys.length ≤ 100000000) (hbytes : bytes ≤ 1000000) (hbase : base ≤ W.heap.size)
    (h : ∀ au cu w', w'.ownsRow base e m (.slice au (xs.length + ys.length) cu) (xs.length + ys.length) ((xs ++ ys).flatMap enc) → W.grownBy w' u.ownBlock → wpListIn F n P ops Q rest (a.put o.dst (.slice au (xs.length + ys.length) cu)) w') : wpListIn F n P ops Q (o :: rest) a W := by
  refine wpListIn_plain hgd fun K hK => ?_
  have h1 := stepIn_app_g (F := F) (n := n) (ops := ops) (K := K) (Q := Q) (E := True) hgd s x t ho hu hinfo hzs hn henc hone base u v xs ys hs hx hown hrd h63 hbytes hbase (fun au cu w' h2 h3 => hK _ _ (h au cu w' h2 h3))
  rw [if_pos (by simp [Region.wanted, hgd])] at h1
  exact h1
set_option maxRecDepth 100000 in
set_option maxHeartbeats 8000000 in
theorem Parse_calls (s : List UInt8) (hs : s.length ≤ 100000) (w : World) (ht : Tb w) :
    Calls Tryz.prog 6 #[.string (str s)] w fun e w' => Ext w w' ∧ ((∃ p v, parseA s = some p ∧ e = .returned (.tuple #[v, .int .i64 0]) ∧ Rd w' 4 encN v p ∧ ∀ i ∈ p, OkN i) ∨ (parseA s = none ∧ e = .returned (.tuple #[.slice none 0 0, .int .i64 70]))) := by
  have d1 : decide (262144 < (str s).size) = false := decide_eq_false (by rw [str_size]; omega)
  have d2 : decide ((262144 : Int) < ((str s).size : Int)) = false := decide_eq_false (by rw [str_size]; omega)
  refine (callsIn_wide (n := 4)).1 ?_
  refine callsIn_of_wp_marks Tryz.func6 rfl trivial ?_ rfl
  simp only [Tryz.ntmps6, List.size_toArray, List.length_cons, List.length_nil, Nat.reduceAdd, Nat.reduceSub, Array.replicate_succ, Array.replicate_zero, List.push_toArray, List.append_toArray, List.nil_append, List.cons_append]
  gi_wp2_with (refine ⟨trivial, ?_⟩; gi_at_call 12; refine (callsIn_wide.2 (Lines_calls (str s) _)).mono ?_; rintro e w1 ⟨rfl, rfl⟩)
  have hW7 : ∃ W7, (((w.alloc (.cells #[.slice none 0 0] 22)).alloc (.cells #[.int .i64 0] 26)).alloc (.cells #[.slice none 0 0] 22)).alloc (.cells #[.string (str s)] 9) = W7 ∧ W7.heap.size = w.heap.size + 4 ∧
      PQ w [] (.slice none 0 0) W7 ∧ W7.heap[w.heap.size + 3]? = some (.cells #[.string (str s)] 9 (0, 0)) := by
    have g1 := Boxed.new w 22 (.slice none 0 0)
    have g2 := Boxed.new (w.alloc (.cells #[.slice none 0 0] 22)) 26 (.int .i64 0)
    have g3 := Boxed.new ((w.alloc (.cells #[.slice none 0 0] 22)).alloc (.cells #[.int .i64 0] 26)) 22 (.slice none 0 0)
    have g4 := heap_alloc_new (((w.alloc (.cells #[.slice none 0 0] 22)).alloc (.cells #[.int .i64 0] 26)).alloc (.cells #[.slice none 0 0] 22)) (.cells #[.string (str s)] 9)
    simp only [World.size_alloc] at g2 g3 g4
    exact ⟨_, rfl, by simp, ⟨(((Ext.refl w).alloc _).alloc _).alloc _ |>.alloc _, ((g1.alloc _).alloc _).alloc _, (g2.alloc _).alloc _, g3.alloc _, ⟨rfl, .inl ⟨rfl, rfl⟩⟩⟩, g4⟩
  obtain ⟨W7, hW7, hs7, hq7, hc7⟩ := hW7
  rw [hW7]
  clear hW7
  have n4 : 1 ≤ 4 := by omega
  have HT := Lib.hid ht
  clear ht
  refine wpIn_rangeFunc_ownB rfl n4 (gf := 20) (lb := #[.pointer (some ⟨w.heap.size + 3, 0, none⟩)]) rfl trivial (enters_of Tryz.func20 (by kernel_rfl) rfl)
    (Bs := w.heap.size + 3) (by omega) (Lines_stops (w.heap.size + 3) (fun j => j = w.heap.size + 3) s (by omega) rfl W7 hc7) keepK_t (keepK_b (by omega)) (Below.refl _ _) (fun _ => rfl)
    (fun pre W' => ∃ q u, goA (pre.map Subtype.val) [] = some q ∧ (∀ i ∈ q, OkN i) ∧ PQ w q u W')
    (fun cd pre W' => cd = .ret ∧ goA (pre.map Subtype.val) [] = none ∧ RX w W')
    (fun s A B row hs hg hr => by
      obtain ⟨q, u, h1, h2, h3⟩ := hs
      exact ⟨q, u, h1, h2, h3.grow hg (fun r e => (hr r e).imp_right (fun ⟨a, b⟩ => ⟨by omega, b⟩))⟩)
    (fun cd s A B row hs hg hr => ⟨hs.1, hs.2.1, hs.2.2.grow hg (fun r e => by rcases hr r e with h | ⟨h, -⟩ <;> omega)⟩)
    ⟨[], _, rfl, (fun _ h => by cases h), hq7⟩
    (fun x a' _ => a' = { tmps := #[.string (str s), undef, .pointer (some ⟨w.heap.size, 0, none⟩), .pointer (some ⟨w.heap.size + 1, 0, none⟩), .pointer (some ⟨w.heap.size + 2, 0, none⟩), .string (str x.1), undef, undef, undef, undef,
      .string (str s), .int .i64 ((str s).size : Int), .bool false, .string (str s), .func (.func 20) #[] #[.pointer (some ⟨w.heap.size + 3, 0, none⟩)], .string (str x.1),
      undef, undef, undef, undef, undef, undef, undef, undef, undef, undef, undef, undef, undef, undef, undef, undef, undef, undef, undef, undef, undef, undef, undef, undef, undef, undef, undef, undef, undef, undef], defers := [] })
    (fun _ _ _ _ _ _ h _ _ => h) ?assign ?body ?done ?stop
  case assign =>
    intro l pre x W' K hI hK
    gi_wp2
    first | exact hK _ _ (KeepsFrom.refl _ _) (Keep.refl _ _) hI rfl | (simp; exact hK _ _ (KeepsFrom.refl _ _) (Keep.refl _ _) hI rfl)
  case body =>
    rintro l pre x a' W' hlW ⟨lr, hlr⟩ ⟨q, u, hgo, hok, hq⟩ rfl hlen
    have hsz : w.heap.size + 4 ≤ W'.heap.size := by have := (Array.getElem?_eq_some_iff.1 hlr).1; omega
    clear hlr
    have hql : q.length ≤ 100000 := by
      have h1 := goA_len _ _ _ hgo
      have h2 := pieces_len s
      rw [List.length_map] at h1
      simp only [List.length_nil] at h1
      omega
    obtain ⟨y, hy⟩ : ∃ y, y = Lib.trimSuffix x.1 [10] := ⟨_, rfl⟩
    have hyl : y.length ≤ 100000 := by rw [hy]; exact Nat.le_trans (trim_len _ _) x.2
    have hst : stepA q x.1 = if Lib.hasSuffix y [58] = true then some q else (readA y q.length).map fun i => q ++ [i] := by rw [hy]; rfl
    have hgs : goA ((pre ++ [x]).map Subtype.val) [] = stepA q x.1 := by
      rw [List.map_append, List.map_cons, List.map_nil, goA_snoc, hgo]; rfl
    rw [hst] at hgs
    have hTr := fun W => Tryz.strings_TrimSuffix (str x.1) ⟨#[10]⟩ W (by rw [str_size]; have := x.2; omega)
    have hbt : (str x.1).data.toList = x.1 := bytes_str _
    rw [hbt] at hTr
    change ∀ W, Calls Tryz.prog 13 #[.string (str x.1), .string ⟨#[10]⟩] W fun e w' => e = .returned (.string (str (Lib.trimSuffix x.1 [10]))) ∧ w' = W at hTr
    rw [← hy] at hTr
    have hHs := fun W => Tryz.strings_HasSuffix (str y) ⟨#[58]⟩ W (by rw [str_size]; omega)
    have hby : (str y).data.toList = y := bytes_str _
    rw [hby] at hHs
    change ∀ W, Calls Tryz.prog 14 #[.string (str y), .string ⟨#[58]⟩] W fun e w' => e = .returned (.bool (Lib.hasSuffix y [58])) ∧ w' = W at hHs
    have hRd := fun W h => read_calls y hyl q.length (by omega) W h
    clear hst hbt hby hy hs d1 d2
    generalize (pre ++ [x]) = pre' at *
    generalize str x.1 = sx at *
    have HTr := Lib.hid hTr
    have HHs := Lib.hid hHs
    have HGS := Lib.hid hgs
    have HOK := Lib.hid hok
    have HQ := Lib.hid hq
    clear hTr hHs hgs hok hgo
    cases hsf : Lib.hasSuffix y [58]
    · have hHs := HHs.out
      rw [hsf] at hHs
      have hgs := HGS.out
      rw [hsf, if_neg (by simp)] at hgs
      obtain ⟨u0, c0, rfl, -, -⟩ := rdI_cell (rd_of_own encN_len hq.own)
      cases hrd : readA y q.length with
      | none =>
        rw [hrd] at hRd hgs
        have c3 := hq.box.cell
        have HHs := Lib.hid hHs
        have HG2 := Lib.hid hgs
        have HRD := Lib.hid hRd
        clear hHs hgs hRd hq HGS hsf hrd
        gi_wp2_with (first
          | (refine ⟨trivial, ?_⟩; gi_at_call 13; refine (CallsIn.inRound l (callsIn_wide.2 (HTr.out _))).mono ?_; rintro e w1 ⟨rfl, rfl⟩)
          | (refine ⟨trivial, ?_⟩; gi_at_call 14; refine (CallsIn.inRound l (callsIn_wide.2 (HHs.out _))).mono ?_; rintro e w2 ⟨rfl, rfl⟩)
          | (refine ⟨trivial, ?_⟩; gi_at_call 15; refine (CallsIn.inRound l (callsIn_wide.2 (HRD.out _ (HT.out.ext HQ.out.ext)))).mono ?_; rintro e w3 ⟨hx3, a, b, c, d, rfl, -⟩; have hq3 := HQ.out.ext' hx3; have r2 := hq3.r2.alloc; have r3 := hq3.r3.alloc; have c2' := fun o => (r2 o).cell; have c3' := fun o => (r3 o).cell; have f2' := fun o => (r2 o).frozen; have f3' := fun o => (r3 o).frozen; have HQ3 := Lib.hid hq3; have HX3 := Lib.hid hx3; clear hq3 r2 r3 hx3))
        exact ⟨((((keepsOthers_ext HX3.out).trans (KeepsOthers.alloc _ _)).trans (KeepsOthers.setCell _ _ _)).trans (KeepsOthers.setCell _ _ _)).from _, rfl, HG2.out, (HQ3.out.ext' ((Ext.refl _).alloc _)).refuse⟩
      | some i =>
        rw [hrd] at hRd hgs
        have c4 := hq.box.cell
        have hbd : q.length + [i].length ≤ 100000000 := by simp; omega
        obtain ⟨n9, hn9⟩ : ∃ n9, q.length + [i].length = n9 := ⟨_, rfl⟩
        have HHs := Lib.hid hHs
        have HG2 := Lib.hid hgs
        have HRD := Lib.hid hRd
        have Hhn9 := Lib.hid hn9
        clear hn9
        clear hHs hgs hRd hq HGS hsf hrd
        gi_wp2_with (first
          | (refine ⟨trivial, ?_⟩; gi_at_call 13; refine (CallsIn.inRound l (callsIn_wide.2 (HTr.out _))).mono ?_; rintro e w1 ⟨rfl, rfl⟩)
          | (refine ⟨trivial, ?_⟩; gi_at_call 14; refine (CallsIn.inRound l (callsIn_wide.2 (HHs.out _))).mono ?_; rintro e w2 ⟨rfl, rfl⟩)
          | (refine ⟨trivial, ?_⟩; gi_at_call 15; refine (CallsIn.inRound l (callsIn_wide.2 (HRD.out _ (HT.out.ext HQ.out.ext)))).mono ?_; rintro e w3 ⟨hx3, a, b, c, d, rfl, hj⟩; obtain ⟨hin, hOk⟩ := hj i rfl; obtain ⟨rfl, rfl, rfl, rfl⟩ : (i.c : Int) = a ∧ (i.jt : Int) = b ∧ (i.jf : Int) = c ∧ (i.k : Int) = d := (by simpa [inV] using hin); clear hin hj; have hq3 := HQ.out.ext' hx3; have cb := fun o => (hq3.box.alloc o).cell; have HQ4 := Lib.hid ((hq3.ext' ((Ext.refl _).alloc (.cells #[.int .u16 (i.c : Int), .int .u8 (i.jt : Int), .int .u8 (i.jf : Int), .int .u32 (i.k : Int)] 34))).ext' ((Ext.refl _).alloc (.cells #[.int .u16 (i.c : Int), .int .u8 (i.jt : Int), .int .u8 (i.jf : Int), .int .u32 (i.k : Int)] 34))); have HX3 := Lib.hid ((hx3.alloc (.cells #[.int .u16 (i.c : Int), .int .u8 (i.jt : Int), .int .u8 (i.jf : Int), .int .u32 (i.k : Int)] 34)).alloc (.cells #[.int .u16 (i.c : Int), .int .u8 (i.jt : Int), .int .u8 (i.jf : Int), .int .u32 (i.k : Int)] 34)); have HOk := Lib.hid hOk; clear hq3 hx3 hOk)
          | (gi_at_builtin; refine wpListIn_app_g rfl (.tmp 29) (.tmp 31) 22 rfl Tryz.underlying22 infoP rfl (by decide) encN_len encN_one (w.heap.size + 4) (.slice u0 q.length c0) _ q [i] rfl rfl HQ4.out.own (rd_lit encN_len (w3.alloc (.cells #[.int .u16 (i.c : Int), .int .u8 (i.jt : Int), .int .u8 (i.jf : Int), .int .u32 (i.k : Int)] 34)) [i] 34 _ (by rw [World.size_alloc])) hbd (by decide) (Nat.le_trans hsz HX3.out.size) ?_; intro au cu w9 ho9 hg9; rw [Hhn9.out] at ho9 ⊢; have hb9 := HQ4.out.box.kept hg9 (fun e => by have := (HQ4.out.own.lt _ e.symm).1; omega); have c9 := hb9.cell; have f9 := hb9.frozen; have HO9 := Lib.hid (And.intro ho9 hg9); clear ho9 hg9 hb9))
        obtain ⟨k1, k2⟩ := PQ.round hsz HX3.out HQ4.out HO9.out.2 (.slice au n9 cu)
        refine ⟨k1.from _, k2, q ++ [i], _, HG2.out, ?_, PQ.appended HQ4.out HO9.out.2 (by rw [← Hhn9.out]; rfl) HO9.out.1⟩
        intro j hj
        rcases List.mem_append.1 hj with h | h
        · exact HOK.out j h
        · cases List.mem_singleton.1 h; exact HOk.out
    · have hHs := HHs.out
      rw [hsf] at hHs
      have HHs := Lib.hid hHs
      clear hRd hHs hq
      gi_wp2_with (first
          | (refine ⟨trivial, ?_⟩; gi_at_call 13; refine (CallsIn.inRound l (callsIn_wide.2 (HTr.out _))).mono ?_; rintro e w1 ⟨rfl, rfl⟩)
          | (refine ⟨trivial, ?_⟩; gi_at_call 14; refine (CallsIn.inRound l (callsIn_wide.2 (HHs.out _))).mono ?_; rintro e w2 ⟨rfl, rfl⟩))
      exact ⟨KeepsFrom.refl _ _, Keep.refl _ _, q, u, HGS.out.trans (by rw [hsf, if_pos rfl]), HOK.out, HQ.out⟩
  case done =>
    rintro D ys W' hD hys ⟨q, u, hgo, hok, hq⟩ hK
    have hpa : parseA s = if canL q = true ∧ textL q = s then some q else none := by
      unfold parseA
      rw [if_neg (by omega), ← hys, hgo]; rfl
    have hql : q.length ≤ 1000000 := by
      have h1 := goA_len _ _ _ hgo
      have h2 := pieces_len s
      rw [hys] at h1
      simp only [List.length_nil] at h1
      omega
    obtain ⟨u0, c0, rfl, -, -⟩ := rdI_cell (rd_of_own encN_len hq.own)
    have hTx := Text_calls q _ hok hql W' (HT.out.tab.ext hq.ext) (rd_of_own encN_len hq.own)
    have c4 := hq.box.cell
    have HQ := Lib.hid hq
    have HD := Lib.hid (And.intro hD hK)
    have HOK := Lib.hid hok
    have HPA := Lib.hid hpa
    clear hpa hgo hys hq hD hK hok d1 d2 hs
    by_cases hc : canL q = true
    · rw [if_pos hc] at hTx
      have HhTx := Lib.hid hTx
      clear hTx
      by_cases hts : textL q = s
      · have hsz' : ((str (textL q)).toList == (str s).toList) = true := by rw [hts]; exact beq_self_eq_true _
        gi_wp2_with (refine ⟨trivial, ?_⟩; gi_at_call 16; refine (callsIn_wide.2 HhTx.out).mono ?_; rintro e w3 ⟨hx3, rfl⟩; have hq3 := HQ.out.ext' hx3; have c2 := hq3.r2.cell; have c3 := hq3.r3.cell; have f2 := hq3.r2.frozen; have f3 := hq3.r3.frozen; have cb := hq3.box.cell; have HQ3 := Lib.hid hq3; have HX3 := Lib.hid hx3; clear hq3 hx3)
        obtain ⟨WE, hWE⟩ : ∃ WE, (w3.setCell ⟨w.heap.size, 0, none⟩ (.slice u0 q.length c0)).setCell ⟨w.heap.size + 1, 0, none⟩ (.int .i64 0) = WE := ⟨_, rfl⟩
        have hr2 : Boxed WE w.heap.size 22 (.slice u0 q.length c0) := by rw [← hWE]; exact (HQ3.out.r2.set _).other (by omega) _
        have hr3 : Boxed WE (w.heap.size + 1) 26 (.int .i64 0) := by rw [← hWE]; exact (HQ3.out.r3.other (by omega) _).set _
        have hXE : Ext w WE := by rw [← hWE]; exact (HQ3.out.ext.setCell (by show w.heap.size ≤ w.heap.size; omega) _).setCell (by show w.heap.size ≤ w.heap.size + 1; omega) _
        have hown : WE.ownsRow (w.heap.size + 4) 34 4 (.slice u0 q.length c0) q.length (q.flatMap encN) := by
          rw [← hWE]
          exact ownsRow_keep (S := fun k => w.heap.size + 4 ≤ k) HQ3.out.own ((Keep.setCell w3 (by show ¬ w.heap.size + 4 ≤ w.heap.size; omega) _).trans (Keep.setCell _ (by show ¬ w.heap.size + 4 ≤ w.heap.size + 1; omega) _)) (fun b e => (HQ3.out.own.lt b e).1)
        have hM : Marks (w.heap.size + 4) [D] WE := by
          rw [← hWE]
          exact (((Marks.nil _ W').cons (D := D) (by simp) HD.out.2 (by have := HD.out.1; omega)).ext HX3.out |>.setCell (by show w.heap.size < _; omega) _).setCell (by show w.heap.size + 1 < _; omega) _
        rw [hWE]
        clear hWE
        have hKD := (hM.lies D (by simp)).1
        refine leaves_marks (B := w.heap.size + 4) [D] WE hM ?_
        intro W9 o1 o2 o3 o4 o5 o6
        have q0 := Boxed.cell ((o5 _ (by omega)).trans hr2)
        have q1 := Boxed.cell ((o5 _ (by omega)).trans hr3)
        refine ⟨.tuple #[.slice u0 q.length c0, .int .i64 0], by simp [results, Tryz.results6, go_sem, q0, q1], ?_, .inl ⟨q, _, HPA.out.trans (if_pos ⟨hc, hts⟩), rfl, ?_, HOK.out⟩⟩
        · exact Below.trans hXE ⟨o1, o2, o3, by omega, fun j hj => o5 j (by omega)⟩
        · refine rd_of_own encN_len (ownsRow_keep (S := fun k => k ≠ D) hown ⟨o1, o2, o3, by omega, fun k hk => o6 k (by simpa using hk)⟩ (fun b e eD => ?_))
          rcases hown.2 with ⟨h, _⟩ | ⟨g, cap, cur, h, hg2, hh, -⟩
          · rw [h] at e; cases e
          · rw [h] at e; cases e
            have eg : g = D := eD
            rw [eg, hKD] at hh; cases hh
      · have hsz' : ((str (textL q)).toList == (str s).toList) = false := by
          rw [beq_eq_false_iff_ne]
          intro h
          rw [ByteArray.toList_eq, ByteArray.toList_eq] at h
          exact hts ((bytes_str _).symm.trans (h.trans (bytes_str _)))
        gi_wp2_with (refine ⟨trivial, ?_⟩; gi_at_call 16; refine (callsIn_wide.2 HhTx.out).mono ?_; rintro e w3 ⟨hx3, rfl⟩; have hq3 := HQ.out.ext' hx3; have c2 := hq3.r2.cell; have c3 := hq3.r3.cell; have f2 := hq3.r2.frozen; have f3 := hq3.r3.frozen; have cb := hq3.box.cell; have HQ3 := Lib.hid hq3; have HX3 := Lib.hid hx3; clear hq3 hx3)
        obtain ⟨WE, hWE⟩ : ∃ WE, (w3.setCell ⟨w.heap.size, 0, none⟩ (.slice none 0 0)).setCell ⟨w.heap.size + 1, 0, none⟩ (.int .i64 70) = WE := ⟨_, rfl⟩
        have hr : RX w WE := by rw [← hWE]; exact HQ3.out.refuse
        have hM : Marks (w.heap.size + 4) [D] WE := by
          rw [← hWE]
          exact (((Marks.nil _ W').cons (D := D) (by simp) HD.out.2 (by have := HD.out.1; omega)).ext HX3.out |>.setCell (by show w.heap.size < _; omega) _).setCell (by show w.heap.size + 1 < _; omega) _
        rw [hWE]
        clear hWE
        refine leaves_marks (B := w.heap.size + 4) [D] WE hM ?_
        intro W9 o1 o2 o3 o4 o5 o6
        have q0 := Boxed.cell ((o5 _ (by omega)).trans hr.r2)
        have q1 := Boxed.cell ((o5 _ (by omega)).trans hr.r3)
        refine ⟨.tuple #[.slice none 0 0, .int .i64 70], by simp [results, Tryz.results6, go_sem, q0, q1], ?_, .inr ⟨HPA.out.trans (if_neg (fun h => hts h.2)), rfl⟩⟩
        exact Below.trans hr.ext ⟨o1, o2, o3, by omega, fun j hj => o5 j (by omega)⟩
    · rw [if_neg hc] at hTx
      have HhTx := Lib.hid hTx
      clear hTx
      gi_wp2_with (refine ⟨trivial, ?_⟩; gi_at_call 16; refine (callsIn_wide.2 HhTx.out).mono ?_; rintro e w3 ⟨hx3, rfl⟩; have hq3 := HQ.out.ext' hx3; have c2 := hq3.r2.cell; have c3 := hq3.r3.cell; have f2 := hq3.r2.frozen; have f3 := hq3.r3.frozen; have cb := hq3.box.cell; have HQ3 := Lib.hid hq3; have HX3 := Lib.hid hx3; clear hq3 hx3)
      obtain ⟨WE, hWE⟩ : ∃ WE, (w3.setCell ⟨w.heap.size, 0, none⟩ (.slice none 0 0)).setCell ⟨w.heap.size + 1, 0, none⟩ (.int .i64 70) = WE := ⟨_, rfl⟩
      have hr : RX w WE := by rw [← hWE]; exact HQ3.out.refuse
      have hM : Marks (w.heap.size + 4) [D] WE := by
        rw [← hWE]
        exact (((Marks.nil _ W').cons (D := D) (by simp) HD.out.2 (by have := HD.out.1; omega)).ext HX3.out |>.setCell (by show w.heap.size < _; omega) _).setCell (by show w.heap.size + 1 < _; omega) _
      rw [hWE]
      clear hWE
      refine leaves_marks (B := w.heap.size + 4) [D] WE hM ?_
      intro W9 o1 o2 o3 o4 o5 o6
      have q0 := Boxed.cell ((o5 _ (by omega)).trans hr.r2)
      have q1 := Boxed.cell ((o5 _ (by omega)).trans hr.r3)
      refine ⟨.tuple #[.slice none 0 0, .int .i64 70], by simp [results, Tryz.results6, go_sem, q0, q1], ?_, .inr ⟨HPA.out.trans (if_neg (fun h => hc h.1)), rfl⟩⟩
      exact Below.trans hr.ext ⟨o1, o2, o3, by omega, fun j hj => o5 j (by omega)⟩
  case stop =>
    rintro D cd pre W' hD hpre ⟨rfl, hgo, hr⟩ hK
    have hpa : parseA s = none := by
      obtain ⟨r, hr⟩ := hpre
      unfold parseA
      rw [if_neg (by omega), ← hr, goA_none hgo]; rfl
    have HPA := Lib.hid hpa
    clear hpa hgo hpre hs d1 d2
    gi_wp2
    have hM : Marks (w.heap.size + 4) [D] W' := (Marks.nil _ W').cons (D := D) (by simp) hK (by omega)
    refine leaves_marks (B := w.heap.size + 4) [D] W' hM ?_
    intro W9 o1 o2 o3 o4 o5 o6
    have q0 := Boxed.cell ((o5 _ (by omega)).trans hr.r2)
    have q1 := Boxed.cell ((o5 _ (by omega)).trans hr.r3)
    refine ⟨.tuple #[.slice none 0 0, .int .i64 70], by simp [results, Tryz.results6, go_sem, q0, q1], ?_, .inr ⟨HPA.out, rfl⟩⟩
    exact Below.trans hr.ext ⟨o1, o2, o3, by omega, fun j hj => o5 j (by omega)⟩
end L07
end Go.Proofs.YtbpmokffhmiacaaGreatDoor
