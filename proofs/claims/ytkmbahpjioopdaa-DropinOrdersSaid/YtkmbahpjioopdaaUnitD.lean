/- Layer 13: what Parse holds; the walk of the closure that notes a wrong line. -/
import Derived.Test.YtkmbahpjioopdaaUnitC
namespace Go.Proofs.Ytkmbahpjioopdaa
open Go.RowKit Go.Shelf V
attribute [local go_sem] Oper.semAt_some Option.isSome_some
namespace L12
/-- an assignment: line, section, key, value; a note: line, what is wrong, text -/
abbrev As := Nat × List UInt8 × List UInt8 × List UInt8
abbrev Nt := Nat × Nat × List UInt8
def encAs (fn : ByteArray) (x : As) : List Value := [.string fn, .int .i64 (x.1 : Int), .string (str x.2.1), .string (str x.2.2.1), .string (str x.2.2.2)]
def encNt (fn : ByteArray) (x : Nt) : List Value := [.string fn, .int .i64 (x.1 : Int), .int .i64 (x.2.1 : Int), .string (str x.2.2)]
theorem encAs_len (fn : ByteArray) (x : As) : (encAs fn x).length = 5 := rfl
theorem encNt_len (fn : ByteArray) (x : Nt) : (encNt fn x).length = 4 := rfl
theorem encAs_one (fn : ByteArray) (s : As) : ∀ u ∈ encAs fn s, u.oneCell' = true := by intro u hu; simp [encAs] at hu; rcases hu with rfl | rfl | rfl | rfl | rfl <;> rfl
theorem encNt_one (fn : ByteArray) (s : Nt) : ∀ u ∈ encNt fn s, u.oneCell' = true := by intro u hu; simp [encNt] at hu; rcases hu with rfl | rfl | rfl | rfl <;> rfl
theorem infoAs : (Try.prog.info? 64).map (fun i => (i.zero, i.size, i.bytes)) = some (some (.agg #[.string ⟨#[]⟩, .int .i64 0, .string ⟨#[]⟩, .string ⟨#[]⟩, .string ⟨#[]⟩]), 5, 72) := by kernel_rfl
theorem infoNt : (Try.prog.info? 47).map (fun i => (i.zero, i.size, i.bytes)) = some (some (.agg #[.string ⟨#[]⟩, .int .i64 0, .int .i64 0, .string ⟨#[]⟩]), 4, 48) := by kernel_rfl
theorem own_ne {W : World} {b1 b2 e1 e2 n1 n2 k1 k2 : Nat} {u1 u2 : Value} {z1 z2 : List Value} (h1 : W.ownsRow b1 e1 n1 u1 k1 z1) (h2 : W.ownsRow b2 e2 n2 u2 k2 z2) (hn : e1 ≠ e2) : ∀ j, u1.ownBlock = some j → u2.ownBlock ≠ some j := by
  intro j hj hj2
  rcases h1.2 with ⟨rfl, _⟩ | ⟨g, cap, cur, rfl, _, hh, _⟩
  · simp [Value.ownBlock] at hj
  rcases h2.2 with ⟨rfl, _⟩ | ⟨g2, cap2, cur2, rfl, _, hh2, _⟩
  · simp [Value.ownBlock] at hj2
  simp only [Value.ownBlock, Option.some.injEq] at hj hj2
  subst hj hj2
  rw [hh] at hh2
  simp at hh2
  exact hn hh2.2
set_option maxRecDepth 100000 in
set_option maxHeartbeats 2000000 in
theorem wrong_calls {W : World} {N F B : Nat} {fn : ByteArray} {u1 : Value} {ns : List Nt} (n e : Nat) (t : List UInt8) (hb : Boxed W N 38 u1) (hf : W.cell? ⟨F, 0, none⟩ = some (.string fn))
    (ho : W.ownsRow B 47 4 u1 ns.length (ns.flatMap (encNt fn))) (hN : N < B) (hB : B ≤ W.heap.size) (hl : ns.length ≤ 1000000) :
    Calls Try.prog 32 #[.int .i64 (n : Int), .int .i64 (e : Int), .string (str t), .pointer (some ⟨N, 0, none⟩), .pointer (some ⟨F, 0, none⟩)] W fun x w' => x = .returned (.tuple #[]) ∧
      ∃ u1', Keep (fun k => k < W.heap.size ∧ k ≠ N ∧ u1.ownBlock ≠ some k) W w' ∧ Boxed w' N 38 u1' ∧ w'.ownsRow B 47 4 u1' (ns ++ [(n, e, t)]).length ((ns ++ [(n, e, t)]).flatMap (encNt fn)) := by
  obtain ⟨au, cu, rfl⟩ := own_form ho
  have c1 := hb.cell
  have f1 := hb.frozen
  have hlo := ho.lt
  have hbl := hb.lt
  obtain ⟨o, ho1⟩ : ∃ o, o = Obj.cells #[.string fn, .int .i64 (n : Int), .int .i64 (e : Int), .string (str t)] 47 := ⟨_, rfl⟩
  have HOA := Lib.hid (World.ownsRow.alloc ho o)
  have HB := Lib.hid hb
  have Hhlo := Lib.hid hlo
  clear hlo
  have Hho := Lib.hid ho
  clear ho
  clear hb
  go_enter Try.func32, Try.ntmps32
  go_wp2_with (at_builtin
               refine wpList_app_g rfl (.tmp 8) (.tmp 15) _ rfl Try.underlying38 infoNt rfl (by decide) (encNt_len fn) (encNt_one fn) B _ _ ns [(n, e, t)] rfl rfl (by rw [ho1] at HOA; exact HOA.out) (rd_lit (encNt_len fn) W [(n, e, t)] _ _ rfl) (by simp; omega) (by decide) (by simp; omega) ?_
               intro au5 cu5 w5 ho5 hg5
               have hnr : ∀ k, k < B → (some k : Option Nat) ≠ Value.ownBlock (.slice au ns.length cu) := fun k hk e => by have := (Hhlo.out k e.symm).1; omega
               have hb5 : Boxed w5 N 38 _ := (hg5.block N (by simp; omega) (hnr N hN)).trans (HB.out.alloc _)
               have c5 := hb5.cell
               have f5 := hb5.frozen
               have hb5l := hb5.lt
               have HB5 := Lib.hid hb5
               have HO5 := Lib.hid ho5
               have HG5 := Lib.hid hg5
               clear ho5 hg5 hb5 hnr)
  go_end0
  have hsz := HG5.out.size
  rw [World.size_alloc] at hsz
  refine ⟨rfl, _, ⟨HG5.out.os, HG5.out.tape, HG5.out.output, by rw [World.size_setCell]; omega, fun k hk => (Below.heap_setCell _ _ _ k hk.2.1).trans ((HG5.out.block k (by rw [World.size_alloc]; omega) (fun e => hk.2.2 e.symm)).trans (((Ext.refl W).alloc _).block hk.1))⟩, HB5.out.set _, ?_⟩
  rw [List.length_append]
  exact ownsRow_setCell_below HO5.out hN _
/-- what Parse has, while it goes through the lines -/
structure US where
  sec : List UInt8
  inn : Bool
  al : List As
  nl : List Nt
def wrongV (N F : Nat) : Value := .func (.func 32) #[] #[.pointer (some ⟨N, 0, none⟩), .pointer (some ⟨F, 0, none⟩)]
structure S13 (w0 : World) (F N R B0 : Nat) (fn : ByteArray) (st : US) (u1 u2 : Value) (W : World) : Prop where
  ext : Ext w0 W
  f0 : w0.heap.size ≤ F
  n0 : w0.heap.size ≤ N
  r0 : w0.heap.size ≤ R
  fn' : F ≠ N
  fr : F ≠ R
  nr : N ≠ R
  fb : F < B0
  nb : N < B0
  rb : R < B0
  bs : B0 ≤ W.heap.size
  file : W.cell? ⟨F, 0, none⟩ = some (.string fn)
  notes : Boxed W N 38 u1
  rd : W.heap[R]? = some (.cells #[.string fn, .string (str st.sec), .bool st.inn, u2, wrongV N F] 71 (0, 0))
  own1 : W.ownsRow B0 47 4 u1 st.nl.length (st.nl.flatMap (encNt fn))
  own2 : W.ownsRow B0 64 5 u2 st.al.length (st.al.flatMap (encAs fn))
abbrev K13 (N R B0 : Nat) (W W' : World) : Prop := Keep (fun k => k < B0 ∧ k ≠ N ∧ k ≠ R) W W'
section
variable {w0 W : World} {F N R B0 : Nat} {fn : ByteArray} {st : US} {u1 u2 : Value}
theorem S13.c (h : S13 w0 F N R B0 fn st u1 u2 W) : W.cell? ⟨R, 0, none⟩ = some (.string fn) ∧ W.cell? ⟨R, 1, none⟩ = some (.string (str st.sec)) ∧ W.cell? ⟨R, 2, none⟩ = some (.bool st.inn) ∧ W.cell? ⟨R, 3, none⟩ = some u2 ∧ W.cell? ⟨R, 4, none⟩ = some (wrongV N F) := by
  simp [World.cell?, h.rd]
theorem S13.f (h : S13 w0 F N R B0 fn st u1 u2 W) (j : Nat) : W.frozen? ⟨R, j, none⟩ = false := by simp [World.frozen?, h.rd]
theorem S13.lt (h : S13 w0 F N R B0 fn st u1 u2 W) : R < W.heap.size := (Array.getElem?_eq_some_iff.1 h.rd).1
theorem S13.flt (h : S13 w0 F N R B0 fn st u1 u2 W) : F < W.heap.size := World.block_lt_of_cell? _ _ h.file
theorem S13.ext' {W' : World} (h : S13 w0 F N R B0 fn st u1 u2 W) (hx : Ext W W') : S13 w0 F N R B0 fn st u1 u2 W' :=
  ⟨h.ext.trans hx, h.f0, h.n0, h.r0, h.fn', h.fr, h.nr, h.fb, h.nb, h.rb, Nat.le_trans h.bs hx.size, hx.cell h.file, (hx.block h.notes.lt).trans h.notes, (hx.block h.lt).trans h.rd,
    ownsRow_keep (S := fun b => b < W.heap.size) h.own1 (Keep.of_below hx (fun _ h => h)) (fun b hb => (h.own1.lt b hb).2), ownsRow_keep (S := fun b => b < W.heap.size) h.own2 (Keep.of_below hx (fun _ h => h)) (fun b hb => (h.own2.lt b hb).2)⟩
theorem K13.ext {W' : World} (hb : B0 ≤ W.heap.size) (hx : Ext W W') : K13 N R B0 W W' := Keep.of_below hx (fun k hk => by omega)
/-- the reader's block written -/
theorem S13.setR (h : S13 w0 F N R B0 fn st u1 u2 W) (j : Nat) (v : Value) (sec : List UInt8) (inn : Bool) (he : (#[.string fn, .string (str st.sec), .bool st.inn, u2, wrongV N F] : Array Value).setIfInBounds j v = #[.string fn, .string (str sec), .bool inn, u2, wrongV N F]) :
    S13 w0 F N R B0 fn ⟨sec, inn, st.al, st.nl⟩ u1 u2 (W.setCell ⟨R, j, none⟩ v) ∧ K13 N R B0 W (W.setCell ⟨R, j, none⟩ v) := by
  refine ⟨⟨h.ext.setCell h.r0 _, h.f0, h.n0, h.r0, h.fn', h.fr, h.nr, h.fb, h.nb, h.rb, by rw [World.size_setCell]; exact h.bs, ?_, (Below.heap_setCell _ _ _ N h.nr).trans h.notes, ?_, ownsRow_setCell_below h.own1 h.rb _, ownsRow_setCell_below h.own2 h.rb _⟩, Keep.setCell W (fun hh => hh.2.2 rfl) _⟩
  · exact (World.cell?_of_block (a := ⟨F, 0, none⟩) (Below.heap_setCell _ _ _ F h.fr)).trans h.file
  · obtain ⟨hlt, hk⟩ := Array.getElem?_eq_some_iff.1 h.rd
    show (W.heap.modify R _)[R]? = _
    rw [Array.getElem?_eq_getElem (by rw [Array.size_modify]; exact hlt), Array.getElem_modify_self, hk]
    simp only [Option.some.injEq, Obj.cells.injEq, and_true]
    rw [← he]
    try rfl
/-- a note more -/
theorem S13.note {W' : World} {u1' : Value} {x : Nt} (h : S13 w0 F N R B0 fn st u1 u2 W) (hk : Keep (fun k => k < W.heap.size ∧ k ≠ N ∧ u1.ownBlock ≠ some k) W W') (hb : Boxed W' N 38 u1')
    (ho : W'.ownsRow B0 47 4 u1' (st.nl ++ [x]).length ((st.nl ++ [x]).flatMap (encNt fn))) : S13 w0 F N R B0 fn ⟨st.sec, st.inn, st.al, st.nl ++ [x]⟩ u1' u2 W' ∧ K13 N R B0 W W' := by
  have hlo := h.own1.lt
  have hnr : ∀ k, k < B0 → u1.ownBlock ≠ some k := fun k hk e => by have := (hlo k e).1; omega
  have hbs := h.bs
  refine ⟨⟨?_, h.f0, h.n0, h.r0, h.fn', h.fr, h.nr, h.fb, h.nb, h.rb, Nat.le_trans h.bs hk.size, (hk.cell (p := ⟨F, 0, none⟩) ⟨h.flt, h.fn', hnr F h.fb⟩).trans h.file, hb, (hk.block R ⟨h.lt, fun e => h.nr e.symm, hnr R h.rb⟩).trans h.rd, ho,
    ownsRow_keep h.own2 hk (fun b hb => ⟨(h.own2.lt b hb).2, fun e => by have := (h.own2.lt b hb).1; have := h.nb; omega, fun e => own_ne h.own1 h.own2 (by decide) b e hb⟩)⟩, hk.mono (fun k hk => ⟨by omega, hk.2.1, hnr k hk.1⟩)⟩
  exact Below.trans h.ext (hk.below (fun k hk => by
    have := h.ext.size
    have h1 := h.n0
    have h2 := h.nb
    have h3 := h.f0
    have h4 := h.fb
    exact ⟨by omega, by omega, hnr k (by omega)⟩))
/-- an assignment more -/
theorem S13.more {W' : World} {u2' : Value} {x : As} (h : S13 w0 F N R B0 fn st u1 u2 W) (hg : W.grownBy W' u2.ownBlock)
    (ho : W'.ownsRow B0 64 5 u2' (st.al ++ [x]).length ((st.al ++ [x]).flatMap (encAs fn))) : S13 w0 F N R B0 fn ⟨st.sec, st.inn, st.al ++ [x], st.nl⟩ u1 u2' (W'.setCell ⟨R, 3, none⟩ u2') ∧ K13 N R B0 W (W'.setCell ⟨R, 3, none⟩ u2') := by
  have hlo := h.own2.lt
  have hnr : ∀ k, k < B0 → some k ≠ u2.ownBlock := fun k hk e => by have := (hlo k e.symm).1; omega
  have hbs := h.bs
  have hrd : W'.heap[R]? = _ := (hg.block R h.lt (hnr _ h.rb)).trans h.rd
  refine ⟨⟨(h.ext.grown hg (fun k e => by have := (hlo k e).1; have := h.n0; have := h.nb; omega)).setCell h.r0 _, h.f0, h.n0, h.r0, h.fn', h.fr, h.nr, h.fb, h.nb, h.rb, by rw [World.size_setCell]; exact Nat.le_trans h.bs hg.size, ?_, (Below.heap_setCell _ _ _ N h.nr).trans ((hg.block N h.notes.lt (hnr _ h.nb)).trans h.notes), ?_, ?_, ownsRow_setCell_below ho h.rb _⟩, ?_⟩
  · exact (World.cell?_of_block (a := ⟨F, 0, none⟩) ((Below.heap_setCell _ _ _ F h.fr).trans (hg.block F h.flt (hnr _ h.fb)))).trans h.file
  · obtain ⟨hlt, hk⟩ := Array.getElem?_eq_some_iff.1 hrd
    show (W'.heap.modify R _)[R]? = _
    rw [Array.getElem?_eq_getElem (by rw [Array.size_modify]; exact hlt), Array.getElem_modify_self, hk]
    rfl
  · refine ownsRow_setCell_below (World.ownsRow.kept h.own1 hg ?_) h.rb _
    cases hu : u1.ownBlock with
    | none => exact .inl rfl
    | some k => exact .inr fun e => own_ne h.own1 h.own2 (by decide) k hu e.symm
  · exact ⟨hg.os, hg.tape, hg.output, by rw [World.size_setCell]; exact hg.size, fun k hk => (Below.heap_setCell _ _ _ k hk.2.2).trans (hg.block k (by omega) (hnr k hk.1))⟩
end
end L12
end Go.Proofs.Ytkmbahpjioopdaa
