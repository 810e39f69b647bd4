/- Layer 12: what Split holds while it goes through the lines; the walks of Comment and of the closure that ends a logical line. -/
import Derived.Test.YtkmbahpjioopdaaLineC
import Derived.Deep.DeepCutAuto
namespace Go.Proofs.Ytkmbahpjioopdaa
open Go.RowKit Go.Shelf V
attribute [local go_sem] Oper.semAt_some
namespace L12
def commentL (l : List UInt8) : Bool := match trimL l with
  | [] => false
  | x :: _ => x == 35 || x == 59
theorem str_cons_get (x : UInt8) (r : List UInt8) (h : 0 < (str (x :: r)).size) : (str (x :: r))[0]'h = x := rfl
theorem trimL_len (l : List UInt8) : (trimL l).length ≤ l.length := by
  unfold trimL
  rw [List.length_reverse]
  refine Nat.le_trans (List.dropWhile_suffix _).length_le ?_
  rw [List.length_reverse]
  exact (List.dropWhile_suffix _).length_le
set_option maxHeartbeats 1000000 in
theorem Comment_calls (s : ByteArray) (hs : s.size ≤ maxLen) (w : World) :
    Calls Try.prog 52 #[.string s] w fun e w' => e = .returned (.bool (commentL (bytes s))) ∧ w = w' := by
  have hT := fun W => Trim_calls s hs W
  unfold commentL
  have hl := trimL_len (bytes s)
  rw [bytes_len] at hl
  unfold maxLen at hs
  cases ht : trimL (bytes s) with
  | nil =>
    rw [ht] at hT
    have HhT := Lib.hid hT
    clear hT
    have Hht := Lib.hid ht
    clear ht
    go_enter Try.func52, Try.ntmps52
    go_wp2_with fail
    refine (HhT.out _).mono ?_
    rintro e w1 ⟨rfl, rfl⟩
    go_wp2_with fail
    go_ret
    exact ⟨rfl, rfl⟩
  | cons x r =>
    rw [ht] at hT hl
    have hsz : (str (x :: r)).size = r.length + 1 := rfl
    have hn : (!(str (x :: r)).toList.isEmpty) = true := by rw [ByteArray.toList_eq]; rfl
    have hp : 0 < (str (x :: r)).size := by rw [hsz]; omega
    have hg := str_cons_get x r hp
    have e1 : ((x.toNat : Int) == 35) = (x == 35) := by rw [Bool.eq_iff_iff]; simp; rw [← UInt8.toNat_inj]; show ((x.toNat : Int) = 35) ↔ x.toNat = 35; omega
    have e2 : ((x.toNat : Int) == 59) = (x == 59) := by rw [Bool.eq_iff_iff]; simp; rw [← UInt8.toNat_inj]; show ((x.toNat : Int) = 59) ↔ x.toNat = 59; omega
    dsimp only
    generalize (x == 35) = b1 at *
    generalize (x == 59) = b2 at *
    generalize hst : str (x :: r) = t at *
    have HhT := Lib.hid hT
    clear hT
    have Hht := Lib.hid ht
    clear ht
    have Hhst := Lib.hid hst
    clear hst
    cases b1 <;> cases b2
    all_goals
      go_enter Try.func52, Try.ntmps52
      go_wp2_with fail
      refine (HhT.out _).mono ?_
      rintro e w1 ⟨rfl, rfl⟩
      go_wp2_with fail
      go_ret
      exact ⟨rfl, rfl⟩
def encN (x : LN) : List Value := [.int .i64 (x.1 : Int), .string (str x.2)]
theorem encN_len (x : LN) : (encN x).length = 2 := rfl
theorem encN_one (s : LN) : ∀ u ∈ encN s, u.oneCell' = true := by intro u hu; simp [encN] at hu; rcases hu with rfl | rfl <;> rfl
theorem infoN : (Try.prog.info? 90).map (fun i => (i.zero, i.size, i.bytes)) = some (some (.agg #[.int .i64 0, .string ⟨#[]⟩]), 2, 24) := by kernel_rfl
theorem own_cells {W : World} {base e n k : Nat} {u : Value} {zs : List Value} (h : W.ownsRow base e n u k zs) : ∀ (j : Nat) (o : Obj), u.ownBlock = some j → W.heap[j]? = some o → o.isCells = true := by
  intro j o hj ho
  rcases h.2 with ⟨rfl, _⟩ | ⟨g, cap, cur, rfl, _, hh, _⟩
  · simp [Value.ownBlock] at hj
  · simp only [Value.ownBlock, Option.some.injEq] at hj
    subst hj
    rw [hh] at ho
    cases ho
    rfl
structure S12 (w0 : World) (Bn Bo B0 : Nat) (num : Nat) (txt : List UInt8) (xs : List LN) (u : Value) (W : World) : Prop where
  ext : Ext w0 W
  n0 : w0.heap.size ≤ Bn
  o0 : w0.heap.size ≤ Bo
  no : Bn ≠ Bo
  nb : Bn < B0
  ob : Bo < B0
  bs : B0 ≤ W.heap.size
  now : W.heap[Bn]? = some (.cells #[.int .i64 (num : Int), .string (str txt)] 90 (0, 0))
  box : Boxed W Bo 66 u
  own : W.ownsRow B0 90 2 u xs.length (xs.flatMap encN)
/-- what a step on it keeps -/
structure K12 (Bn Bo B0 : Nat) (W W' : World) : Prop where
  kp : Keep (fun k => k < B0 ∧ k ≠ Bn ∧ k ≠ Bo) W W'
  ko : KeepsOthers W W'
theorem K12.refl (Bn Bo B0 : Nat) (W : World) : K12 Bn Bo B0 W W := ⟨Keep.refl _ _, KeepsOthers.refl _⟩
theorem K12.trans {Bn Bo B0 : Nat} {a b c : World} (h : K12 Bn Bo B0 a b) (k : K12 Bn Bo B0 b c) : K12 Bn Bo B0 a c := ⟨h.kp.trans k.kp, h.ko.trans k.ko⟩
section
variable {w0 W : World} {Bn Bo B0 num : Nat} {txt : List UInt8} {xs : List LN} {u : Value}
theorem S12.c0 (h : S12 w0 Bn Bo B0 num txt xs u W) : W.cell? ⟨Bn, 0, none⟩ = some (.int .i64 (num : Int)) := by simp [World.cell?, h.now]
theorem S12.c1 (h : S12 w0 Bn Bo B0 num txt xs u W) : W.cell? ⟨Bn, 1, none⟩ = some (.string (str txt)) := by simp [World.cell?, h.now]
theorem S12.f (h : S12 w0 Bn Bo B0 num txt xs u W) (j : Nat) : W.frozen? ⟨Bn, j, none⟩ = false := by simp [World.frozen?, h.now]
theorem S12.lt (h : S12 w0 Bn Bo B0 num txt xs u W) : Bn < W.heap.size := (Array.getElem?_eq_some_iff.1 h.now).1
theorem S12.setNow (h : S12 w0 Bn Bo B0 num txt xs u W) (j : Nat) (v : Value) (num' : Nat) (txt' : List UInt8) (he : (#[.int .i64 (num : Int), .string (str txt)] : Array Value).setIfInBounds j v = #[.int .i64 (num' : Int), .string (str txt')]) :
    S12 w0 Bn Bo B0 num' txt' xs u (W.setCell ⟨Bn, j, none⟩ v) ∧ K12 Bn Bo B0 W (W.setCell ⟨Bn, j, none⟩ v) := by
  refine ⟨⟨h.ext.setCell h.n0 _, h.n0, h.o0, h.no, h.nb, h.ob, by rw [World.size_setCell]; exact h.bs, ?_, (Below.heap_setCell _ _ _ Bo (fun e => h.no e.symm)).trans h.box, ownsRow_setCell_below h.own h.nb _⟩, ⟨Keep.setCell W (fun hh => hh.2.1 rfl) _, KeepsOthers.setCell _ _ _⟩⟩
  obtain ⟨hlt, hk⟩ := Array.getElem?_eq_some_iff.1 h.now
  show (W.heap.modify Bn _)[Bn]? = _
  rw [Array.getElem?_eq_getElem (by rw [Array.size_modify]; exact hlt), Array.getElem_modify_self, hk]
  simp only [Option.some.injEq, Obj.cells.injEq, and_true]
  rw [← he]
  try rfl
theorem S12.ext' {W' : World} (h : S12 w0 Bn Bo B0 num txt xs u W) (hx : Ext W W') : S12 w0 Bn Bo B0 num txt xs u W' :=
  ⟨h.ext.trans hx, h.n0, h.o0, h.no, h.nb, h.ob, Nat.le_trans h.bs hx.size, (hx.block h.lt).trans h.now, (hx.block h.box.lt).trans h.box, ownsRow_keep (S := fun b => b < W.heap.size) h.own (Keep.of_below hx (fun _ h => h)) (fun b hb => (h.own.lt b hb).2)⟩
theorem S12.app {W' : World} {u' : Value} {ys : List LN} (h : S12 w0 Bn Bo B0 num txt xs u W) (hg : W.grownBy W' u.ownBlock) (ho : W'.ownsRow B0 90 2 u' (xs.length + ys.length) ((xs ++ ys).flatMap encN)) :
    S12 w0 Bn Bo B0 num txt (xs ++ ys) u' (W'.setCell ⟨Bo, 0, none⟩ u') ∧ K12 Bn Bo B0 W (W'.setCell ⟨Bo, 0, none⟩ u') := by
  have hlo := h.own.lt
  have hnr : ∀ k, k < B0 → some k ≠ u.ownBlock := fun k hk e => by have := (hlo k e.symm).1; omega
  have hbx : Boxed W' Bo 66 u := (hg.block Bo h.box.lt (hnr _ h.ob)).trans h.box
  refine ⟨⟨(h.ext.grown hg (fun k e => by have := (hlo k e).1; have := h.n0; have := h.nb; omega)).setCell h.o0 _, h.n0, h.o0, h.no, h.nb, h.ob, by rw [World.size_setCell]; exact Nat.le_trans h.bs hg.size, (Below.heap_setCell _ _ _ Bn h.no).trans ((hg.block Bn h.lt (hnr _ h.nb)).trans h.now), hbx.set _, by rw [List.length_append]; exact ownsRow_setCell_below ho h.ob _⟩, ⟨?_, ?_⟩⟩
  · exact ⟨hg.os, hg.tape, hg.output, by rw [World.size_setCell]; exact hg.size, fun k hk => (Below.heap_setCell _ _ _ k hk.2.2).trans (hg.block k (by have := h.bs; omega) (hnr k hk.1))⟩
  · exact (KeepsOthers.of_grownBy hg (own_cells h.own)).trans (KeepsOthers.setCell _ _ _)
theorem K12.ext {W' : World} (hb : B0 ≤ W.heap.size) (hx : Ext W W') (hk : KeepsOthers W W') : K12 Bn Bo B0 W W' := ⟨Keep.of_below hx (fun k hk => by omega), hk⟩
end
def endL (num : Nat) (txt : List UInt8) (xs : List LN) : List LN := if trimL txt = [] then xs else xs ++ [(num, trimL txt)]
set_option maxRecDepth 100000 in
set_option maxHeartbeats 2000000 in
theorem done_calls {w0 W : World} {Bn Bo B0 num : Nat} {txt : List UInt8} {xs : List LN} {u : Value} (h : S12 w0 Bn Bo B0 num txt xs u W) (ht : txt.length ≤ 100000000000) (hxl : xs.length ≤ 1000000) :
    Calls Try.prog 49 #[.pointer (some ⟨Bn, 0, none⟩), .pointer (some ⟨Bo, 0, none⟩)] W fun e w' => e = .returned (.tuple #[]) ∧ ∃ u', S12 w0 Bn Bo B0 0 [] (endL num txt xs) u' w' ∧ K12 Bn Bo B0 W w' := by
  have hT := fun W => Trim_calls (str txt) (by rw [str_size]; unfold maxLen; omega) W
  have hl := trimL_len txt
  rw [show bytes (str txt) = txt from by simp [bytes]] at hT
  obtain ⟨t, htt⟩ : ∃ t, t = trimL txt := ⟨_, rfl⟩
  have he : endL num txt xs = if t = [] then xs else xs ++ [(num, t)] := by rw [htt]; rfl
  rw [← htt] at hT hl
  rw [he]
  have hS1 := h.setNow 1 (.string (str t)) num t rfl
  have c1 := h.c1
  have f1 := h.f 1
  have hlt := h.lt
  have HS := Lib.hid h
  have HS1 := Lib.hid hS1
  have HhT := Lib.hid hT
  clear hT
  have Hhtt := Lib.hid htt
  clear htt
  have Hhe := Lib.hid he
  clear he
  clear h hS1
  go_enter Try.func49, Try.ntmps49
  go_wp2_with fail
  refine (HhT.out _).mono ?_
  rintro e w1 ⟨rfl, rfl⟩
  go_upto_region 1 with fail
  obtain ⟨W1, hW1⟩ : ∃ W1, W1 = W.setCell ⟨Bn, 1, none⟩ (.string (str t)) := ⟨_, rfl⟩
  rw [← hW1] at HS1 ⊢
  clear hW1 c1 f1 hlt
  have c1 := HS1.out.1.c1
  have c0 := HS1.out.1.c0
  have hlt := HS1.out.1.lt
  have f0 := HS1.out.1.f 0
  have f1 := HS1.out.1.f 1
  by_cases h0 : t = []
  · subst h0
    have hz1 := HS1.out.1.setNow 0 (.int .i64 0) 0 [] rfl
    have hz2 := hz1.1.setNow 1 (.string (str [])) 0 [] rfl
    have HZ := Lib.hid (And.intro hz2.1 (HS1.out.2.trans (hz1.2.trans hz2.2)))
    clear hz1 hz2
    go_wp2_with fail
    go_end0
    exact ⟨rfl, ⟨_, HZ.out.1⟩, HZ.out.2⟩
  · have hn : (!t.isEmpty) = true := by
      cases t with
      | nil => exact absurd rfl h0
      | cons x r => rfl
    have hn2 : t.isEmpty = false := by
      cases t with
      | nil => exact absurd rfl h0
      | cons x r => rfl
    have hrow := HS1.out.1.own
    obtain ⟨au, cu, rfl⟩ := own_form hrow
    have hbx := HS1.out.1.box.cell
    have hfb := HS1.out.1.box.frozen
    have hbl := HS1.out.1.box.lt
    have HSA := Lib.hid (HS1.out.1.ext' ((Ext.refl W1).alloc (.cells #[.int .i64 (num : Int), .string (str t)] 90)))
    have HKA := Lib.hid (K12.ext (Bn := Bn) (Bo := Bo) HS1.out.1.bs ((Ext.refl W1).alloc (.cells #[.int .i64 (num : Int), .string (str t)] 90)) (KeepsOthers.alloc _ _))
    have Hhrow := Lib.hid hrow
    clear hrow
    go_wp2_with (at_builtin
                 refine wpList_app_g rfl (.tmp 9) (.tmp 11) _ rfl Try.underlying66 infoN rfl (by decide) encN_len encN_one B0 _ _ xs [(num, t)] rfl rfl HSA.out.own (rd_lit encN_len W1 [(num, t)] _ _ rfl) (by simp; omega) (by decide) HSA.out.bs ?_
                 intro au5 cu5 w5 ho5 hg5
                 have hs5 := HSA.out.app hg5 ho5
                 have c5 : w5.cell? ⟨Bo, 0, none⟩ = some (.slice au xs.length cu) := hg5.cell HSA.out.box.cell (fun e => by have := (HSA.out.own.lt _ e.symm).1; have := HSA.out.ob; dsimp only at *; omega)
                 have f5 : w5.frozen? ⟨Bo, 0, none⟩ = false := (World.frozen?_of_block (a := ⟨Bo, 0, none⟩) (hg5.block Bo HSA.out.box.lt (fun e => by have := (HSA.out.own.lt _ e.symm).1; have := HSA.out.ob; omega))).trans HSA.out.box.frozen
                 have hb5 := World.block_lt_of_cell? _ _ c5
                 have c6 : w5.cell? ⟨Bn, 0, none⟩ = some (.int .i64 (num : Int)) := hg5.cell HSA.out.c0 (fun e => by have := (HSA.out.own.lt _ e.symm).1; have := HSA.out.nb; dsimp only at *; omega)
                 have c7 : w5.cell? ⟨Bn, 1, none⟩ = some (.string (str t)) := hg5.cell HSA.out.c1 (fun e => by have := (HSA.out.own.lt _ e.symm).1; have := HSA.out.nb; dsimp only at *; omega)
                 have f6 : ∀ j, w5.frozen? ⟨Bn, j, none⟩ = false := fun j => (World.frozen?_of_block (a := ⟨Bn, j, none⟩) (hg5.block Bn HSA.out.lt (fun e => by have := (HSA.out.own.lt _ e.symm).1; have := HSA.out.nb; omega))).trans (HSA.out.f j)
                 have hb6 := World.block_lt_of_cell? _ _ c6
                 have hno := HSA.out.no
                 have hno' : Bo ≠ Bn := fun e => hno e.symm
                 have HS5 := Lib.hid hs5
                 have f60 := f6 0
                 have f61 := f6 1
                 clear ho5 hg5 hs5 f6)
    go_end0
    have hz1 := HS5.out.1.setNow 0 (.int .i64 0) 0 t rfl
    have hz2 := hz1.1.setNow 1 (.string (str [])) 0 [] rfl
    exact ⟨rfl, ⟨_, hz2.1⟩, HS1.out.2.trans (HKA.out.trans (HS5.out.2.trans (hz1.2.trans hz2.2)))⟩
end L12
end Go.Proofs.Ytkmbahpjioopdaa
