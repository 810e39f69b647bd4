import Derived.Test.YtkmhfjnjfghnjaaMq19
/- Layer 25: what is done later: the walk of a jump's closure. -/
namespace Go.Proofs.Ytkmhfjnjfghnjaa
open Go.RowKit V
namespace L25W
open L25 (Sy encY encY_len encY_one)
open L21 (own_set own_ext own_typed set_ne)
theorem WK.cell {W : World} {g : Nat} {cur : Array Value} (hg : W.heap[g]? = some (.cells cur 70 (0, 0))) (i : Nat) (u : Value) : WK (fun _ => False) W (W.setCell ⟨g, i, none⟩ u) :=
  ⟨by rw [size_set]; exact Nat.le_refl _, fun k cs t fr _ h0 h1 _ _ => (Below.heap_setCell _ _ _ k (fun e => by
    rw [e] at h0
    have := Option.some.inj (h0.symm.trans hg)
    simp only [Obj.cells.injEq] at this
    exact h1 this.2.1)).trans h0⟩
theorem WS.patch {w0 W : World} {B g c : Nat} {v2 : Value} {ls : List Sy} {js : List Jm} (h : WS w0 B (.slice (some ⟨g, 0, none⟩) ls.length c) v2 ls js W) {i jx : Nat} {u : Value} {y : Sy} (hi : i < ls.length) (hjx : jx < 4)
    (he : encY y = (encY (ls[i]'hi)).set jx u) :
    WS w0 B (.slice (some ⟨g, 0, none⟩) ls.length c) v2 (ls.set i y) js (W.setCell ⟨g, i * 4 + jx, none⟩ u) ∧ WK (fun _ => False) W (W.setCell ⟨g, i * 4 + jx, none⟩ u) := by
  obtain ⟨hown, hg⟩ := own_store encY_len h.own i jx u y hi hjx he
  obtain ⟨cur, hc⟩ := own_typed h.own g rfl
  have hk := WK.cell hc (i * 4 + jx) u
  have hlt := h.own.lt g rfl
  refine ⟨⟨h.ext.setCell (by have := h.hB; dsimp only; omega) _, h.hB, (Below.heap_setCell _ _ _ B (fun e => by dsimp only at e; omega)).trans h.box, by rw [List.length_set]; exact hown, own_other h.late hg (fun b hb => rows_ne h.late h.own (by decide) b hb), fun j hj => ?_⟩, hk⟩
  obtain ⟨h1, h2⟩ := h.jok j hj
  exact ⟨h1.kept hk (fun k hk => hk.elim), by rw [List.length_set]; exact h2⟩
theorem hkb {W : World} {X : Nat → Prop} {W' : World} (h : WK X W W') {k : Nat} {v : Value} (hb : Boxed W k 98 v) (hx : ¬ X k) : Boxed W' k 98 v := h.boxed hb hx (by decide) (by decide) (by decide)
set_option maxRecDepth 100000 in
set_option maxHeartbeats 1000000 in
theorem patch_calls {w0 W : World} {B : Nat} {v v2 : Value} {ls : List Sy} {js : List Jm} (h : WS w0 B v v2 ls js W) {j : Jm} (hj : JOk W B j) (hat : j.at_ < ls.length) (hl : ls.length ≤ 1000000) (n m : Int) (ht : Boxed W j.th 98 (.int .i64 n))
    (ho : j.code = 5 ∨ ∃ eb, j.el = some eb ∧ Boxed W eb 98 (.int .i64 m)) :
    Calls Try.prog 98 #[pv j.bt, pv j.bw, pv j.ba, pv j.bc, pv j.bo] W fun e w' => e = .returned (.tuple #[]) ∧
      WS w0 B v v2 (ls.set j.at_ ⟨(ls[j.at_]'hat).c, (ls[j.at_]'hat).k, n, if j.code = 5 then (ls[j.at_]'hat).el else m⟩) js w' ∧ WK (fun _ => False) W w' := by
  obtain ⟨i, code, th, el, bt, bw, ba, bc, bo⟩ := j
  dsimp only at *
  have hat' : i < ls.length := hat
  obtain ⟨g, c, rfl, hgB, hgl, hgf⟩ := own_parts h.own (by omega)
  obtain ⟨a', c', e', -, hcell⟩ := L25.rdY_cell (rd_of_own encY_len h.own)
  simp only [Value.slice.injEq] at e'
  obtain ⟨rfl, -, rfl⟩ := e'
  obtain ⟨b', o', e', r0, r1, r2, r3⟩ := hcell i hat
  simp only [Option.some.injEq, Addr.mk.injEq, and_true] at e'
  obtain ⟨rfl, rfl⟩ := e'
  rw [Nat.zero_add] at r2 r3
  have i0 : (0 : Int) ≤ (i : Int) := by omega
  have i1 : (i : Int) < (ls.length : Int) := by omega
  have y2 : encY ⟨(ls[i]'hat).c, (ls[i]'hat).k, n, (ls[i]'hat).el⟩ = (encY (ls[i]'hat)).set 2 (.int .i64 n) := rfl
  have HP := Lib.hid (h.patch hat (by decide) y2)
  have f2 := hgf (i * 4 + 2)
  have k1 := hj.t.cell
  have k2 := hj.w.cell
  have k3 := hj.a.cell
  have k4 := hj.c.cell
  have k5 := ht.cell
  have b0 := h.b0
  dsimp only at k1 k2 k3 k4
  unfold pv at k1 k2 ⊢
  have HS := Lib.hid h
  have HJ := Lib.hid hj
  have HT := Lib.hid ht
  have HO := Lib.hid ho
  have HF := Lib.hid hgf
  clear h hj ht ho hgf r0 r1 r3 hcell
  go_enter Try.func98, Try.ntmps98
  go_wp2_with fail
  go_region
  generalize hW1 : World.drew _ = W1
  have HP1 : Hid (WS w0 B (.slice (some ⟨g, 0, none⟩) ls.length c) v2 (ls.set i ⟨(ls[i]'hat).c, (ls[i]'hat).k, n, (ls[i]'hat).el⟩) js W1 ∧ WK (fun _ => False) W W1 ∧ ∀ j, W1.frozen? ⟨g, j, none⟩ = false) := by
    rw [← hW1]
    exact Lib.hid ⟨HP.out.1.kept ((Ext.refl _).drew), HP.out.2.trans (WK.ext ((Ext.refl _).drew)), fun j => (World.frozen?_setCell _ _ _ _).trans (HF.out j)⟩
  clear hW1 k1 k2 k3 k4 k5 b0 f2 r2
  have hj1 := HJ.out.kept HP1.out.2.1 (fun _ h => h.elim)
  have k1 := hj1.t.cell
  have k2 := hj1.w.cell
  have k3 := hj1.a.cell
  have k4 := hj1.c.cell
  have k6 := hj1.o.cell
  have b0 := HP1.out.1.b0
  have f2 := HP1.out.2.2 (i * 4 + 3)
  dsimp only at k1 k2 k3 k4 k6
  unfold pv at k1 k2
  have HJ1 := Lib.hid hj1
  clear hj1
  have hll : (ls.set i (⟨(ls[i]'hat).c, (ls[i]'hat).k, n, (ls[i]'hat).el⟩ : Sy)).length = ls.length := List.length_set
  obtain ⟨ls1, hls1⟩ : ∃ ls1, ls1 = ls.set i (⟨(ls[i]'hat).c, (ls[i]'hat).k, n, (ls[i]'hat).el⟩ : Sy) := ⟨_, rfl⟩
  rw [← hls1] at HP1 hll
  have hat1 : i < ls1.length := by rw [hll]; exact hat'
  have hg1 : ls1[i]'hat1 = ⟨(ls[i]'hat).c, (ls[i]'hat).k, n, (ls[i]'hat).el⟩ := by simp only [hls1, List.getElem_set_self]
  by_cases hcode : code = 5
  · have hq : ((code : Int) != 5) = false := by rw [hcode]; rfl
    have HC := Lib.hid hcode
    clear hcode
    go_wp2_with fail
    go_end0
    refine ⟨rfl, ?_, HP1.out.2.1⟩
    have e : (⟨(ls[i]'hat).c, (ls[i]'hat).k, n, if code = 5 then (ls[i]'hat).el else m⟩ : Sy) = ⟨(ls[i]'hat).c, (ls[i]'hat).k, n, (ls[i]'hat).el⟩ := by rw [if_pos HC.out]
    first | (have h9 := HP1.out.1; rw [hls1] at h9; exact h9) | (rw [e, ← hls1]; exact HP1.out.1) | (have h9 := HP1.out.1; rw [hls1, ← e] at h9; exact h9)
  · have hq : ((code : Int) != 5) = true := by simp; omega
    have hO := HO.out
    rcases hO with h9 | ⟨eb, rfl, hob⟩
    · exact absurd h9 hcode
    have HC := Lib.hid hcode
    clear hcode
    have k7 := (hkb HP1.out.2.1 hob (fun h => h.elim)).cell
    simp only [Option.map_some] at k6
    have y3 : encY ⟨(ls[i]'hat).c, (ls[i]'hat).k, n, m⟩ = (encY (ls1[i]'hat1)).set 3 (.int .i64 m) := by rw [hg1]; rfl
    have hown1 := HP1.out.1.own
    obtain ⟨a', c', e', -, hcell⟩ := L25.rdY_cell (rd_of_own encY_len (by rw [← hll] at hown1; exact hown1))
    simp only [Value.slice.injEq] at e'
    obtain ⟨rfl, -, rfl⟩ := e'
    obtain ⟨b', o', e', -, -, -, r3⟩ := hcell i hat1
    simp only [Option.some.injEq, Addr.mk.injEq, and_true] at e'
    obtain ⟨rfl, rfl⟩ := e'
    rw [Nat.zero_add] at r3
    have Y3 := Lib.hid y3
    clear y3 hown1 hcell hob
    go_wp2_with fail
    go_region
    go_wp2_with fail
    go_end0
    have h1 : WS w0 B (.slice (some ⟨g, 0, none⟩) ls1.length c) v2 ls1 js W1 := by rw [hll]; exact HP1.out.1
    have h2 := h1.patch hat1 (by decide) Y3.out
    have e : (⟨(ls[i]'hat).c, (ls[i]'hat).k, n, if code = 5 then (ls[i]'hat).el else m⟩ : Sy) = ⟨(ls[i]'hat).c, (ls[i]'hat).k, n, m⟩ := by rw [if_neg HC.out]
    have e2 : ls1.set i ⟨(ls[i]'hat).c, (ls[i]'hat).k, n, m⟩ = ls.set i ⟨(ls[i]'hat).c, (ls[i]'hat).k, n, m⟩ := by rw [hls1, List.set_set]
    rw [hll, e2] at h2
    refine ⟨rfl, ?_, HP1.out.2.1.trans (h2.2.trans (WK.ext ((Ext.refl _).drew)))⟩
    have h3 := h2.1.kept ((Ext.refl _).drew)
    first | exact h3 | (rw [e]; exact h3) | (simp only [HC.out, if_false]; exact h3)
end L25W
end Go.Proofs.Ytkmhfjnjfghnjaa

/- Layer 25: the walk of the writer's done. -/
namespace Go.Proofs.Ytkmhfjnjfghnjaa
open Go.RowKit V
namespace L25W
open L25 (Sy encY encY_len encY_one)
open L21 (own_set own_ext own_typed set_ne)
/-- what one closure does to the row, the labels' places being known -/
def patch (pt pe : Jm → Int) (ls : List Sy) (j : Jm) : List Sy :=
  match ls[j.at_]? with
  | none => ls
  | some s => ls.set j.at_ ⟨s.c, s.k, pt j, if j.code = 5 then s.el else pe j⟩
theorem patch_len (pt pe : Jm → Int) (ls : List Sy) (j : Jm) : (patch pt pe ls j).length = ls.length := by
  unfold patch; split <;> simp
theorem fold_len (pt pe : Jm → Int) : ∀ (js : List Jm) (ls : List Sy), (js.foldl (patch pt pe) ls).length = ls.length
  | [], _ => rfl
  | j :: js, ls => by rw [List.foldl_cons, fold_len pt pe js, patch_len]
theorem patch_at (pt pe : Jm → Int) {ls : List Sy} {j : Jm} (h : j.at_ < ls.length) : patch pt pe ls j = ls.set j.at_ ⟨(ls[j.at_]'h).c, (ls[j.at_]'h).k, pt j, if j.code = 5 then (ls[j.at_]'h).el else pe j⟩ := by
  unfold patch; rw [List.getElem?_eq_getElem h]
theorem fold_take (pt pe : Jm → Int) {js : List Jm} {k : Nat} (h : k < js.length) (ls : List Sy) : (js.take (k + 1)).foldl (patch pt pe) ls = patch pt pe ((js.take k).foldl (patch pt pe) ls) (js[k]'h) := by
  rw [List.take_succ_eq_append_getElem h, List.foldl_append]; rfl
/-- the labels that jumps lead to have their places -/
def Labs (W : World) (pt pe : Jm → Int) (js : List Jm) : Prop := ∀ j ∈ js, Boxed W j.th 98 (.int .i64 (pt j)) ∧ (j.code = 5 ∨ ∃ eb, j.el = some eb ∧ Boxed W eb 98 (.int .i64 (pe j)))
theorem Labs.kept {W W' : World} {pt pe : Jm → Int} {js : List Jm} (h : Labs W pt pe js) (hk : WK (fun _ => False) W W') : Labs W' pt pe js := fun j hj => by
  obtain ⟨h1, h2⟩ := h j hj
  refine ⟨hkb hk h1 (fun h => h.elim), ?_⟩
  rcases h2 with h2 | ⟨eb, h2, h3⟩
  · exact .inl h2
  · exact .inr ⟨eb, h2, hkb hk h3 (fun h => h.elim)⟩
set_option maxRecDepth 100000 in
set_option maxHeartbeats 1000000 in
theorem done_calls {w0 W : World} {B : Nat} {v v2 : Value} {ls : List Sy} {js : List Jm} (h : WS w0 B v v2 ls js W) (hl : ls.length ≤ 1000000) (hjl : js.length ≤ 1000000) (pt pe : Jm → Int) (hlab : Labs W pt pe js) :
    Calls Try.prog 71 #[pv B] W fun e w' => e = .returned v ∧ WS w0 B v v2 (js.foldl (patch pt pe) ls) js w' ∧ WK (fun _ => False) W w' := by
  have HS := Lib.hid h
  have HL := Lib.hid hlab
  have b1 := h.b1
  obtain ⟨au, cu, rfl⟩ := own_form h.own
  obtain ⟨au2, cu2, rfl⟩ := own_form h.late
  clear h hlab
  unfold pv
  go_enter Try.func71, Try.ntmps71
  go_wp2_with fail
  go_loopw [10] (fun i wr => ∃ k : Nat, k ≤ js.length ∧ i = .int .i64 k ∧ WS w0 B (.slice au ls.length cu) (.slice au2 js.length cu2) ((js.take k).foldl (patch pt pe) ls) js wr ∧ WK (fun _ => False) W wr) (fun i _ => js.length - (intOf i).toNat)
  case atStart => exact ⟨0, by omega, rfl, HS.out, WK.refl _ _⟩
  case round =>
    obtain ⟨k, hk, rfl, hs, hkw⟩ := hrel
    clear b1
    have b0 := hs.b0
    have hlen : ((js.take k).foldl (patch pt pe) ls).length = ls.length := fold_len _ _ _ _
    by_cases hlt : k < js.length
    · have hlt2 : (k : Int) < (js.length : Int) := by omega
      obtain ⟨a', c', e', -, -, hcell⟩ := rd_of_own encJ_len hs.late
      simp only [Value.slice.injEq] at e'
      obtain ⟨rfl, -, rfl⟩ := e'
      obtain ⟨g2, o2, rfl, hc⟩ := hcell k hlt
      have c0 := hc 0 (by rw [encJ_len]; decide)
      obtain ⟨hjo, hja⟩ := hs.jok _ (List.getElem_mem hlt)
      have hlb := (HL.out.kept hkw) _ (List.getElem_mem hlt)
      have hft := fold_take pt pe hlt ls
      obtain ⟨j, hj⟩ : ∃ j, j = js[k]'hlt := ⟨_, rfl⟩
      rw [← hj] at c0 hjo hja hlb hft
      have hP := patch_calls hs hjo hja (by omega) (pt j) (pe j) hlb.1 hlb.2
      rw [← patch_at pt pe hja, ← hft] at hP
      simp only [encJ, Jm.val, List.getElem_cons_zero, Nat.mul_one, Nat.add_zero] at c0
      have HP := Lib.hid hP
      have HKW := Lib.hid hkw
      clear hs hjo hja hlb hft hP hc hcell hkw hj
      unfold pv at c0
      go_wp2_with fail
      refine HP.out.mono ?_
      rintro e w' ⟨rfl, hs', hk'⟩
      have HH := Lib.hid (And.intro hs' (HKW.out.trans hk'))
      clear hs' hk'
      go_wp2_with fail
      go_roundw
      case rel => exact ⟨k + 1, by omega, by go_num, HH.out⟩
      case measure => simp [intOf]; omega
    · obtain rfl : k = js.length := by omega
      rw [List.take_length] at hs
      have HH := Lib.hid (And.intro hs hkw)
      clear hs hkw
      go_wp2_with fail
      go_ret
      exact ⟨rfl, HH.out⟩
end L25W
end Go.Proofs.Ytkmhfjnjfghnjaa

