/- Layer 21: the walk of normal. -/
import Derived.Test.YtkmhfjnjfghnjaaIrV
import Derived.Test.YtkmhfjnjfghnjaaKept
namespace Go.Proofs.Ytkmhfjnjfghnjaa
open Go.RowKit V
namespace L21
theorem cut_idx : ∀ (ts : List Test) (x k : Nat), (idxA zeroT ts k = -1 ∧ cutT ts x = (ts, x)) ∨ ∃ i, ∃ h : i < ts.length, idxA zeroT ts k = ((k + i : Nat) : Int) ∧ cutT ts x = (ts.take i, (ts[i]'h).action)
  | [], x, k => .inl ⟨rfl, rfl⟩
  | t :: r, x, k => by
    cases hp : zeroT t
    · have hp' : ¬ (t.mask == 0) = true := by unfold zeroT at hp; rw [hp]; simp
      rcases cut_idx r x (k + 1) with ⟨h1, h2⟩ | ⟨i, h, h1, h2⟩
      · exact .inl ⟨by simp only [idxA, hp]; exact h1, by unfold cutT; rw [if_neg hp', h2]⟩
      · refine .inr ⟨i + 1, by simp; omega, ?_, by unfold cutT; rw [if_neg hp', h2]; rfl⟩
        simp only [idxA, hp]
        have e : ((k + 1 + i : Nat) : Int) = ((k + (i + 1) : Nat) : Int) := by omega
        rw [← e]; exact h1
    · have hp' : (t.mask == 0) = true := hp
      exact .inr ⟨0, by simp, by simp [idxA, hp], by unfold cutT; rw [if_pos hp']; rfl⟩
theorem Rd.setCell {α : Type} {w : World} {n : Nat} {enc : α → List Value} {a : Option Addr} {m c : Nat} {xs : List α} (h : Rd w n enc (.slice a m c) xs) {p : Addr} (hp : ∀ b o, a = some ⟨b, o, none⟩ → b ≠ p.block) (u : Value) : Rd (w.setCell p u) n enc (.slice a m c) xs := by
  obtain ⟨a', c', e, h1, h2, h3⟩ := h
  simp only [Value.slice.injEq] at e
  obtain ⟨rfl, rfl, rfl⟩ := e
  refine ⟨a, c, rfl, h1, h2, fun i hi => ?_⟩
  obtain ⟨b, o, e, hat⟩ := h3 i hi
  refine ⟨b, o, e, fun j hj => ?_⟩
  have hk := Keep.setCell (S := fun k => k ≠ p.block) w (p := p) (fun h => h rfl) u
  exact (hk.cell (p := ⟨b, _, none⟩) (hp b o e)).trans (hat j hj)
theorem OwnT.setCell {w : World} {base : Nat} {p : PR} (h : OwnT w base p) {q : Addr} (hq : q.block < base) (u : Value) : OwnT (w.setCell q u) base p := by
  rcases h with h | ⟨g, cur, h1, h2, h3⟩
  · exact .inl h
  · exact .inr ⟨g, cur, h1, h2, ((Keep.setCell (S := fun k => k ≠ q.block) w (p := q) (fun h => h rfl) u).block g (by omega)).trans h3⟩
/-- a rule in a box of a call's own, with its tests in memory of its own -/
structure NS (w : World) (B rn : Nat) (a : Option Addr) (k c x : Nat) (ts : List Test) (W : World) : Prop where
  ext : Ext w W
  hB : w.heap.size ≤ B
  b0 : W.cell? ⟨B, 0, none⟩ = some (.int .u32 (rn : Int))
  b1 : W.cell? ⟨B, 1, none⟩ = some (.slice a k c)
  b2 : W.cell? ⟨B, 2, none⟩ = some (.int .u32 (x : Int))
  f : ∀ j, W.frozen? ⟨B, j, none⟩ = false
  hk : k ≤ ts.length
  kc : k ≤ c
  good : Rd W 4 encT (.slice a k c) (ts.take k)
  own : OwnT W (B + 2) ⟨⟨rn, ts.take k, x⟩, a, c⟩
  y0 : W.cell? ⟨B + 1, 0, none⟩ = some (.int .u32 0)
  y1 : W.cell? ⟨B + 1, 1, none⟩ = some (.slice none 0 0)
  y2 : W.cell? ⟨B + 1, 2, none⟩ = some (.int .u32 0)
  fy : ∀ j, W.frozen? ⟨B + 1, j, none⟩ = false
theorem NS.out {w : World} {B rn : Nat} {a : Option Addr} {k c x : Nat} {ts : List Test} {W : World} (h : NS w B rn a k c x ts W) (b o : Nat) (e : a = some ⟨b, o, none⟩) : B + 2 ≤ b ∧ o = 0 := by
  rcases h.own with ⟨h1, -⟩ | ⟨g, cur, h1, h2, h3⟩
  · dsimp only at h1; rw [h1] at e; cases e
  · dsimp only at h1; rw [h1] at e; simp at e; omega
theorem NS.nil {w : World} {B rn : Nat} {a : Option Addr} {k c x : Nat} {ts : List Test} {W : World} (h : NS w B rn a k c x ts W) : a = none → c = 0 := by
  obtain ⟨a', c', e, -, h2, -⟩ := h.good
  simp only [Value.slice.injEq] at e
  obtain ⟨rfl, -, rfl⟩ := e
  exact h2
theorem set_ne {w : World} {B i j : Nat} (u : Value) (h : i ≠ j) : (w.setCell ⟨B, i, none⟩ u).cell? ⟨B, j, none⟩ = w.cell? ⟨B, j, none⟩ := by
  exact World.cell?_setCell_other _ _ _ _ (fun e => h (Addr.mk.inj e).2.1)
theorem NS.cut {w : World} {B rn : Nat} {a : Option Addr} {k c x : Nat} {ts : List Test} {W : World} (h : NS w B rn a k c x ts W) {k' c' : Nat} (hk' : k' ≤ k) (hc : k' ≤ c') (hn : a = none → c' = 0) :
    NS w B rn a k' c' x ts (W.setCell ⟨B, 1, none⟩ (.slice a k' c')) := by
  have hne : ∀ b o, a = some ⟨b, o, none⟩ → b ≠ B := fun b o e => by have := h.out b o e; omega
  refine ⟨h.ext.setCell h.hB _, h.hB, ?_, ?_, ?_, fun j => (World.frozen?_setCell _ _ _ _).trans (h.f j), by have := h.hk; omega, hc, ?_, ?_, by simpa [go_sem] using h.y0, by simpa [go_sem] using h.y1, by simpa [go_sem] using h.y2, fun j => (World.frozen?_setCell _ _ _ _).trans (h.fy j)⟩
  · rw [set_ne _ (by omega)]; exact h.b0
  · have := h.b1; simp [go_sem, this]
  · rw [set_ne _ (by omega)]; exact h.b2
  · have h1 := h.good.take (k := k') (c' := c') (by rw [List.length_take]; have := h.hk; omega) hc hn
    rw [List.take_take, Nat.min_eq_left hk'] at h1
    exact Rd.setCell h1 hne _
  · refine OwnT.setCell ?_ (by dsimp only; omega) _
    rcases h.own with ⟨h1, h2⟩ | ⟨g, cur, h1, h2, h3⟩
    · refine .inl ⟨h1, ?_⟩
      dsimp only at h2 ⊢
      have : (ts.take k).take k' = [] := by rw [h2, List.take_nil]
      rw [List.take_take, Nat.min_eq_left hk'] at this
      exact this
    · exact .inr ⟨g, cur, h1, h2, h3⟩
theorem NS.act {w : World} {B rn : Nat} {a : Option Addr} {k c x : Nat} {ts : List Test} {W : World} (h : NS w B rn a k c x ts W) (x' : Nat) :
    NS w B rn a k c x' ts (W.setCell ⟨B, 2, none⟩ (.int .u32 (x' : Int))) := by
  have hne : ∀ b o, a = some ⟨b, o, none⟩ → b ≠ B := fun b o e => by have := h.out b o e; omega
  refine ⟨h.ext.setCell h.hB _, h.hB, ?_, ?_, ?_, fun j => (World.frozen?_setCell _ _ _ _).trans (h.f j), h.hk, h.kc, ?_, ?_, by simpa [go_sem] using h.y0, by simpa [go_sem] using h.y1, by simpa [go_sem] using h.y2, fun j => (World.frozen?_setCell _ _ _ _).trans (h.fy j)⟩
  · rw [set_ne _ (by omega)]; exact h.b0
  · rw [set_ne _ (by omega)]; exact h.b1
  · have := h.b2; simp [go_sem, this]
  · exact Rd.setCell h.good hne _
  · exact OwnT.setCell h.own (by dsimp only; omega) _
theorem NS.kept {w : World} {B rn : Nat} {a : Option Addr} {k c x : Nat} {ts : List Test} {W W' : World} (h : NS w B rn a k c x ts W) (hx : Ext W W') : NS w B rn a k c x ts W' :=
  ⟨h.ext.trans hx, h.hB, hx.cell h.b0, hx.cell h.b1, hx.cell h.b2, fun j => (World.frozen?_of_block (a := ⟨B, j, none⟩) (hx.block (k := B) (World.block_lt_of_cell? _ ⟨B, 0, none⟩ h.b0))).trans (h.f j), h.hk, h.kc, h.good.ext hx, h.own.ext hx, hx.cell h.y0, hx.cell h.y1, hx.cell h.y2, fun j => (World.frozen?_of_block (a := ⟨B + 1, j, none⟩) (hx.block (k := B + 1) (World.block_lt_of_cell? _ ⟨B + 1, 0, none⟩ h.y0))).trans (h.fy j)⟩
theorem NS.pre {w : World} {B rn : Nat} {a : Option Addr} {k c x : Nat} {ts : List Test} {W : World} (h : NS w B rn a k c x ts W) {i : Nat} (hi : k ≤ i) : NS w B rn a k c x (ts.take i) W := by
  have e : (ts.take i).take k = ts.take k := by rw [List.take_take, Nat.min_eq_left hi]
  exact ⟨h.ext, h.hB, h.b0, h.b1, h.b2, h.f, by rw [List.length_take]; have := h.hk; omega, h.kc, by rw [e]; exact h.good, by rw [e]; exact h.own, h.y0, h.y1, h.y2, h.fy⟩
theorem NS.done {w : World} {B rn : Nat} {a : Option Addr} {k c x : Nat} {ts : List Test} {W : World} (h : NS w B rn a k c x ts W) (u0 u1 u2 : Value) :
    Ext w (((W.setCell ⟨B + 1, 0, none⟩ u0).setCell ⟨B + 1, 1, none⟩ u1).setCell ⟨B + 1, 2, none⟩ u2) ∧ GoodP (((W.setCell ⟨B + 1, 0, none⟩ u0).setCell ⟨B + 1, 1, none⟩ u1).setCell ⟨B + 1, 2, none⟩ u2) ⟨⟨rn, ts.take k, x⟩, a, c⟩ ∧
      OwnT (((W.setCell ⟨B + 1, 0, none⟩ u0).setCell ⟨B + 1, 1, none⟩ u1).setCell ⟨B + 1, 2, none⟩ u2) w.heap.size ⟨⟨rn, ts.take k, x⟩, a, c⟩ := by
  have hb := h.hB
  have hne : ∀ b o, a = some ⟨b, o, none⟩ → b ≠ B + 1 := fun b o e => by have := h.out b o e; omega
  refine ⟨((h.ext.setCell (by show _ ≤ B + 1; omega) _).setCell (by show _ ≤ B + 1; omega) _).setCell (by show _ ≤ B + 1; omega) _, ?_, ?_⟩
  · have e : (ts.take k).length = k := by rw [List.length_take]; have := h.hk; omega
    unfold GoodP PR.v
    dsimp only
    rw [e]
    exact Rd.setCell (Rd.setCell (Rd.setCell h.good hne _) hne _) hne _
  · exact OwnT.base (OwnT.setCell (OwnT.setCell (OwnT.setCell h.own (by show B + 1 < B + 2; omega) _) (by show B + 1 < B + 2; omega) _) (by show B + 1 < B + 2; omega) _) (by omega)
theorem NS.cellT {w : World} {B rn : Nat} {a : Option Addr} {k c x : Nat} {ts : List Test} {W : World} (h : NS w B rn a k c x ts W) {j : Nat} (hj : j < k) : ∃ g, a = some ⟨g, 0, none⟩ ∧ W.cell? ⟨g, j * 4 + 3, none⟩ = some (.int .u32 ((ts[j]'(by have := h.hk; omega)).action : Int)) := by
  have hk := h.hk
  obtain ⟨a', c', e, -, hc⟩ := rdT_cell h.good
  simp only [Value.slice.injEq] at e
  obtain ⟨rfl, -, rfl⟩ := e
  obtain ⟨b, o, rfl, -, -, -, h4⟩ := hc j (by rw [List.length_take]; omega)
  obtain ⟨-, rfl⟩ := h.out b o rfl
  refine ⟨b, rfl, ?_⟩
  rw [List.getElem_take, Nat.zero_add] at h4
  exact h4
theorem trimN_step {ts : List Test} {x k : Nat} (h : k < ts.length) : trimN ts x (k + 1) = if (ts[k].action == x) = true then trimN ts x k else k + 1 := by
  rw [trimN, List.getD_eq_getElem?_getD, List.getElem?_eq_getElem h]; rfl
theorem NS.start {w w1 : World} {B rn x : Nat} {a : Option Addr} {c : Nat} {ts : List Test} (hx : Ext w w1) (hB : w.heap.size ≤ B) {v0 v1 v2 : Value} (z0 : w1.cell? ⟨B, 0, none⟩ = some v0) (z1 : w1.cell? ⟨B, 1, none⟩ = some v1) (z2 : w1.cell? ⟨B, 2, none⟩ = some v2)
    (f : ∀ j, w1.frozen? ⟨B, j, none⟩ = false) (y0 : w1.cell? ⟨B + 1, 0, none⟩ = some (.int .u32 0)) (y1 : w1.cell? ⟨B + 1, 1, none⟩ = some (.slice none 0 0)) (y2 : w1.cell? ⟨B + 1, 2, none⟩ = some (.int .u32 0)) (fy : ∀ j, w1.frozen? ⟨B + 1, j, none⟩ = false)
    (ho : w1.ownsRow (B + 2) 37 4 (.slice a ts.length c) ts.length (ts.flatMap encT)) :
    NS w B rn a ts.length c x ts (((w1.setCell ⟨B, 0, none⟩ (.int .u32 (rn : Int))).setCell ⟨B, 1, none⟩ (.slice a ts.length c)).setCell ⟨B, 2, none⟩ (.int .u32 (x : Int))) := by
  have hrd := rd_of_own encT_len ho
  have hne : ∀ b o, a = some ⟨b, o, none⟩ → b ≠ B := fun b o e => by
    rcases ho.2 with ⟨h1, -⟩ | ⟨g, cap, cur, h1, hg, -⟩
    · simp only [Value.slice.injEq] at h1; rw [h1.1] at e; cases e
    · simp only [Value.slice.injEq] at h1
      rw [h1.1] at e
      simp only [Option.some.injEq, Addr.mk.injEq] at e
      omega
  refine ⟨((hx.setCell hB _).setCell hB _).setCell hB _, hB, ?_, ?_, ?_, fun j => ?_, Nat.le_refl _, ?_, ?_, ?_, ?_, ?_, ?_, fun j => ?_⟩
  · simp [go_sem, z0]
  · simp [go_sem, z1]
  · simp [go_sem, z2]
  · rw [World.frozen?_setCell, World.frozen?_setCell, World.frozen?_setCell]; exact f j
  · obtain ⟨a', c', e, h1, -⟩ := hrd
    simp only [Value.slice.injEq] at e
    obtain ⟨-, -, rfl⟩ := e
    exact h1
  · rw [List.take_length]
    exact Rd.setCell (Rd.setCell (Rd.setCell hrd hne _) hne _) hne _
  · refine OwnT.setCell (OwnT.setCell (OwnT.setCell ?_ (by dsimp only; omega) _) (by dsimp only; omega) _) (by dsimp only; omega) _
    rcases ho.2 with ⟨h1, h2⟩ | ⟨g, cap, cur, h1, hg, hh, -⟩
    · simp only [Value.slice.injEq] at h1
      exact .inl ⟨h1.1, by rw [List.take_length]; exact List.eq_nil_of_length_eq_zero h2⟩
    · simp only [Value.slice.injEq] at h1
      exact .inr ⟨g, cur, h1.1, hg, hh⟩
  · simp [go_sem, y0]
  · simp [go_sem, y1]
  · simp [go_sem, y2]
  · rw [World.frozen?_setCell, World.frozen?_setCell, World.frozen?_setCell]; exact fy j
end L21
end Go.Proofs.Ytkmhfjnjfghnjaa
