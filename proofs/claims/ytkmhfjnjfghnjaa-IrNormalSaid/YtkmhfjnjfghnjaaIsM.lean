/- Layer 21: a rule that a call builds in a box of its own, test by test. -/
import Derived.Test.YtkmhfjnjfghnjaaIsB
namespace Go.Proofs.Ytkmhfjnjfghnjaa
open Go.RowKit V
namespace L21
/-- a rule in a box of a call's own, with its tests in memory of its own -/
structure NT (w : World) (B rn : Nat) (a : Option Addr) (k c x : Nat) (ts : List Test) (W : World) : Prop where
  ext : Ext w W
  hB : w.heap.size ≤ B
  b0 : W.cell? ⟨B, 0, none⟩ = some (.int .u32 (rn : Int))
  b1 : W.cell? ⟨B, 1, none⟩ = some (.slice a k c)
  b2 : W.cell? ⟨B, 2, none⟩ = some (.int .u32 (x : Int))
  f : ∀ j, W.frozen? ⟨B, j, none⟩ = false
  hk : k ≤ ts.length
  kc : k ≤ c
  good : Rd W 4 encT (.slice a k c) (ts.take k)
  own : OwnT W (B + 1) ⟨⟨rn, ts.take k, x⟩, a, c⟩
theorem NT.out {w : World} {B rn : Nat} {a : Option Addr} {k c x : Nat} {ts : List Test} {W : World} (h : NT w B rn a k c x ts W) (b o : Nat) (e : a = some ⟨b, o, none⟩) : B + 1 ≤ b ∧ o = 0 := by
  rcases h.own with ⟨h1, -⟩ | ⟨g, cur, h1, h2, h3⟩
  · dsimp only at h1; rw [h1] at e; cases e
  · dsimp only at h1; rw [h1] at e; simp at e; omega
theorem NT.nil {w : World} {B rn : Nat} {a : Option Addr} {k c x : Nat} {ts : List Test} {W : World} (h : NT w B rn a k c x ts W) : a = none → c = 0 := by
  obtain ⟨a', c', e, -, h2, -⟩ := h.good
  simp only [Value.slice.injEq] at e
  obtain ⟨rfl, -, rfl⟩ := e
  exact h2
theorem NT.cut {w : World} {B rn : Nat} {a : Option Addr} {k c x : Nat} {ts : List Test} {W : World} (h : NT w B rn a k c x ts W) {k' c' : Nat} (hk' : k' ≤ k) (hc : k' ≤ c') (hn : a = none → c' = 0) :
    NT w B rn a k' c' x ts (W.setCell ⟨B, 1, none⟩ (.slice a k' c')) := by
  have hne : ∀ b o, a = some ⟨b, o, none⟩ → b ≠ B := fun b o e => by have := h.out b o e; omega
  refine ⟨h.ext.setCell h.hB _, h.hB, ?_, ?_, ?_, fun j => (World.frozen?_setCell _ _ _ _).trans (h.f j), by have := h.hk; omega, hc, ?_, ?_⟩
  · rw [set_ne _ (by omega)]; exact h.b0
  · have := h.b1; simp [go_sem, this]
  · rw [set_ne _ (by omega)]; exact h.b2
  · have h1 := h.good.take (k := k') (c' := c') (by rw [List.length_take]; have := h.hk; omega) hc hn
    rw [List.take_take, Nat.min_eq_left hk'] at h1
    exact Rd.setCell h1 hne _
  · refine OwnT.setCell ?_ (by dsimp only; omega) _
    rcases h.own with ⟨h1, h2⟩ | ⟨g, cur, h1, h2, h3⟩
    · refine .inl ⟨h1, ?_⟩
      dsimp only at h2 ⊢
      have : (ts.take k).take k' = [] := by rw [h2, List.take_nil]
      rw [List.take_take, Nat.min_eq_left hk'] at this
      exact this
    · exact .inr ⟨g, cur, h1, h2, h3⟩
theorem NT.act {w : World} {B rn : Nat} {a : Option Addr} {k c x : Nat} {ts : List Test} {W : World} (h : NT w B rn a k c x ts W) (x' : Nat) :
    NT w B rn a k c x' ts (W.setCell ⟨B, 2, none⟩ (.int .u32 (x' : Int))) := by
  have hne : ∀ b o, a = some ⟨b, o, none⟩ → b ≠ B := fun b o e => by have := h.out b o e; omega
  refine ⟨h.ext.setCell h.hB _, h.hB, ?_, ?_, ?_, fun j => (World.frozen?_setCell _ _ _ _).trans (h.f j), h.hk, h.kc, ?_, ?_⟩
  · rw [set_ne _ (by omega)]; exact h.b0
  · rw [set_ne _ (by omega)]; exact h.b1
  · have := h.b2; simp [go_sem, this]
  · exact Rd.setCell h.good hne _
  · exact OwnT.setCell h.own (by dsimp only; omega) _
theorem NT.kept {w : World} {B rn : Nat} {a : Option Addr} {k c x : Nat} {ts : List Test} {W W' : World} (h : NT w B rn a k c x ts W) (hx : Ext W W') : NT w B rn a k c x ts W' :=
  ⟨h.ext.trans hx, h.hB, hx.cell h.b0, hx.cell h.b1, hx.cell h.b2, fun j => (World.frozen?_of_block (a := ⟨B, j, none⟩) (hx.block (k := B) (World.block_lt_of_cell? _ ⟨B, 0, none⟩ h.b0))).trans (h.f j), h.hk, h.kc, h.good.ext hx, h.own.ext hx⟩
theorem NT.pre {w : World} {B rn : Nat} {a : Option Addr} {k c x : Nat} {ts : List Test} {W : World} (h : NT w B rn a k c x ts W) {i : Nat} (hi : k ≤ i) : NT w B rn a k c x (ts.take i) W := by
  have e : (ts.take i).take k = ts.take k := by rw [List.take_take, Nat.min_eq_left hi]
  exact ⟨h.ext, h.hB, h.b0, h.b1, h.b2, h.f, by rw [List.length_take]; have := h.hk; omega, h.kc, by rw [e]; exact h.good, by rw [e]; exact h.own⟩
theorem NT.cellT {w : World} {B rn : Nat} {a : Option Addr} {k c x : Nat} {ts : List Test} {W : World} (h : NT w B rn a k c x ts W) {j : Nat} (hj : j < k) : ∃ g, a = some ⟨g, 0, none⟩ ∧ W.cell? ⟨g, j * 4 + 3, none⟩ = some (.int .u32 ((ts[j]'(by have := h.hk; omega)).action : Int)) := by
  have hk := h.hk
  obtain ⟨a', c', e, -, hc⟩ := rdT_cell h.good
  simp only [Value.slice.injEq] at e
  obtain ⟨rfl, -, rfl⟩ := e
  obtain ⟨b, o, rfl, -, -, -, h4⟩ := hc j (by rw [List.length_take]; omega)
  obtain ⟨-, rfl⟩ := h.out b o rfl
  refine ⟨b, rfl, ?_⟩
  rw [List.getElem_take, Nat.zero_add] at h4
  exact h4
/-- a rule in a box of a call's own, its tests a row of the call's own -/
structure RB (w : World) (rn : Nat) (v : Value) (x : Nat) (cs : List Test) (W : World) : Prop where
  ext : Ext w W
  b0 : W.cell? ⟨w.heap.size, 0, none⟩ = some (.int .u32 (rn : Int))
  b1 : W.cell? ⟨w.heap.size, 1, none⟩ = some v
  b2 : W.cell? ⟨w.heap.size, 2, none⟩ = some (.int .u32 (x : Int))
  f : ∀ j, W.frozen? ⟨w.heap.size, j, none⟩ = false
  own : W.ownsRow (w.heap.size + 1) 37 4 v cs.length (cs.flatMap encT)
theorem RB.lt {w W : World} {rn x : Nat} {v : Value} {cs : List Test} (h : RB w rn v x cs W) : w.heap.size < W.heap.size := World.block_lt_of_cell? _ ⟨w.heap.size, 0, none⟩ h.b0
theorem RB.kept {w W W' : World} {rn x : Nat} {v : Value} {cs : List Test} (h : RB w rn v x cs W) (hx : Ext W W') : RB w rn v x cs W' :=
  ⟨h.ext.trans hx, hx.cell h.b0, hx.cell h.b1, hx.cell h.b2, fun j => (World.frozen?_of_block (a := ⟨w.heap.size, j, none⟩) (hx.block h.lt)).trans (h.f j), own_ext h.own hx⟩
theorem RB.size {w W w' : World} {rn x : Nat} {v : Value} {cs : List Test} (h : RB w rn v x cs W) (hg : W.grownBy w' v.ownBlock) (j : Nat) (u : Value) (hu : W.cell? ⟨w.heap.size, j, none⟩ = some u) : w'.cell? ⟨w.heap.size, j, none⟩ = some u :=
  hg.cell hu (fun e => by have := (h.own.lt _ e.symm).1; dsimp only at this; omega)
theorem RB.frz {w W w' : World} {rn x : Nat} {v : Value} {cs : List Test} (h : RB w rn v x cs W) (hg : W.grownBy w' v.ownBlock) (j : Nat) : w'.frozen? ⟨w.heap.size, j, none⟩ = false :=
  (World.frozen?_of_block (a := ⟨w.heap.size, j, none⟩) (hg.block w.heap.size h.lt (fun e => by have := (h.own.lt _ e.symm).1; omega))).trans (h.f j)
theorem RB.app {w W w' : World} {rn x : Nat} {v v' : Value} {cs : List Test} {t : Test} (h : RB w rn v x cs W) (hg : W.grownBy w' v.ownBlock)
    (hown : w'.ownsRow (w.heap.size + 1) 37 4 v' (cs.length + 1) ((cs ++ [t]).flatMap encT)) : RB w rn v' x (cs ++ [t]) (w'.setCell ⟨w.heap.size, 1, none⟩ v') := by
  have hx : Ext w w' := h.ext.grown hg (fun k e => by have := (h.own.lt k e).1; omega)
  refine ⟨hx.setCell (Nat.le_refl _) _, ?_, ?_, ?_, fun j => (World.frozen?_setCell _ _ _ _).trans (h.frz hg j), by rw [List.length_append]; exact own_set hown (by dsimp only; omega) _⟩
  · rw [set_ne _ (by omega)]; exact h.size hg 0 _ h.b0
  · exact World.cell?_setCell_same' _ _ _ (by rw [h.size hg 1 _ h.b1]; rfl)
  · rw [set_ne _ (by omega)]; exact h.size hg 2 _ h.b2
theorem RB.act {w W : World} {rn x : Nat} {v : Value} {cs : List Test} (h : RB w rn v x cs W) (x' : Nat) : RB w rn v x' cs (W.setCell ⟨w.heap.size, 2, none⟩ (.int .u32 (x' : Int))) :=
  ⟨h.ext.setCell (Nat.le_refl _) _, by rw [set_ne _ (by omega)]; exact h.b0, by rw [set_ne _ (by omega)]; exact h.b1, World.cell?_setCell_same' _ _ _ (by rw [h.b2]; rfl), fun j => (World.frozen?_setCell _ _ _ _).trans (h.f j), own_set h.own (by dsimp only; omega) _⟩
theorem RB.nt {w W : World} {rn x c : Nat} {a : Option Addr} {cs : List Test} (h : RB w rn (.slice a cs.length c) x cs W) : NT w w.heap.size rn a cs.length c x cs W := by
  have hrd := rd_of_own encT_len h.own
  refine ⟨h.ext, Nat.le_refl _, h.b0, h.b1, h.b2, h.f, Nat.le_refl _, ?_, by rw [List.take_length]; exact hrd, ?_⟩
  · obtain ⟨a', c', e, h1, -⟩ := hrd
    simp only [Value.slice.injEq] at e
    obtain ⟨-, -, rfl⟩ := e
    exact h1
  · rw [List.take_length]
    exact (good_of_own h.own).2
theorem cutT_app (x : Nat) (rest : List Test) : ∀ pre : List Test, (∀ t ∈ pre, (t.mask == 0) = false) → cutT (pre ++ rest) x = (pre ++ (cutT rest x).1, (cutT rest x).2)
  | [], _ => rfl
  | t :: l, h => by
    have e : cutT (t :: (l ++ rest)) x = if (t.mask == 0) = true then ([], t.action) else (t :: (cutT (l ++ rest) x).1, (cutT (l ++ rest) x).2) := rfl
    rw [List.cons_append, e, if_neg (by rw [h t (.head _)]; simp), cutT_app x rest l (fun s hs => h s (.tail _ hs))]
    rfl
theorem cut_at {ts : List Test} {x k : Nat} (hk : k < ts.length) (h : ∀ t ∈ ts.take k, (t.mask == 0) = false) (hz : (ts[k].mask == 0) = true) : cutT ts x = (ts.take k, ts[k].action) := by
  have e : ts = ts.take k ++ ts.drop k := (List.take_append_drop k ts).symm
  conv => lhs; rw [e]
  rw [cutT_app x _ _ h, List.drop_eq_getElem_cons hk]
  have e2 : cutT (ts[k] :: ts.drop (k + 1)) x = ([], ts[k].action) := by
    rw [cutT, if_pos hz]
  rw [e2, List.append_nil]
end L21
end Go.Proofs.Ytkmhfjnjfghnjaa
