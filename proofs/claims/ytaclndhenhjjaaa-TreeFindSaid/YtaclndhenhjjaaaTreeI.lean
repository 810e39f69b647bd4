/- Layer 24: the walk of the reference's Depth. -/
import Derived.Test.YtaclndhenhjjaaaTreeC
import Derived.Test.YtaclndhenhjjaaaTreeH
namespace Go.Proofs.Ytaclndhenhjjaaa
open Go.RowKit V
namespace L24
open L23
def encB (b : Bool) : List Value := [.bool b]
theorem encB_len (b : Bool) : (encB b).length = 1 := rfl
theorem infoB : (Try.prog.info? 4).map (fun i => (i.zero, i.size, i.bytes)) = some (some (.bool false), 1, 1) := by kernel_rfl
def OwnB (w : World) (base : Nat) (v : Value) (xs : List Bool) : Prop := w.ownsRow base 4 1 v xs.length (xs.flatMap encB)
theorem made_bool (n : Nat) : (madeCells (Value.bool false).cells (n * 1)).toList = (List.replicate n false).flatMap encB := by
  rw [Nat.mul_one]
  apply List.ext_getElem?
  intro i
  rw [show ((List.replicate n false).flatMap encB) = List.replicate n (Value.bool false) by
    induction n with
    | zero => rfl
    | succ n ih => rw [List.replicate_succ, List.flatMap_cons, ih]; rfl]
  unfold madeCells
  by_cases h : i < n
  · simp [h, Value.cells, Nat.mod_one]
  · simp [h]
/-- what is known ahead of a place: which nodes are reached, how far; the most -/
structure DI (t : List Node) (i : Nat) (ls : List Nat) (rs : List Bool) (most : Nat) : Prop where
  l : ls.length = t.length
  r : rs.length = t.length
  z : ∀ j (h : j < rs.length) (h' : j < ls.length), rs[j] = false → ls[j] = 0
  a : ∀ j (h : j < rs.length) (h' : j < ls.length), rs[j] = true → ls[j] + dpt t j ≤ dpt t 0
  m : ∀ j (h : j < rs.length) (h' : j < ls.length), rs[j] = true → ls[j] ≤ most
  u : most ≤ dpt t 0
  b : most = dpt t 0 ∨ ∃ j, ∃ (h : j < rs.length), ∃ (h' : j < ls.length), i ≤ j ∧ rs[j] = true ∧ ls[j] + dpt t j = dpt t 0
theorem DI.start {t : List Node} (h : 0 < t.length) : DI t 0 (List.replicate t.length 0) ((List.replicate t.length false).set 0 true) 0 := by
  refine ⟨by simp, by simp, ?_, ?_, ?_, by omega, .inr ⟨0, by simp; omega, by simp; omega, Nat.le_refl _, by simp, by simp⟩⟩
  · intro j h1 h2 _; simp
  · intro j h1 h2 hr
    rw [List.getElem_set] at hr
    split at hr
    · rename_i e; subst e; simp
    · simp at hr
  · intro j h1 h2 _; simp
theorem DI.skip {t : List Node} {i : Nat} {ls : List Nat} {rs : List Bool} {most : Nat} (h : DI t i ls rs most) (hi : i < rs.length) (hr : rs[i] = false) : DI t (i + 1) ls rs most := by
  refine ⟨h.l, h.r, h.z, h.a, h.m, h.u, ?_⟩
  rcases h.b with hb | ⟨j, h1, h2, h3, h4, h5⟩
  · exact .inl hb
  · refine .inr ⟨j, h1, h2, ?_, h4, h5⟩
    by_cases e : i = j
    · subst e; rw [hr] at h4; cases h4
    · omega
theorem DI.leaf {t : List Node} {i : Nat} {ls : List Nat} {rs : List Bool} {most : Nat} (h : DI t i ls rs most) (hi : i < t.length) (hl : t[i].leaf = true) : DI t (i + 1) ls rs most := by
  refine ⟨h.l, h.r, h.z, h.a, h.m, h.u, ?_⟩
  rcases h.b with hb | ⟨j, h1, h2, h3, h4, h5⟩
  · exact .inl hb
  · by_cases e : i = j
    · subst e
      rw [dpt_leaf hi hl] at h5
      have := h.m i h1 h2 h4
      have := h.u
      exact .inl (by omega)
    · exact .inr ⟨j, h1, h2, by omega, h4, h5⟩
/-- one child of a node reached: its place, how far it is now -/
theorem DI.child {t : List Node} {i p : Nat} {ls : List Nat} {rs : List Bool} {most : Nat} (h : DI t i ls rs most) (hi : i < rs.length) (hi' : i < ls.length) (hr : rs[i] = true) (hp : p < rs.length) (hp' : p < ls.length) (_ : i < p)
    (hd : dpt t p + 1 ≤ dpt t i) (nl : Nat) (hnl : nl = max ls[p] (ls[i] + 1)) (nm : Nat) (hnm : nm = max most nl) :
    DI t i (ls.set p nl) (rs.set p true) nm := by
  have hia := h.a i hi hi' hr
  have hnl2 : nl + dpt t p ≤ dpt t 0 := by
    by_cases hrp : rs[p] = true
    · have := h.a p hp hp' hrp; omega
    · have := h.z p hp hp' (by simpa using hrp); omega
  have hu := h.u
  refine ⟨by rw [List.length_set]; exact h.l, by rw [List.length_set]; exact h.r, ?_, ?_, ?_, by omega, ?_⟩
  · intro j h1 h2 hrj
    rw [List.length_set] at h1 h2
    rw [List.getElem_set] at hrj ⊢
    split at hrj
    · cases hrj
    · rename_i e; rw [if_neg e]; exact h.z j h1 h2 hrj
  · intro j h1 h2 hrj
    rw [List.length_set] at h1 h2
    rw [List.getElem_set] at hrj ⊢
    split
    · rename_i e; subst e; exact hnl2
    · rename_i e; rw [if_neg e] at hrj; exact h.a j h1 h2 hrj
  · intro j h1 h2 hrj
    rw [List.length_set] at h1 h2
    rw [List.getElem_set] at hrj ⊢
    split
    · omega
    · rename_i e; rw [if_neg e] at hrj; have := h.m j h1 h2 hrj; omega
  · rcases h.b with hb | ⟨j, h1, h2, h3, h4, h5⟩
    · exact .inl (by omega)
    · by_cases e : p = j
      · subst e
        refine .inr ⟨p, by rw [List.length_set]; exact hp, by rw [List.length_set]; exact hp', h3, by simp, ?_⟩
        have e1 : (ls.set p nl)[p]'(by rw [List.length_set]; exact hp') = nl := by simp
        rw [e1]
        omega
      · refine .inr ⟨j, by rw [List.length_set]; exact h1, by rw [List.length_set]; exact h2, h3, ?_, ?_⟩
        · rw [List.getElem_set, if_neg e]; exact h4
        · rw [List.getElem_set, if_neg e]; exact h5
/-- both children done: one of them goes as deep -/
theorem DI.next {t : List Node} {i p q : Nat} {ls : List Nat} {rs : List Bool} {most : Nat} (h : DI t i ls rs most) (hi' : i < ls.length) (hp : p < rs.length) (hp' : p < ls.length) (hq : q < rs.length) (hq' : q < ls.length) (hip : i < p) (hiq : i < q)
    (hrp : rs[p] = true) (hrq : rs[q] = true) (h1 : ls[i] + 1 ≤ ls[p]) (h2 : ls[i] + 1 ≤ ls[q]) (hd : dpt t i = 1 + max (dpt t p) (dpt t q)) : DI t (i + 1) ls rs most := by
  refine ⟨h.l, h.r, h.z, h.a, h.m, h.u, ?_⟩
  rcases h.b with hb | ⟨j, g1, g2, g3, g4, g5⟩
  · exact .inl hb
  · by_cases e : i = j
    · subst e
      have a1 := h.a p hp hp' hrp
      have a2 := h.a q hq hq' hrq
      by_cases hm : dpt t q ≤ dpt t p
      · exact .inr ⟨p, hp, hp', by omega, hrp, by omega⟩
      · exact .inr ⟨q, hq, hq', by omega, hrq, by omega⟩
    · exact .inr ⟨j, g1, g2, by omega, g4, g5⟩
theorem DI.fin {t : List Node} {ls : List Nat} {rs : List Bool} {most : Nat} (h : DI t t.length ls rs most) : most = dpt t 0 := by
  rcases h.b with hb | ⟨j, g1, g2, g3, g4, g5⟩
  · exact hb
  · have := h.r; omega
/-- what is known while the children of a node are gone through -/
structure RI (t : List Node) (i p q k : Nat) (ls : List Nat) (rs : List Bool) (most : Nat) : Prop where
  d : DI t i ls rs most
  r : ∀ (h : i < rs.length), rs[i] = true
  k1 : 1 ≤ k → ∀ (h : p < rs.length) (h' : p < ls.length) (h'' : i < ls.length), rs[p] = true ∧ ls[i] + 1 ≤ ls[p]
  k2 : 2 ≤ k → ∀ (h : q < rs.length) (h' : q < ls.length) (h'' : i < ls.length), rs[q] = true ∧ ls[i] + 1 ≤ ls[q]
theorem set_self {α : Type} (ls : List α) (n : Nat) (h : n < ls.length) : ls.set n ls[n] = ls := by
  apply List.ext_getElem
  · simp
  · intro j h1 h2
    rw [List.getElem_set]
    split
    · rename_i e; subst e; rfl
    · rfl
theorem RI.step {t : List Node} {i p q k : Nat} {ls : List Nat} {rs : List Bool} {most : Nat} (h : RI t i p q k ls rs most) (hk : k < 2) (hip : i < p) (hiq : i < q) (hd : dpt t i = 1 + max (dpt t p) (dpt t q))
    (n : Nat) (hn : n = if k = 0 then p else q) (h1 : n < ls.length) (h2 : i < ls.length) (nl : Nat) (hnl : nl = max ls[n] (ls[i] + 1)) (nm : Nat) (hnm : nm = max most nl) : RI t i p q (k + 1) (ls.set n nl) (rs.set n true) nm := by
  have hll := h.d.l
  have hrl := h.d.r
  have hin : i < n := by rw [hn]; split <;> omega
  have hdn : dpt t n + 1 ≤ dpt t i := by rw [hn]; split <;> omega
  have hir := h.r (by omega)
  have keep : ∀ x (hx : x < rs.length) (hx' : x < ls.length) (hi : i < ls.length), rs[x] = true → ls[i] + 1 ≤ ls[x] → (rs.set n true)[x]'(by rw [List.length_set]; exact hx) = true ∧ (ls.set n nl)[i]'(by rw [List.length_set]; exact hi) + 1 ≤ (ls.set n nl)[x]'(by rw [List.length_set]; exact hx') := by
    intro x hx hx' hi e1 e2
    rw [List.getElem_set, List.getElem_set, List.getElem_set]
    rw [if_neg (by omega : ¬ n = i)]
    by_cases e : n = x
    · subst e; rw [if_pos rfl, if_pos rfl]; exact ⟨rfl, by omega⟩
    · rw [if_neg e, if_neg e]; exact ⟨e1, e2⟩
  have new : ∀ x (hx : x < rs.length) (hx' : x < ls.length) (hi : i < ls.length), n = x → (rs.set n true)[x]'(by rw [List.length_set]; exact hx) = true ∧ (ls.set n nl)[i]'(by rw [List.length_set]; exact hi) + 1 ≤ (ls.set n nl)[x]'(by rw [List.length_set]; exact hx') := by
    intro x hx hx' hi e
    subst e
    rw [List.getElem_set, List.getElem_set, List.getElem_set]
    rw [if_neg (by omega : ¬ n = i), if_pos rfl, if_pos rfl]
    exact ⟨rfl, by omega⟩
  refine ⟨DI.child h.d (by omega) h2 hir (by omega) h1 hin hdn nl hnl nm hnm, ?_, ?_, ?_⟩
  · intro hx
    rw [List.getElem_set, if_neg (by omega)]; exact hir
  · intro _ hx hx' hi
    rw [List.length_set] at hx hx' hi
    by_cases hk0 : k = 0
    · rw [if_pos hk0] at hn; exact new p hx hx' hi hn
    · obtain ⟨e1, e2⟩ := h.k1 (by omega) hx hx' hi
      exact keep p hx hx' hi e1 e2
  · intro hk2 hx hx' hi
    rw [List.length_set] at hx hx' hi
    rw [if_neg (by omega)] at hn
    exact new q hx hx' hi hn
def ints (ls : List Nat) : List Int := ls.map fun (x : Nat) => (x : Int)
theorem ints_len (ls : List Nat) : (ints ls).length = ls.length := by simp [ints]
theorem ints_get (ls : List Nat) (j : Nat) (h : j < ls.length) : (ints ls)[j]'(by rw [ints_len]; exact h) = (ls[j] : Int) := by simp [ints]
theorem ints_set (ls : List Nat) (j x : Nat) : (ints ls).set j (x : Int) = ints (ls.set j x) := by simp [ints]
/-- an owned slice of numbers, of bools, of a length, in a block -/
def LI (w : World) (g : Nat) (ls : List Nat) : Prop := OwnI w g (.slice (some ⟨g, 0, none⟩) ls.length ls.length) (ints ls)
def LB (w : World) (g : Nat) (rs : List Bool) : Prop := OwnB w g (.slice (some ⟨g, 0, none⟩) rs.length rs.length) rs
theorem LI.cell {w : World} {g : Nat} {ls : List Nat} (h : LI w g ls) (j : Nat) (hj : j < ls.length) : w.cell? ⟨g, j, none⟩ = some (.int .i64 (ls[j] : Int)) := by
  rw [← ints_get ls j hj]
  exact own_int_cell h (ints_len _).symm j (by rw [ints_len]; exact hj)
theorem LB.cell {w : World} {g : Nat} {rs : List Bool} (h : LB w g rs) (j : Nat) (hj : j < rs.length) : w.cell? ⟨g, j, none⟩ = some (.bool rs[j]) := by
  obtain ⟨a, c', h1, h2, h3, h4⟩ := rd_of_own (n := 1) encB_len h
  simp only [Value.slice.injEq] at h1
  obtain ⟨b, o, e2, k⟩ := h4 j hj
  rw [← h1.1] at e2
  obtain ⟨rfl, rfl⟩ : g = b ∧ 0 = o := by simpa using e2
  have := k 0 (by simp [encB])
  rw [Nat.mul_one, Nat.zero_add] at this
  exact this
theorem LI.frozen {w : World} {g : Nat} {ls : List Nat} (h : LI w g ls) (hp : 0 < ls.length) (j : Nat) : w.frozen? ⟨g, j, none⟩ = false ∧ g < w.heap.size := by
  have h' := h
  unfold LI OwnI at h'
  rw [← ints_len ls] at h'
  obtain ⟨g', c', e', _, hgs, hfz⟩ := own_parts h' (by rw [ints_len]; exact hp)
  obtain ⟨rfl, -⟩ : g = g' ∧ True := ⟨by simpa using (Value.slice.inj e').1, trivial⟩
  exact ⟨hfz j, hgs⟩
theorem LB.frozen {w : World} {g : Nat} {rs : List Bool} (h : LB w g rs) (hp : 0 < rs.length) (j : Nat) : w.frozen? ⟨g, j, none⟩ = false ∧ g < w.heap.size := by
  obtain ⟨g', c', e', _, hgs, hfz⟩ := own_parts h hp
  obtain ⟨rfl, -⟩ : g = g' ∧ True := ⟨by simpa using (Value.slice.inj e').1, trivial⟩
  exact ⟨hfz j, hgs⟩
theorem LI.set_ {w : World} {g : Nat} {ls : List Nat} (h : LI w g ls) (j x : Nat) (hj : j < ls.length) : LI (w.setCell ⟨g, j, none⟩ (.int .i64 (x : Int))) g (ls.set j x) := by
  have h' := h
  unfold LI OwnI at h'
  rw [← ints_len ls] at h'
  have hst := own_store (e := 3) encI_len h' j 0 (.int .i64 (x : Int)) (x : Int) (by rw [ints_len]; exact hj) (by decide) rfl
  rw [Nat.mul_one, Nat.add_zero, ints_set, ints_len] at hst
  unfold LI OwnI
  rw [ints_len, List.length_set]
  exact hst.1
theorem LB.set_ {w : World} {g : Nat} {rs : List Bool} (h : LB w g rs) (j : Nat) (x : Bool) (hj : j < rs.length) : LB (w.setCell ⟨g, j, none⟩ (.bool x)) g (rs.set j x) := by
  have hst := own_store (e := 4) encB_len h j 0 (.bool x) x hj (by decide) rfl
  rw [Nat.mul_one, Nat.add_zero] at hst
  unfold LB OwnB
  rw [List.length_set]
  exact hst.1
theorem own_far {w : World} {base e n k g c g' : Nat} {zs : List Value} (h : w.ownsRow base e n (.slice (some ⟨g, 0, none⟩) k c) k zs) (hne : g' ≠ g) (o : Nat) (u : Value) : (w.setCell ⟨g', o, none⟩ u).ownsRow base e n (.slice (some ⟨g, 0, none⟩) k c) k zs := by
  refine ⟨h.1, ?_⟩
  rcases h.2 with ⟨hv, _⟩ | ⟨g2, cap, cur, hv, hg, hh, r⟩
  · cases hv
  · refine .inr ⟨g2, cap, cur, hv, hg, ?_, r⟩
    have : g = g2 := by simpa using (Value.slice.inj hv).1
    rw [Below.heap_setCell _ _ _ _ (by subst this; exact fun e => hne e.symm)]
    exact hh
theorem LI.far {w : World} {g : Nat} {ls : List Nat} (h : LI w g ls) {g' : Nat} (hne : g' ≠ g) (o : Nat) (u : Value) : LI (w.setCell ⟨g', o, none⟩ u) g ls := by
  unfold LI OwnI at h ⊢
  rw [ints_len] at h ⊢
  exact own_far h hne o u
theorem LB.far {w : World} {g : Nat} {rs : List Bool} (h : LB w g rs) {g' : Nat} (hne : g' ≠ g) (o : Nat) (u : Value) : LB (w.setCell ⟨g', o, none⟩ u) g rs := own_far h hne o u
theorem LI.drewN {w : World} {g : Nat} {ls : List Nat} (h : LI w g ls) (n : Nat) : LI (w.drewN n) g ls := ownsRow_drewN h n
theorem LB.drewN {w : World} {g : Nat} {rs : List Bool} (h : LB w g rs) (n : Nat) : LB (w.drewN n) g rs := ownsRow_drewN h n
theorem LI.alloc {w : World} {g : Nat} {ls : List Nat} (h : LI w g ls) (o : Obj) : LI (w.alloc o) g ls := World.ownsRow.alloc h o
theorem LB.alloc {w : World} {g : Nat} {rs : List Bool} (h : LB w g rs) (o : Obj) : LB (w.alloc o) g rs := World.ownsRow.alloc h o
end L24
end Go.Proofs.Ytaclndhenhjjaaa
