/- Layer 14: slices.SortFunc at files. -/
import Derived.Shelf.SlSortCmp.NoneTotal
import Derived.Lib.OwnBridge
import Derived.Test.YtkmbahpjioopdaaSort
import Derived.Test.YtkmbahpjioopdaaDropH
namespace Go.Proofs.Ytkmbahpjioopdaa
open Go.RowKit Go.Maps Go.Sort Go.Shelf V
attribute [local go_sem] Oper.semAt_some Option.isSome_some
namespace L12
def cmpF (x y : FR) : Int := cmpA x.nm y.nm
theorem ltOf_cmpF (x y : FR) : ltOf cmpF x y = lt x.nm y.nm := by
  unfold ltOf cmpF cmpA
  cases h : lt x.nm y.nm
  · rw [if_neg (by simp)]
    split <;> rfl
  · rfl
theorem swo_cmpF : SWO (ltOf cmpF) where
  irrefl x := by rw [ltOf_cmpF]; exact lt_irr _
  trans x y z h k := by rw [ltOf_cmpF] at *; exact lt_trans h k
  ntrans x y z h k := by
    rw [ltOf_cmpF] at *
    cases e : lt x.nm z.nm
    · rfl
    · by_cases q : x.nm = y.nm
      · rw [q] at e; rw [e] at k; cases k
      · have := lt_trans (lt_of h q) e
        rw [this] at k
        cases k
theorem flatK_list {α : Type} [Inhabited α] {enc : α → List Value} {k : Nat} (hk : ∀ x, (enc x).length = k) (k0 : 0 < k) (ys : List α) : (flatK enc k ys.toArray).toList = ys.flatMap enc := by
  apply List.ext_getElem?
  intro t
  rw [Array.getElem?_toList]
  by_cases h : t < ys.length * k
  · have hd : t / k < ys.length := Nat.div_lt_of_lt_mul (by rw [Nat.mul_comm]; exact h)
    have hm : t % k < k := Nat.mod_lt _ k0
    rw [Array.getElem?_eq_getElem (by rw [size_flatK]; exact h), ← getElem!_pos (flatK enc k ys.toArray) t (by rw [size_flatK]; exact h), get_flatK _ _ _ _ h]
    have hg := flat_get hk ys (t / k) (t % k) hd hm
    rw [show t / k * k + t % k = t by rw [Nat.mul_comm]; exact Nat.div_add_mod t k] at hg
    rw [hg, List.getElem?_eq_getElem (by rw [hk]; exact hm)]
    congr 1
    rw [getElem!_pos ys.toArray (t / k) hd]
    rw [getElem!_pos _ _ (by rw [List.getElem_toArray, hk]; exact hm)]
    simp
  · rw [Array.getElem?_eq_none (by rw [size_flatK]; exact Nat.le_of_not_lt h), List.getElem?_eq_none (by rw [flat_length hk]; exact Nat.le_of_not_lt h)]
theorem take_putCells (F cur : Array Value) (h : F.size ≤ cur.size) : (putCells id 0 F cur).toList.take F.size = F.toList := by
  apply List.ext_getElem?
  intro j
  rw [List.getElem?_take, Array.getElem?_toList, Array.getElem?_toList]
  by_cases hj : j < F.size
  · rw [if_pos hj]
    unfold putCells
    rw [Array.getElem?_mapIdx, Array.getElem?_eq_getElem (by omega), Option.map_some, if_pos ⟨by omega, by omega⟩, Array.getElem?_eq_getElem hj, getElem!_pos F (j - 0) (by omega)]
    rfl
  · rw [if_neg hj, Array.getElem?_eq_none (by omega)]
theorem own_sorted {α : Type} [Inhabited α] {enc : α → List Value} {k : Nat} (hk : ∀ x, (enc x).length = k) (k0 : 0 < k) {w : World} {base e g cap q : Nat} {xs ys : List α} {os : Array Obj} (h : w.ownsRow base e k (.slice (some ⟨g, 0, none⟩) xs.length cap) xs.length (xs.flatMap enc)) (hy : ys.length = xs.length) :
    (sortWorldK enc k w g 0 q ys.toArray os).ownsRow base e k (.slice (some ⟨g, 0, none⟩) xs.length cap) xs.length (ys.flatMap enc) ∧ Below base w (sortWorldK enc k w g 0 q ys.toArray os) := by
  rcases h.2 with ⟨e0, _⟩ | ⟨g', cap', cur, e0, hb, hg, hn, hm, hs, ht⟩
  · cases e0
  · injection e0 with e1 _ e3
    injection e1 with e1
    injection e1 with e1
    subst e1; subst e3
    have hFs : (flatK enc k ys.toArray).size = xs.length * k := by rw [size_flatK, List.size_toArray, hy]
    have hp : (putRow id (Sort.ahead w q) g 0 (flatK enc k ys.toArray)).heap[g]? = some (.cells (putCells id 0 (flatK enc k ys.toArray) cur) e (0, 0)) := by
      simp [putRow, mapBlock, Sort.ahead, Array.getElem?_modify, hg, onCells]
    have hlt := (Array.getElem?_eq_some_iff.1 hp).1
    have hB : Below base w (putRow id (Sort.ahead w q) g 0 (flatK enc k ys.toArray)) := Lib.below_putRow ⟨rfl, rfl, rfl, Nat.le_refl _, fun _ _ => rfl⟩ hb
    refine ⟨⟨by rw [flat_length hk, hy], .inr ⟨g, cap, putCells id 0 (flatK enc k ys.toArray) cur, rfl, hb, ?_, hn, hm, ?_, ?_⟩⟩, ?_⟩
    · unfold sortWorldK putRowK grow
      show (_ ++ os)[g]? = _
      rw [Array.getElem?_append_left hlt]
      exact hp
    · rw [← hs]; unfold putCells; rw [Array.size_mapIdx]
    · rw [← hFs, take_putCells _ _ (by rw [hFs, hs]; exact Nat.mul_le_mul_right _ hn), flatK_list hk k0]
    · unfold sortWorldK putRowK grow
      exact ⟨hB.os, hB.tape, hB.output, by have := hB.size; show _ ≤ (_ ++ os).size; rw [Array.size_append]; omega, fun j hj => by
        show (_ ++ os)[j]? = _
        have hbl : base ≤ w.heap.size := by have := (Array.getElem?_eq_some_iff.1 hg).1; omega
        rw [Array.getElem?_append_left (by have := hB.size; omega)]
        exact hB.block j hj⟩
theorem holds_own {w : World} {base e g cap : Nat} {xs : List FR} (h : w.ownsRow base e 3 (.slice (some ⟨g, 0, none⟩) xs.length cap) xs.length (xs.flatMap encR)) : HoldsK encR 3 w g 0 xs.toArray ∧ g < w.heap.size := by
  rcases h.2 with ⟨e0, _⟩ | ⟨g', cap', cur, e0, hb, hg, hn, hm, hs, ht⟩
  · cases e0
  · injection e0 with e1 _ e3
    injection e1 with e1
    injection e1 with e1
    subst e1; subst e3
    refine ⟨fun j hj => ?_, (Array.getElem?_eq_some_iff.1 hg).1⟩
    rw [size_flatK, List.size_toArray] at hj
    refine ⟨?_, by simp [World.frozen?, hg]⟩
    have hF := flatK_list encR_len (by decide) xs
    have e1 : (cur.toList.take (xs.length * 3))[j]? = (flatK encR 3 xs.toArray).toList[j]? := by rw [hF, ht]
    have e2 : (flatK encR 3 xs.toArray)[j]? = some ((flatK encR 3 xs.toArray)[j]'(by rw [size_flatK]; exact hj)) := Array.getElem?_eq_getElem _
    rw [List.getElem?_take, if_pos hj, Array.getElem?_toList, Array.getElem?_toList, e2] at e1
    simp only [World.cell?, hg, Nat.zero_add, Option.isSome_none, Bool.false_eq_true, if_false]
    rw [e1, getElem!_pos _ j (by rw [size_flatK]; exact hj)]
    rfl
theorem cmpR_calls (x y : FR) (w : World) : Calls Try.prog 27 #[rV x, rV y] w fun e w' => e = .returned (.int .i64 (cmpF x y)) ∧ w' = (w.alloc (.cells #[.string (str x.nm), .int .i64 x.dir, .slice x.a x.n x.c] 24)).alloc (.cells #[.string (str y.nm), .int .i64 y.dir, .slice y.a y.n y.c] 24) := by
  have h := cmp_calls ⟨x.nm, x.dir, List.replicate x.n 0, x.a, x.c⟩ ⟨y.nm, y.dir, List.replicate y.n 0, y.a, y.c⟩ w
  unfold fV at h
  simp only [List.length_replicate] at h
  exact h
theorem cmp_lays (g size : Nat) (w : World) : CmpLays Try.prog 27 #[] encR 3 cmpF g 0 size w := by
  intro m os dk hdk x y
  refine (cmpR_calls x y _).mono ?_
  rintro e w' ⟨he, rfl⟩
  refine ⟨he, 0, #[.cells #[.string (str x.nm), .int .i64 x.dir, .slice x.a x.n x.c] 24 (0, 0), .cells #[.string (str y.nm), .int .i64 y.dir, .slice y.a y.n y.c] 24 (0, 0)], ?_⟩
  rw [alloc_eq_grow, alloc_eq_grow, grow_grow]
  rfl
set_option maxRecDepth 100000 in
theorem Sort_calls (u : Value) (xs : List FR) (base : Nat) (w : World) (hl : xs.length ≤ 1000000) (ho : w.ownsRow base 24 3 u xs.length (xs.flatMap encR)) :
    Calls Try.prog 26 #[u, .func (.func 27) #[] #[]] w fun e w' => e = .returned (.tuple #[]) ∧ ∃ ys : List FR, ys.Perm xs ∧ ys.Pairwise (fun a b => lt b.nm a.nm = false) ∧ w'.ownsRow base 24 3 u ys.length (ys.flatMap encR) ∧ Below base w w' := by
  cases xs with
  | nil =>
    obtain ⟨a, c, rfl⟩ := own_form ho
    refine (AnyF.slices_SortFunc_none { Try.laysSort with } a c (.func (.func 27) #[] #[]) w).mono ?_
    rintro e w' ⟨he, rfl⟩
    exact ⟨he, [], List.Perm.refl _, List.Pairwise.nil, ho, ⟨rfl, rfl, rfl, Nat.le_refl _, fun _ _ => rfl⟩⟩
  | cons x r =>
    obtain ⟨g, cap, rfl⟩ := ownsRow_succ ho
    obtain ⟨hH, hg⟩ := holds_own ho
    have hS := AnyQ.slices_SortFunc Try.laysSort 3 Try.isAgg24 Try.sizeOf24 encR encR_len encR_one cmpF swo_cmpF 27 #[] g 0 cap (x :: r).toArray w (enters_of Try.func27 (by kernel_rfl) rfl) (cmp_lays g _ w) hH hg (by simp at hl ⊢; omega)
    refine hS.mono ?_
    rintro e w' ⟨he, d', n, os, hp, hs, rfl⟩
    obtain ⟨p1, p2, p3⟩ := hp
    have hsz : d'.toList.length = (x :: r).length := by rw [Array.length_toList, p1]; simp
    have hd : d' = d'.toList.toArray := by simp
    rw [hd]
    obtain ⟨k1, k2⟩ := own_sorted encR_len (by decide) (q := n) (os := os) ho hsz
    refine ⟨he, d'.toList, ?_, ?_, by rw [hsz]; exact k1, k2⟩
    · rw [show d'.extract 0 (x :: r).toArray.size = d' by rw [← p1]; simp] at p3
      simpa using p3
    · rw [List.pairwise_iff_getElem]
      intro i j hi hj hij
      rw [Array.length_toList] at hi hj
      have := hs i j (Nat.zero_le _) hij (by rw [← p1]; exact hj)
      rw [ltOf_cmpF, getElem!_pos d' j hj, getElem!_pos d' i hi] at this
      simpa using this
end L12
end Go.Proofs.Ytkmbahpjioopdaa
