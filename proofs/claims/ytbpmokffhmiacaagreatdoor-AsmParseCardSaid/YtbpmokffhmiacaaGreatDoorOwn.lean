/- Slices that a call itself has made, element by element; a whole slice copied into one; what such a slice holds read back. -/
import Derived.Laws.CopyOwn
import Derived.Test.YtbpmokffhmiacaaGreatDoorBase
namespace Go.Proofs.YtbpmokffhmiacaaGreatDoor
open Go.RowKit
namespace V
theorem flat_length {α : Type} {n : Nat} {enc : α → List Value} (henc : ∀ x, (enc x).length = n) (xs : List α) : (xs.flatMap enc).length = xs.length * n := by
  induction xs with
  | nil => simp
  | cons x xs ih => simp only [List.flatMap_cons, List.length_append, henc, ih, List.length_cons, Nat.add_mul, Nat.one_mul]; omega
theorem flat_get {α : Type} {n : Nat} {enc : α → List Value} (henc : ∀ x, (enc x).length = n) : ∀ (xs : List α) (i j : Nat) (hi : i < xs.length) (_ : j < n), (xs.flatMap enc)[i * n + j]? = (enc xs[i])[j]?
  | x :: xs, 0, j, _, hj => by
    simp only [List.flatMap_cons, Nat.zero_mul, Nat.zero_add, List.getElem_cons_zero]
    rw [List.getElem?_append_left (by rw [henc]; exact hj)]
  | x :: xs, i + 1, j, hi, hj => by
    simp only [List.flatMap_cons, List.getElem_cons_succ]
    rw [List.getElem?_append_right (by rw [henc, Nat.add_mul]; omega), henc, show (i + 1) * n + j - n = i * n + j by rw [Nat.add_mul]; omega]
    exact flat_get henc xs i j (by simpa using hi) hj
/-- what an owned slice of elements reads as -/
theorem rd_of_own {α : Type} {w : World} {base e n : Nat} {enc : α → List Value} {v : Value} {xs : List α} (henc : ∀ x, (enc x).length = n)
    (h : w.ownsRow base e n v xs.length (xs.flatMap enc)) : Rd w n enc v xs := by
  obtain ⟨h1, h2⟩ := h
  rcases h2 with ⟨rfl, h0⟩ | ⟨g, cap, cur, rfl, hg, hh, hc, hm, hs, ht⟩
  · exact ⟨none, 0, by rw [h0], by omega, fun _ => rfl, fun i hi => absurd hi (by omega)⟩
  · refine ⟨_, cap, rfl, hc, (fun h => by cases h), fun i hi => ⟨g, 0, rfl, fun j hj => ?_⟩⟩
    rw [henc] at hj
    have e1 : (xs.flatMap enc)[i * n + j]? = (enc xs[i])[j]? := flat_get henc xs i j hi hj
    have hlt : i * n + j < xs.length * n := by
      have : (i + 1) * n ≤ xs.length * n := Nat.mul_le_mul_right n hi
      rw [Nat.add_mul] at this; omega
    rw [← ht, List.getElem?_take_of_lt hlt] at e1
    have e2 : w.cell? ⟨g, 0 + i * n + j, none⟩ = cur.toList[i * n + j]? := by simp [World.cell?, hh]
    rw [e2, e1, List.getElem?_eq_getElem (by rw [henc]; exact hj)]
/-- the cells of a new block -/
theorem cells_new (w : World) (l : List Value) (t : TypeId) : ∀ j u, l[j]? = some u → (w.alloc (.cells l.toArray t)).cell? ((⟨w.heap.size, 0, none⟩ : Addr).add j) = some u := by
  intro j u hu
  have e : ((⟨w.heap.size, 0, none⟩ : Addr).add j) = ⟨w.heap.size, j, none⟩ := by unfold Addr.add; split <;> simp_all
  rw [e]
  have h2 : (w.alloc (.cells l.toArray t)).heap[w.heap.size]? = some (.cells l.toArray t (0, 0)) := heap_alloc_new w _
  unfold World.cell?
  dsimp only
  rw [h2]
  simpa using hu
theorem cells_new' (w : World) (l : List Value) (t : TypeId) (g : Nat) (hg : g = w.heap.size) : ∀ j u, l[j]? = some u → (w.alloc (.cells l.toArray t)).cell? ((⟨g, 0, none⟩ : Addr).add j) = some u := by
  subst hg; exact cells_new w l t
theorem flat_set {α : Type} {n : Nat} {enc : α → List Value} (henc : ∀ x, (enc x).length = n) : ∀ (xs : List α) (i j : Nat) (u : Value) (y : α) (hi : i < xs.length) (_ : j < n), enc y = (enc xs[i]).set j u →
    (xs.flatMap enc).set (i * n + j) u = (xs.set i y).flatMap enc
  | x :: xs, 0, j, u, y, _, hj, e => by
    simp only [List.flatMap_cons, Nat.zero_mul, Nat.zero_add, List.set_cons_zero, List.getElem_cons_zero] at e ⊢
    rw [List.set_append_left _ _ (by rw [henc]; exact hj), e]
  | x :: xs, i + 1, j, u, y, hi, hj, e => by
    simp only [List.flatMap_cons, List.set_cons_succ, List.getElem_cons_succ] at e ⊢
    rw [List.set_append_right _ _ (by rw [henc, Nat.add_mul]; omega), henc, show (i + 1) * n + j - n = i * n + j by rw [Nat.add_mul]; omega]
    rw [flat_set henc xs i j u y (by simpa using hi) hj e]
/-- a slice of the call's own: its block, that its cells may be written -/
theorem own_parts {α : Type} {w : World} {base e n : Nat} {enc : α → List Value} {v : Value} {xs : List α} (h : w.ownsRow base e n v xs.length (xs.flatMap enc)) (hp : 0 < xs.length) :
    ∃ g c, v = .slice (some ⟨g, 0, none⟩) xs.length c ∧ base ≤ g ∧ g < w.heap.size ∧ ∀ j, w.frozen? ⟨g, j, none⟩ = false := by
  obtain ⟨h1, h2⟩ := h
  rcases h2 with ⟨_, h0⟩ | ⟨g, cap, cur, rfl, hg, hh, hc, hm, hs, ht⟩
  · omega
  · exact ⟨g, cap, rfl, hg, (Array.getElem?_eq_some_iff.1 hh).1, fun j => by simp [World.frozen?, hh]⟩
/-- one cell of one element stored -/
theorem own_store {α : Type} {w : World} {base e n g c : Nat} {enc : α → List Value} {xs : List α} (henc : ∀ x, (enc x).length = n) (h : w.ownsRow base e n (.slice (some ⟨g, 0, none⟩) xs.length c) xs.length (xs.flatMap enc))
    (i j : Nat) (u : Value) (y : α) (hi : i < xs.length) (hj : j < n) (he : enc y = (enc xs[i]).set j u) :
    (w.setCell ⟨g, i * n + j, none⟩ u).ownsRow base e n (.slice (some ⟨g, 0, none⟩) xs.length c) xs.length ((xs.set i y).flatMap enc) ∧ w.grownBy (w.setCell ⟨g, i * n + j, none⟩ u) (some g) := by
  rw [← flat_set henc xs i j u y hi hj he]
  exact World.ownsRow.stored h (i * n + j) u
/-- a whole slice copied into one of the call's own, as long -/
theorem wpList_copy_full {α : Type} {P : Program} {w : World} {ops : Array Oper} {rest : List Oper} {o : Oper} {a : Act} {Q : Exit → Act → World → Prop} (hgd : o.guard = none) (d s : Operand) (dT sT : TypeId)
    (ho : o.op = .call { callee := .builtin .copy, args := #[d, s], argTypes := #[dT, sT] }) (e n : Nat) (hu : P.underlying dT = some (.slice e)) (hsz : (P.info? e).map (·.size) = some n)
    (enc : α → List Value) (henc : ∀ x, (enc x).length = n) (hone : ∀ x, ∀ u ∈ enc x, u.oneCell' = true) (g base : Nat) (zs : List Value) (v : Value) (xs : List α)
    (hd : a.eval d = .slice (some ⟨g, 0, none⟩) xs.length xs.length) (hs : a.eval s = v)
    (hown : w.ownsRow base e n (.slice (some ⟨g, 0, none⟩) xs.length xs.length) xs.length zs) (hrd : Rd w n enc v xs)
    (h : ∀ w', w'.ownsRow base e n (.slice (some ⟨g, 0, none⟩) xs.length xs.length) xs.length (xs.flatMap enc) → w.grownBy w' (some g) → wpList P ops Q rest (a.put o.dst (.int .i64 xs.length)) w') : wpList P ops Q (o :: rest) a w := by
  refine wpList_plain hgd fun K hK => ?_
  obtain ⟨hz, ho2⟩ := hown
  rcases ho2 with ⟨h0, _⟩ | ⟨g', cap, cur, hv, hg, hh, hc, hm, hcs, ht⟩
  · cases h0
  simp only [Value.slice.injEq, Option.some.injEq, Addr.mk.injEq, and_true, true_and] at hv
  obtain ⟨rfl, rfl⟩ := hv
  obtain ⟨ad, c, rfl, hle, hnil, hel⟩ := hrd
  obtain ⟨inf, hinf, hsi⟩ : ∃ inf, P.info? e = some inf ∧ inf.size = n := by
    cases hh : P.info? e with
    | none => rw [hh] at hsz; cases hsz
    | some inf => rw [hh] at hsz; exact ⟨inf, rfl, by simpa using hsz⟩
  have hfl := flat_length henc xs
  have hmin : Nat.min xs.length xs.length = xs.length := Nat.min_self _
  have hone' : ∀ u ∈ xs.flatMap enc, u.oneCell' = true := fun u hu => by
    obtain ⟨x, _, hx⟩ := List.mem_flatMap.1 hu
    exact hone x u hx
  have hst := run_storeCells_at P g 0 e (xs.flatMap enc) 0 cur w hh (by rw [hfl, hcs]; omega) hone'
  have hw : World.setRow w g (List.take (0 + 0) cur.toList ++ xs.flatMap enc ++ List.drop (0 + 0 + (xs.flatMap enc).length) cur.toList).toArray = World.setRow w g (xs.flatMap enc).toArray := by
    rw [List.drop_eq_nil_of_le (by simp [hfl, hcs])]; simp
  rw [hw] at hst
  have hrun : (Builtin.copy_ #[dT, sT] o.type #[.slice (some ⟨g, 0, none⟩) xs.length xs.length, .slice ad xs.length c]).run P w = .ok (.int .i64 xs.length) (World.setRow w g (xs.flatMap enc).toArray) := by
    by_cases h00 : xs = []
    · subst h00
      cases ad with
      | none =>
        simp at hst
        simp [Builtin.copy_, run_underlying hu, Builtin.lenOf, Builtin.firstCells, sizeOf, typeInfo, hinf, hst, goInt]
      | some ad =>
        have hl := run_loadCells_list (P := P) w ad [] (by simp)
        simp at hl hst
        simp [Builtin.copy_, run_underlying hu, Builtin.lenOf, Builtin.firstCells, sizeOf, typeInfo, hinf, hl, hst, goInt]
    · have hpos : 0 < xs.length := List.length_pos_iff.2 h00
      obtain ⟨b, of, rfl, _⟩ := hel 0 hpos
      have hl := run_loadCells_list (P := P) w ⟨b, of, none⟩ (xs.flatMap enc) (by
        intro j u hu
        by_cases hn0 : n = 0
        · have hj := (List.getElem?_eq_some_iff.1 hu).1
          rw [hfl, hn0] at hj
          omega
        have hj := (List.getElem?_eq_some_iff.1 hu).1
        rw [hfl] at hj
        have hi : j / n < xs.length := Nat.div_lt_of_lt_mul (by rw [Nat.mul_comm]; exact hj)
        have hm' : j % n < n := Nat.mod_lt _ (by omega)
        have hjd : j = j / n * n + j % n := by rw [Nat.mul_comm]; exact (Nat.div_add_mod j n).symm
        obtain ⟨b', o', e', hat⟩ := hel (j / n) hi
        obtain ⟨rfl, rfl⟩ : b = b' ∧ of = o' := by simpa using e'
        have hcell := hat (j % n) (by rw [henc]; exact hm')
        have e1 := flat_get henc xs (j / n) (j % n) hi hm'
        rw [← hjd, hu] at e1
        have e2 : (enc xs[j / n])[j % n]'(by rw [henc]; exact hm') = u := by
          rw [List.getElem?_eq_getElem (by rw [henc]; exact hm')] at e1
          exact (Option.some.inj e1).symm
        rw [e2, show of + j / n * n + j % n = of + j by omega] at hcell
        unfold Addr.add
        split
        · rename_i hj0; subst hj0; simpa using hcell
        · exact hcell)
      rw [hfl] at hl
      simp [Builtin.copy_, run_underlying hu, Builtin.lenOf, Builtin.firstCells, sizeOf, typeInfo, hinf, hsi, hl, hst, goInt]
  unfold Oper.wp
  simp [execOp, ho, resolve, invoke, builtin, hd, hs, hrun, Result.andThen]
  refine hK _ _ (h _ ⟨hfl, .inr ⟨g, _, (xs.flatMap enc).toArray, rfl, hg, ?_, Nat.le_refl _, hm, ?_, ?_⟩⟩ ?_)
  · exact setRow_heap w g cur _ e _ hh
  · simp [hfl]
  · show List.take _ (xs.flatMap enc) = _
    rw [← hfl, List.take_length]
  · exact ⟨rfl, rfl, rfl, by simp, fun k hk hne => by
      show (World.setRow w g _).heap[k]? = _
      simp only [World.setRow, Array.getElem?_modify]
      rw [if_neg (fun e => hne (by rw [e]))]⟩
end V
end Go.Proofs.YtbpmokffhmiacaaGreatDoor
