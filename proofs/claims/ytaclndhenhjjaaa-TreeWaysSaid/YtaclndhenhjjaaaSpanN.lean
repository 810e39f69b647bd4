/- Layer 23: the chapter's examples: awake. -/
import Derived.Test.YtaclndhenhjjaaaSpanK
namespace Go.Proofs.Ytaclndhenhjjaaa
open Go.RowKit Go.Shelf V
namespace L23
theorem run_eqlS (s t : Span) (w : World) : (binOp .eql 33 (.agg #[.int .u32 (s.lo : Int), .int .u32 (s.hi : Int), .int .i64 s.way])
    (.agg #[.int .u32 (t.lo : Int), .int .u32 (t.hi : Int), .int .i64 t.way])).run Try.prog w = .ok (.bool (sameS s t)) w := by
  have h : (Op.equalIn 10000 33 (.agg #[.int .u32 (s.lo : Int), .int .u32 (s.hi : Int), .int .i64 s.way])
    (.agg #[.int .u32 (t.lo : Int), .int .u32 (t.hi : Int), .int .i64 t.way])).run Try.prog w = .ok (sameS s t) w := by
    simp [go_sem]
    by_cases h1 : s.lo = t.lo <;> by_cases h2 : s.hi = t.hi <;> by_cases h3 : s.way = t.way <;> simp [sameS, h1, h2, h3, Int.ofNat_inj]
  rw [run_eql_struct, h]; rfl
theorem ofA0 : ofA [] [] 7 = ([⟨0, 4294967295, 7⟩], 0) := by rfl
theorem ofA1 : ofA [0, 5, 6] [1, 2, 2] 0 = ([⟨0, 0, 1⟩, ⟨1, 4, 0⟩, ⟨5, 6, 2⟩, ⟨7, 4294967295, 0⟩], 0) := by rfl
theorem ofA2 : ofA [5, 5] [1, 1] 0 = ([], 2) := by rfl
theorem ofA3 : ofA [5] [] 0 = ([], 2) := by rfl
/-- where a slice that a call has made holds its elements -/
theorem own_cell {w : World} {base : Nat} {u : Value} {xs : List Span} (h : Own w base u xs) (hp : 0 < xs.length) : ∃ g c, u = .slice (some ⟨g, 0, none⟩) xs.length c ∧ base ≤ g ∧ ∀ i, (hi : i < xs.length) →
    w.cell? ⟨g, i * 3, none⟩ = some (.int .u32 (xs[i].lo : Int)) ∧ w.cell? ⟨g, i * 3 + 1, none⟩ = some (.int .u32 (xs[i].hi : Int)) ∧ w.cell? ⟨g, i * 3 + 2, none⟩ = some (.int .i64 xs[i].way) := by
  obtain ⟨g, c, rfl, hb, -, -⟩ := own_parts h hp
  obtain ⟨a, c', e, -, h4⟩ := rdS_cell h.rd
  refine ⟨g, c, rfl, hb, fun i hi => ?_⟩
  obtain ⟨b', o', e', k1, k2, k3⟩ := h4 i hi
  simp only [Value.slice.injEq] at e
  rw [← e.1] at e'
  obtain ⟨rfl, rfl⟩ : g = b' ∧ 0 = o' := by simpa using e'
  rw [Nat.zero_add] at k1 k2 k3
  exact ⟨k1, k2, k3⟩
theorem rd_none {α : Type} (w : World) (n : Nat) (enc : α → List Value) : Rd w n enc (.slice none 0 0) ([] : List α) := ⟨none, 0, rfl, Nat.le_refl _, fun _ => rfl, fun i hi => by cases hi⟩
theorem rd_lit {α : Type} {n : Nat} {enc : α → List Value} (henc : ∀ x, (enc x).length = n) (W : World) (xs : List α) (t : TypeId) (g : Nat) (hg : g = W.heap.size) : Rd (W.alloc (.cells (xs.flatMap enc).toArray t)) n enc (.slice (some ⟨g, 0, none⟩) xs.length xs.length) xs := by
  refine ⟨_, _, rfl, Nat.le_refl _, (fun h => by cases h), fun i hi => ⟨_, _, rfl, fun j hj => ?_⟩⟩
  have hj' : j < n := by rw [henc] at hj; exact hj
  have := flat_get henc xs i j hi hj'
  have h2 := cells_new' W (xs.flatMap enc) t g hg (i * n + j) _ (this.trans (List.getElem?_eq_getElem hj))
  have e : (⟨g, 0, none⟩ : Addr).add (i * n + j) = ⟨g, 0 + i * n + j, none⟩ := by
    simp only [Addr.add]
    (split <;> simp_all)
  rw [e] at h2
  exact h2
theorem encI_len (x : Int) : (encI x).length = 1 := rfl
theorem aw0 (w : World) : Calls Try.prog 13 #[.slice none 0 0, .slice none 0 0, .int .i64 7] w fun e w' => ∃ g c, e = .returned (.tuple #[.slice (some ⟨g, 0, none⟩) 1 c, .int .i64 0]) ∧ Ext w w' ∧
    w'.cell? ⟨g, 0, none⟩ = some (.int .u32 0) ∧ w'.cell? ⟨g, 1, none⟩ = some (.int .u32 4294967295) ∧ w'.cell? ⟨g, 2, none⟩ = some (.int .i64 7) := by
  refine (Of_calls (.slice none 0 0) (.slice none 0 0) [] [] 7 (by simp) (by simp) w (rd_none w 1 encU) (rd_none w 1 encI)).mono ?_
  rw [ofA0]
  rintro e w' ⟨u, he, hx, hq⟩
  obtain ⟨g, c, rfl, -, h⟩ := own_cell hq (by simp)
  obtain ⟨h1, h2, h3⟩ := h 0 (by simp)
  rw [Nat.zero_mul] at h1 h2 h3
  rw [Nat.zero_add] at h2 h3
  exact ⟨g, c, he, hx, h1, h2, h3⟩
theorem rdU_lit (W : World) (xs : List Nat) (t g : Nat) (hg : g = W.heap.size) : Rd (W.alloc (.cells (xs.flatMap encU).toArray t)) 1 encU (.slice (some ⟨g, 0, none⟩) xs.length xs.length) xs := rd_lit encU_len W xs t g hg
theorem rdI_lit (W : World) (xs : List Int) (t g : Nat) (hg : g = W.heap.size) : Rd (W.alloc (.cells (xs.flatMap encI).toArray t)) 1 encI (.slice (some ⟨g, 0, none⟩) xs.length xs.length) xs := rd_lit encI_len W xs t g hg
theorem aw1 (W : World) (tU tI : TypeId) : Calls Try.prog 13 #[.slice (some ⟨W.heap.size, 0, none⟩) 3 3, .slice (some ⟨W.heap.size + 1, 0, none⟩) 3 3, .int .i64 0]
    ((W.alloc (.cells #[.int .u32 0, .int .u32 5, .int .u32 6] tU)).alloc (.cells #[.int .i64 1, .int .i64 2, .int .i64 2] tI)) fun e w' => ∃ g c, e = .returned (.tuple #[.slice (some ⟨g, 0, none⟩) 4 c, .int .i64 0]) ∧ Ext W w' ∧
    w'.cell? ⟨g, 0, none⟩ = some (.int .u32 0) ∧ w'.cell? ⟨g, 1, none⟩ = some (.int .u32 0) ∧ w'.cell? ⟨g, 2, none⟩ = some (.int .i64 1) ∧
    w'.cell? ⟨g, 3, none⟩ = some (.int .u32 1) ∧ w'.cell? ⟨g, 4, none⟩ = some (.int .u32 4) ∧ w'.cell? ⟨g, 5, none⟩ = some (.int .i64 0) ∧
    w'.cell? ⟨g, 6, none⟩ = some (.int .u32 5) ∧ w'.cell? ⟨g, 7, none⟩ = some (.int .u32 6) ∧ w'.cell? ⟨g, 8, none⟩ = some (.int .i64 2) ∧
    w'.cell? ⟨g, 9, none⟩ = some (.int .u32 7) ∧ w'.cell? ⟨g, 10, none⟩ = some (.int .u32 4294967295) ∧ w'.cell? ⟨g, 11, none⟩ = some (.int .i64 0) := by
  have hE : Ext W ((W.alloc (.cells #[.int .u32 0, .int .u32 5, .int .u32 6] tU)).alloc (.cells #[.int .i64 1, .int .i64 2, .int .i64 2] tI)) := ((Ext.refl W).alloc _).alloc _
  have r1 := (rdU_lit W [0, 5, 6] tU _ rfl).ext ((Ext.refl _).alloc (.cells #[.int .i64 1, .int .i64 2, .int .i64 2] tI))
  have r2 := rdI_lit (W.alloc (.cells #[.int .u32 0, .int .u32 5, .int .u32 6] tU)) [1, 2, 2] tI (W.heap.size + 1) (by simp)
  refine (Of_calls _ _ [0, 5, 6] [1, 2, 2] 0 (by simp) (by simp) _ r1 r2).mono ?_
  rw [ofA1]
  rintro e w' ⟨u, he, hx, hq⟩
  obtain ⟨g, c, rfl, -, h⟩ := own_cell hq (by simp)
  obtain ⟨h1, h2, h3⟩ := h 0 (by simp)
  obtain ⟨h4, h5, h6⟩ := h 1 (by simp)
  obtain ⟨h7, h8, h9⟩ := h 2 (by simp)
  obtain ⟨h10, h11, h12⟩ := h 3 (by simp)
  rw [Nat.zero_mul] at h1 h2 h3
  rw [Nat.zero_add] at h2 h3
  exact ⟨g, c, he, hE.trans hx, h1, h2, h3, h4, h5, h6, h7, h8, h9, h10, h11, h12⟩
theorem aw2 (W : World) (tU tI : TypeId) : Calls Try.prog 13 #[.slice (some ⟨W.heap.size, 0, none⟩) 2 2, .slice (some ⟨W.heap.size + 1, 0, none⟩) 2 2, .int .i64 0]
    ((W.alloc (.cells #[.int .u32 5, .int .u32 5] tU)).alloc (.cells #[.int .i64 1, .int .i64 1] tI)) fun e w' => ∃ u, e = .returned (.tuple #[u, .int .i64 2]) ∧ Ext W w' := by
  have hE : Ext W ((W.alloc (.cells #[.int .u32 5, .int .u32 5] tU)).alloc (.cells #[.int .i64 1, .int .i64 1] tI)) := ((Ext.refl W).alloc _).alloc _
  have r1 := (rdU_lit W [5, 5] tU _ rfl).ext ((Ext.refl _).alloc (.cells #[.int .i64 1, .int .i64 1] tI))
  have r2 := rdI_lit (W.alloc (.cells #[.int .u32 5, .int .u32 5] tU)) [1, 1] tI (W.heap.size + 1) (by simp)
  refine (Of_calls _ _ [5, 5] [1, 1] 0 (by simp) (by simp) _ r1 r2).mono ?_
  rw [ofA2]
  rintro e w' ⟨u, he, hx, -⟩
  exact ⟨u, he, hE.trans hx⟩
theorem aw3 (W : World) (tU : TypeId) : Calls Try.prog 13 #[.slice (some ⟨W.heap.size, 0, none⟩) 1 1, .slice none 0 0, .int .i64 0]
    (W.alloc (.cells #[.int .u32 5] tU)) fun e w' => ∃ u, e = .returned (.tuple #[u, .int .i64 2]) ∧ Ext W w' := by
  have hE : Ext W (W.alloc (.cells #[.int .u32 5] tU)) := (Ext.refl W).alloc _
  refine (Of_calls _ _ [5] [] 0 (by simp) (by simp) _ (rdU_lit W [5] tU _ rfl) (rd_none _ 1 encI)).mono ?_
  rw [ofA3]
  rintro e w' ⟨u, he, hx, -⟩
  exact ⟨u, he, hE.trans hx⟩
set_option maxRecDepth 100000 in
set_option maxHeartbeats 400000 in
theorem awake_calls (w : World) : Calls Try.prog 24 #[] w fun e w' => e = .returned (.bool true) ∧ Ext w w' := by
  have q0 := run_eqlS ⟨0, 4294967295, 7⟩ ⟨0, 4294967295, 7⟩
  have q1 := run_eqlS ⟨0, 0, 1⟩ ⟨0, 0, 1⟩
  have q2 := run_eqlS ⟨1, 4, 0⟩ ⟨1, 4, 0⟩
  have q3 := run_eqlS ⟨5, 6, 2⟩ ⟨5, 6, 2⟩
  have q4 := run_eqlS ⟨7, 4294967295, 0⟩ ⟨7, 4294967295, 0⟩
  rw [sameS_refl] at q0 q1 q2 q3 q4
  have hg := hgS
  go_enter Try.func24, Try.ntmps24
  go_wp2_with fail
  refine (aw0 _).mono ?_
  rintro e w1 ⟨g0, c0, rfl, hx1, a0, a1, a2⟩
  go_wp2_with fail
  refine (aw1 _ _ _).mono ?_
  rintro e w2 ⟨g1, c1, rfl, hx2, b0, b1, b2, b3, b4, b5, b6, b7, b8, b9, b10, b11⟩
  have HX2 := Lib.hid (hx1.trans hx2)
  replace a0 := hx2.cell a0; replace a1 := hx2.cell a1; replace a2 := hx2.cell a2
  clear hx1 hx2
  go_wp2_with fail
  refine (aw2 _ _ _).mono ?_
  rintro e w3 ⟨u3, rfl, hx3⟩
  go_wp2_with fail
  refine (aw3 _ _).mono ?_
  rintro e w4 ⟨u4, rfl, hx4⟩
  have hx := hx3.trans hx4
  replace a0 := hx.cell a0; replace a1 := hx.cell a1; replace a2 := hx.cell a2
  replace b0 := hx.cell b0; replace b1 := hx.cell b1; replace b2 := hx.cell b2; replace b3 := hx.cell b3; replace b4 := hx.cell b4; replace b5 := hx.cell b5
  replace b6 := hx.cell b6; replace b7 := hx.cell b7; replace b8 := hx.cell b8; replace b9 := hx.cell b9; replace b10 := hx.cell b10; replace b11 := hx.cell b11
  have HX := Lib.hid (HX2.out.trans hx)
  clear hx hx3 hx4 HX2
  go_wp2_with (go_quiet (fail))
  go_ret
  exact ⟨rfl, HX.out⟩
end L23
end Go.Proofs.Ytaclndhenhjjaaa
