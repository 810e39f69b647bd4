/- Append to a slice of the call's own that is not nil: its block stays, or is a new one. -/
import Derived.Test.YtjgglocabjpmeaaDoorApp
namespace Go.Proofs.YtjgglocabjpmeaaDoor
open Go.RowKit
namespace V
theorem run_app_sep {α : Type} {P : Program} {W : World} {t ty e : TypeId} {n bytes : Nat} {z : Value} (hu : P.underlying t = some (.slice e)) (hinfo : (P.info? e).map (fun i => (i.zero, i.size, i.bytes)) = some (some z, n, bytes)) (hzs : z.cells.size = n) (hn : 0 < n)
    {enc : α → List Value} (henc : ∀ x, (enc x).length = n) (hone : ∀ x, ∀ u ∈ enc x, u.oneCell' = true) {base g cap : Nat} {v : Value} {xs ys : List α} (hown : W.ownsRow base e n (.slice (some ⟨g, 0, none⟩) xs.length cap) xs.length (xs.flatMap enc)) (hrd : Rd W n enc v ys)
    (h63 : xs.length + ys.length ≤ 100000000) (hbytes : bytes ≤ 1000000) (hbase : base ≤ W.heap.size) :
    ∃ gu cu w', (Builtin.append_ #[t, t] ty #[.slice (some ⟨g, 0, none⟩) xs.length cap, v]).run P W = .ok (.slice (some ⟨gu, 0, none⟩) (xs.length + ys.length) cu) w' ∧ w'.ownsRow base e n (.slice (some ⟨gu, 0, none⟩) (xs.length + ys.length) cu) (xs.length + ys.length) ((xs ++ ys).flatMap enc) ∧
      W.grownBy w' (some g) ∧ (gu = g ∨ gu = W.heap.size) := by
  obtain ⟨au, cu, w', hr, h2, h3⟩ := run_app_rd (P := P) (ty := ty) hu hinfo hzs hn henc hone hown hrd h63 hbytes hbase
  have key : ∃ gu, au = some ⟨gu, 0, none⟩ ∧ (gu = g ∨ gu = W.heap.size) := by
    obtain ⟨i0, hi, hz0, hz1, hz2⟩ := info_parts hinfo
    obtain ⟨a, c, rfl, hle, hnil, hel⟩ := id hrd
    cases a with
    | none =>
      obtain rfl := hnil rfl
      have hys : ys = [] := List.eq_nil_of_length_eq_zero (by omega)
      subst hys
      have hr' := run_append_owned_none (P := P) (w := W) base t ty e i0 n hu hi _ _ _ hown
      simp only [List.length_nil] at hr
      rw [hr] at hr'
      simp only [Result.ok.injEq, Value.slice.injEq] at hr'
      exact ⟨g, hr'.1.1, .inl rfl⟩
    | some ad =>
      obtain ⟨-, hcells⟩ := hrd.cells henc
      have hfl := flat_length henc ys
      have hb2 : (xs.length + ys.length) * bytes ≤ 100000000 * 1000000 := Nat.mul_le_mul h63 hbytes
      subst hz1
      subst hz2
      rcases hown.2 with ⟨h, -⟩ | ⟨g', cap', cur, hv, hbg, hg, hnc, hcm, hcs, htake⟩
      · cases h
      simp only [Value.slice.injEq, Option.some.injEq, Addr.mk.injEq, and_true, true_and] at hv
      obtain ⟨rfl, rfl⟩ := hv
      by_cases hroom : xs.length + ys.length ≤ cap
      · have hfit : xs.length * i0.size + (ys.flatMap enc).length ≤ cur.size := by rw [hfl, hcs, ← Nat.add_mul]; exact Nat.mul_le_mul_right _ hroom
        have hr' := run_append_room (P := P) (w := W) t ty e i0 hu hi g xs.length cap cur hg ad ys.length c (ys.flatMap enc) hfl hcells (flat_one hone ys) hroom hfit
        rw [hr] at hr'
        simp only [Result.ok.injEq, Value.slice.injEq] at hr'
        exact ⟨g, hr'.1.1, .inl rfl⟩
      · have holds : ∀ j u, (xs.flatMap enc)[j]? = some u → W.cell? ((⟨g, 0, none⟩ : Addr).add j) = some u := hown.cells (g := g) rfl
        have hr' := run_append_grow (P := P) (w := W) t ty e i0 z hu hi hz0 ⟨g, 0, none⟩ xs.length cap (xs.flatMap enc) hown.1 holds ad ys.length c (ys.flatMap enc) hfl hcells (by omega) (by omega) (growslice_fits (by omega) (by omega))
        rw [hr] at hr'
        simp only [Result.ok.injEq, Value.slice.injEq] at hr'
        exact ⟨W.heap.size, hr'.1.1, .inr rfl⟩
  obtain ⟨gu, rfl, hgu⟩ := key
  exact ⟨gu, cu, w', hr, h2, h3, hgu⟩
theorem wpList_app_sep {α : Type} {P : Program} {W : World} {ops : Array Oper} {rest : List Oper} {o : Oper} {a : Act} {Q : Exit → Act → World → Prop} (hgd : o.guard = none) (s x : Operand) (t : TypeId)
    (ho : o.op = .call { callee := .builtin .append, args := #[s, x], argTypes := #[t, t] }) {e : TypeId} {n bytes : Nat} {z : Value} (hu : P.underlying t = some (.slice e)) (hinfo : (P.info? e).map (fun i => (i.zero, i.size, i.bytes)) = some (some z, n, bytes)) (hzs : z.cells.size = n) (hn : 0 < n)
    {enc : α → List Value} (henc : ∀ x, (enc x).length = n) (hone : ∀ x, ∀ u ∈ enc x, u.oneCell' = true) (base g cap : Nat) (v : Value) (xs ys : List α) (hs : a.eval s = .slice (some ⟨g, 0, none⟩) xs.length cap) (hx : a.eval x = v)
    (hown : W.ownsRow base e n (.slice (some ⟨g, 0, none⟩) xs.length cap) xs.length (xs.flatMap enc)) (hrd : Rd W n enc v ys)
    (h63 : xs.length + ys.length ≤ 100000000) (hbytes : bytes ≤ 1000000) (hbase : base ≤ W.heap.size)
    (h : ∀ gu cu w', w'.ownsRow base e n (.slice (some ⟨gu, 0, none⟩) (xs.length + ys.length) cu) (xs.length + ys.length) ((xs ++ ys).flatMap enc) → W.grownBy w' (some g) → (gu = g ∨ gu = W.heap.size) → wpList P ops Q rest (a.put o.dst (.slice (some ⟨gu, 0, none⟩) (xs.length + ys.length) cu)) w') : wpList P ops Q (o :: rest) a W := by
  refine wpList_plain hgd fun K hK => ?_
  obtain ⟨gu, cu, w', hr, h2, h3, h4⟩ := run_app_sep (P := P) (ty := o.type) hu hinfo hzs hn henc hone hown hrd h63 hbytes hbase
  unfold Oper.wp execOp
  simp only [ho, resolve, invoke, builtin, Sem.run_bind, Sem.run_pure, Result.andThen_ok, List.map_toArray, List.map_cons, List.map_nil, hs, hx, hr]
  exact hK _ _ (h gu cu w' h2 h3 h4)
end V
end Go.Proofs.YtjgglocabjpmeaaDoor
