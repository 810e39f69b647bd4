/- Whatever reads as a list appended to a slice that the call at hand has made; parts of what reads as a list. -/
import Derived.Laws.AppendOwnNone
import Derived.Test.YtbpmokffhmiacaaGreatDoorOwn
namespace Go.Proofs.YtbpmokffhmiacaaGreatDoor
open Go.RowKit
namespace V
/-- the cells of what reads as a list, one behind the other -/
theorem Rd.cells {α : Type} {w : World} {n : Nat} {enc : α → List Value} (henc : ∀ x, (enc x).length = n) {ad : Addr} {m c : Nat} {ys : List α} (h : Rd w n enc (.slice (some ad) m c) ys) :
    m = ys.length ∧ ∀ j u, (ys.flatMap enc)[j]? = some u → w.cell? (ad.add j) = some u := by
  obtain ⟨a, c', e, h1, h2, h3⟩ := h
  simp only [Value.slice.injEq] at e
  obtain ⟨rfl, rfl, rfl⟩ := e
  refine ⟨rfl, fun j u hu => ?_⟩
  have hfl := flat_length henc ys
  have hj := (List.getElem?_eq_some_iff.1 hu).1
  rw [hfl] at hj
  have hn0 : 0 < n := by
    rcases Nat.eq_zero_or_pos n with h0 | h0
    · rw [h0] at hj; omega
    · exact h0
  have hi : j / n < ys.length := Nat.div_lt_of_lt_mul (by rw [Nat.mul_comm]; exact hj)
  have hm' : j % n < n := Nat.mod_lt _ hn0
  have hjd : j = j / n * n + j % n := by rw [Nat.mul_comm]; exact (Nat.div_add_mod j n).symm
  obtain ⟨b, o, e', hat⟩ := h3 (j / n) hi
  obtain rfl := Option.some.inj e'
  have hcell := hat (j % n) (by rw [henc]; exact hm')
  have e1 := flat_get henc ys (j / n) (j % n) hi hm'
  rw [← hjd, hu] at e1
  have e2 : (enc ys[j / n])[j % n]'(by rw [henc]; exact hm') = u := by
    rw [List.getElem?_eq_getElem (by rw [henc]; exact hm')] at e1
    exact (Option.some.inj e1).symm
  rw [e2, show o + j / n * n + j % n = o + j by omega] at hcell
  unfold Addr.add
  split
  · rename_i hj0; subst hj0; simpa using hcell
  · exact hcell
/-- a new block of elements reads as them -/
theorem rd_lit {α : Type} {n : Nat} {enc : α → List Value} (henc : ∀ x, (enc x).length = n) (W : World) (xs : List α) (t : TypeId) (g : Nat) (hg : g = W.heap.size) : Rd (W.alloc (.cells (xs.flatMap enc).toArray t)) n enc (.slice (some ⟨g, 0, none⟩) xs.length xs.length) xs := by
  refine ⟨_, _, rfl, Nat.le_refl _, (fun h => by cases h), fun i hi => ⟨_, _, rfl, fun j hj => ?_⟩⟩
  have hj' : j < n := by rw [henc] at hj; exact hj
  have := flat_get henc xs i j hi hj'
  have h2 := cells_new' W (xs.flatMap enc) t g hg (i * n + j) _ (this.trans (List.getElem?_eq_getElem hj))
  have e : (⟨g, 0, none⟩ : Addr).add (i * n + j) = ⟨g, 0 + i * n + j, none⟩ := by
    simp only [Addr.add]
    (split <;> simp_all)
  rw [e] at h2
  exact h2
theorem rd_none {α : Type} (w : World) (n : Nat) (enc : α → List Value) : Rd w n enc (.slice none 0 0) ([] : List α) := ⟨none, 0, rfl, Nat.le_refl _, fun _ => rfl, fun i hi => by cases hi⟩
theorem flat_one {α : Type} {enc : α → List Value} (hone : ∀ x, ∀ u ∈ enc x, u.oneCell' = true) (xs : List α) : ∀ u ∈ xs.flatMap enc, u.oneCell' = true := fun u hu => by
  obtain ⟨x, _, hx⟩ := List.mem_flatMap.1 hu
  exact hone x u hx
theorem own_form {w : World} {base e n k : Nat} {v : Value} {zs : List Value} (h : w.ownsRow base e n v k zs) : ∃ a c, v = .slice a k c := by
  rcases h.2 with ⟨rfl, rfl⟩ | ⟨g, cap, cur, rfl, _⟩
  · exact ⟨none, 0, rfl⟩
  · exact ⟨_, _, rfl⟩
theorem run_app_rd {α : Type} {P : Program} {W : World} {t ty e : TypeId} {n bytes : Nat} {z : Value} (hu : P.underlying t = some (.slice e)) (hinfo : (P.info? e).map (fun i => (i.zero, i.size, i.bytes)) = some (some z, n, bytes)) (hzs : z.cells.size = n) (hn : 0 < n)
    {enc : α → List Value} (henc : ∀ x, (enc x).length = n) (hone : ∀ x, ∀ u ∈ enc x, u.oneCell' = true) {base : Nat} {u v : Value} {xs ys : List α} (hown : W.ownsRow base e n u xs.length (xs.flatMap enc)) (hrd : Rd W n enc v ys)
    (h63 : xs.length + ys.length ≤ 100000000) (hbytes : bytes ≤ 1000000) (hbase : base ≤ W.heap.size) :
    ∃ au cu w', (Builtin.append_ #[t, t] ty #[u, v]).run P W = .ok (.slice au (xs.length + ys.length) cu) w' ∧ w'.ownsRow base e n (.slice au (xs.length + ys.length) cu) (xs.length + ys.length) ((xs ++ ys).flatMap enc) ∧ W.grownBy w' u.ownBlock := by
  obtain ⟨i0, hi, hz0, hz1, hz2⟩ := info_parts hinfo
  obtain ⟨a, c, rfl, hle, hnil, hel⟩ := id hrd
  cases a with
  | none =>
    obtain rfl := hnil rfl
    have hys : ys = [] := List.eq_nil_of_length_eq_zero (by omega)
    subst hys
    obtain ⟨au, cu, rfl⟩ := own_form hown
    refine ⟨au, cu, W, run_append_owned_none (w := W) base t ty e i0 n hu hi _ _ _ hown, ?_, World.grownBy.refl W _⟩
    simpa using hown
  | some ad =>
    obtain ⟨-, hcells⟩ := hrd.cells henc
    have hb2 : (xs.length + ys.length) * bytes ≤ 100000000 * 1000000 := Nat.mul_le_mul h63 hbytes
    obtain ⟨v', w', hr, h2, h3, -⟩ := run_append_own (P := P) W base t ty e i0 z n bytes hu hi hz0 hz1 hz2 hzs hn u xs.length _ hown ad ys.length c (ys.flatMap enc) (flat_length henc ys) hcells (flat_one hone ys) (by unfold maxLen; omega) (by omega) hbase
    obtain ⟨au, cu, rfl⟩ := own_form h2
    exact ⟨au, cu, w', hr, by rw [List.flatMap_append]; exact h2, h3⟩
theorem wp_app_g {α : Type} {P : Program} {W : World} {o : Oper} {a : Act} {K : Act → World → Prop} {Q : Exit → Act → World → Prop} (s x : Operand) (t : TypeId)
    (ho : o.op = .call { callee := .builtin .append, args := #[s, x], argTypes := #[t, t] }) {e : TypeId} {n bytes : Nat} {z : Value} (hu : P.underlying t = some (.slice e)) (hinfo : (P.info? e).map (fun i => (i.zero, i.size, i.bytes)) = some (some z, n, bytes)) (hzs : z.cells.size = n) (hn : 0 < n)
    {enc : α → List Value} (henc : ∀ x, (enc x).length = n) (hone : ∀ x, ∀ u ∈ enc x, u.oneCell' = true) (base : Nat) (u v : Value) (xs ys : List α) (hs : a.eval s = u) (hx : a.eval x = v) (hown : W.ownsRow base e n u xs.length (xs.flatMap enc)) (hrd : Rd W n enc v ys)
    (h63 : xs.length + ys.length ≤ 100000000) (hbytes : bytes ≤ 1000000) (hbase : base ≤ W.heap.size)
    (h : ∀ au cu w', w'.ownsRow base e n (.slice au (xs.length + ys.length) cu) (xs.length + ys.length) ((xs ++ ys).flatMap enc) → W.grownBy w' u.ownBlock → K (a.put o.dst (.slice au (xs.length + ys.length) cu)) w') : o.wp P a W K Q := by
  obtain ⟨au, cu, w', hr, h2, h3⟩ := run_app_rd (P := P) (ty := o.type) hu hinfo hzs hn henc hone hown hrd h63 hbytes hbase
  unfold Oper.wp execOp
  simp only [ho, resolve, invoke, builtin, Sem.run_bind, Sem.run_pure, Result.andThen_ok, List.map_toArray, List.map_cons, List.map_nil, hs, hx, hr]
  exact h au cu w' h2 h3
theorem wpList_app_g {α : Type} {P : Program} {W : World} {ops : Array Oper} {rest : List Oper} {o : Oper} {a : Act} {Q : Exit → Act → World → Prop} (hgd : o.guard = none) (s x : Operand) (t : TypeId)
    (ho : o.op = .call { callee := .builtin .append, args := #[s, x], argTypes := #[t, t] }) {e : TypeId} {n bytes : Nat} {z : Value} (hu : P.underlying t = some (.slice e)) (hinfo : (P.info? e).map (fun i => (i.zero, i.size, i.bytes)) = some (some z, n, bytes)) (hzs : z.cells.size = n) (hn : 0 < n)
    {enc : α → List Value} (henc : ∀ x, (enc x).length = n) (hone : ∀ x, ∀ u ∈ enc x, u.oneCell' = true) (base : Nat) (u v : Value) (xs ys : List α) (hs : a.eval s = u) (hx : a.eval x = v) (hown : W.ownsRow base e n u xs.length (xs.flatMap enc)) (hrd : Rd W n enc v ys)
    (h63 : xs.length + ys.length ≤ 100000000) (hbytes : bytes ≤ 1000000) (hbase : base ≤ W.heap.size)
    (h : ∀ au cu w', w'.ownsRow base e n (.slice au (xs.length + ys.length) cu) (xs.length + ys.length) ((xs ++ ys).flatMap enc) → W.grownBy w' u.ownBlock → wpList P ops Q rest (a.put o.dst (.slice au (xs.length + ys.length) cu)) w') : wpList P ops Q (o :: rest) a W :=
  wpList_plain hgd fun _ hK => wp_app_g s x t ho hu hinfo hzs hn henc hone base u v xs ys hs hx hown hrd h63 hbytes hbase fun au cu w' h2 h3 => hK _ _ (h au cu w' h2 h3)
theorem step_app_g {α : Type} {P : Program} {W : World} {ops : Array Oper} {o : Oper} {a : Act} {K : Act → World → Prop} {Q : Exit → Act → World → Prop} {E : Prop} (hgd : o.guard = none) (s x : Operand) (t : TypeId)
    (ho : o.op = .call { callee := .builtin .append, args := #[s, x], argTypes := #[t, t] }) {e : TypeId} {n bytes : Nat} {z : Value} (hu : P.underlying t = some (.slice e)) (hinfo : (P.info? e).map (fun i => (i.zero, i.size, i.bytes)) = some (some z, n, bytes)) (hzs : z.cells.size = n) (hn : 0 < n)
    {enc : α → List Value} (henc : ∀ x, (enc x).length = n) (hone : ∀ x, ∀ u ∈ enc x, u.oneCell' = true) (base : Nat) (u v : Value) (xs ys : List α) (hs : a.eval s = u) (hx : a.eval x = v) (hown : W.ownsRow base e n u xs.length (xs.flatMap enc)) (hrd : Rd W n enc v ys)
    (h63 : xs.length + ys.length ≤ 100000000) (hbytes : bytes ≤ 1000000) (hbase : base ≤ W.heap.size)
    (h : ∀ au cu w', w'.ownsRow base e n (.slice au (xs.length + ys.length) cu) (xs.length + ys.length) ((xs ++ ys).flatMap enc) → W.grownBy w' u.ownBlock → K (a.put o.dst (.slice au (xs.length + ys.length) cu)) w') :
    if Region.wanted o (yielded ops a.tmps) = true then Oper.wp P o a W K Q else E := by
  have hw : Region.wanted o (yielded ops a.tmps) = true := by simp [Region.wanted, hgd]
  rw [if_pos hw]
  exact wp_app_g s x t ho hu hinfo hzs hn henc hone base u v xs ys hs hx hown hrd h63 hbytes hbase h
/-- a new block of elements is the call's own -/
theorem own_lit {α : Type} {n : Nat} {enc : α → List Value} (henc : ∀ x, (enc x).length = n) (W : World) (xs : List α) (e g base : Nat) (hg : g = W.heap.size) (hb : base ≤ W.heap.size) (hm : xs.length ≤ maxLen) :
    (W.alloc (.cells (xs.flatMap enc).toArray e)).ownsRow base e n (.slice (some ⟨g, 0, none⟩) xs.length xs.length) xs.length (xs.flatMap enc) := by
  subst hg
  refine ⟨flat_length henc xs, .inr ⟨_, _, _, rfl, hb, heap_alloc_new W _, Nat.le_refl _, hm, by simp [flat_length henc xs], ?_⟩⟩
  rw [← flat_length henc xs]
  exact List.take_length
theorem ownsRow_drewN {w : World} {base e n k : Nat} {v : Value} {zs : List Value} (h : w.ownsRow base e n v k zs) (m : Nat) : (w.drewN m).ownsRow base e n v k zs := ⟨h.1, by rw [heap_drewN]; exact h.2⟩
/-- own memory that is kept reads as it read -/
theorem ownsRow_keep {w w' : World} {S : Nat → Prop} {base e n k : Nat} {v : Value} {zs : List Value} (h : w.ownsRow base e n v k zs) (hk : Keep S w w') (hs : ∀ b, v.ownBlock = some b → S b) : w'.ownsRow base e n v k zs := by
  refine ⟨h.1, ?_⟩
  rcases h.2 with h2 | ⟨g, cap, cur, rfl, hg, hh, r⟩
  · exact .inl h2
  · exact .inr ⟨g, cap, cur, rfl, hg, (hk.block g (hs g rfl)).trans hh, r⟩
theorem wp_app_rd {α : Type} {P : Program} {W : World} {o : Oper} {a : Act} {K : Act → World → Prop} {Q : Exit → Act → World → Prop} (s x : Operand) (t : TypeId)
    (ho : o.op = .call { callee := .builtin .append, args := #[s, x], argTypes := #[t, t] }) {e : TypeId} {n bytes : Nat} {z : Value} (hu : P.underlying t = some (.slice e)) (hinfo : (P.info? e).map (fun i => (i.zero, i.size, i.bytes)) = some (some z, n, bytes)) (hzs : z.cells.size = n) (hn : 0 < n)
    {enc : α → List Value} (henc : ∀ x, (enc x).length = n) (hone : ∀ x, ∀ u ∈ enc x, u.oneCell' = true) (w0 : World) (u v : Value) (xs ys : List α) (hs : a.eval s = u) (hx : a.eval x = v) (hown : W.ownsRow w0.heap.size e n u xs.length (xs.flatMap enc)) (hrd : Rd W n enc v ys)
    (h63 : xs.length + ys.length ≤ 100000000) (hbytes : bytes ≤ 1000000) (hE : Ext w0 W)
    (h : ∀ au cu w', w'.ownsRow w0.heap.size e n (.slice au (xs.length + ys.length) cu) (xs.length + ys.length) ((xs ++ ys).flatMap enc) → Ext w0 w' → K (a.put o.dst (.slice au (xs.length + ys.length) cu)) w') : o.wp P a W K Q := by
  have hlo := hown.lt
  obtain ⟨au, cu, w', hr, h2, h3⟩ := run_app_rd (P := P) (ty := o.type) hu hinfo hzs hn henc hone hown hrd h63 hbytes hE.size
  unfold Oper.wp execOp
  simp only [ho, resolve, invoke, builtin, Sem.run_bind, Sem.run_pure, Result.andThen_ok, List.map_toArray, List.map_cons, List.map_nil, hs, hx, hr]
  exact h au cu w' h2 (hE.grown h3 (fun k e => (hlo k e).1))
theorem wpList_app_rd {α : Type} {P : Program} {W : World} {ops : Array Oper} {rest : List Oper} {o : Oper} {a : Act} {Q : Exit → Act → World → Prop} (hgd : o.guard = none) (s x : Operand) (t : TypeId)
    (ho : o.op = .call { callee := .builtin .append, args := #[s, x], argTypes := #[t, t] }) {e : TypeId} {n bytes : Nat} {z : Value} (hu : P.underlying t = some (.slice e)) (hinfo : (P.info? e).map (fun i => (i.zero, i.size, i.bytes)) = some (some z, n, bytes)) (hzs : z.cells.size = n) (hn : 0 < n)
    {enc : α → List Value} (henc : ∀ x, (enc x).length = n) (hone : ∀ x, ∀ u ∈ enc x, u.oneCell' = true) (w0 : World) (u v : Value) (xs ys : List α) (hs : a.eval s = u) (hx : a.eval x = v) (hown : W.ownsRow w0.heap.size e n u xs.length (xs.flatMap enc)) (hrd : Rd W n enc v ys)
    (h63 : xs.length + ys.length ≤ 100000000) (hbytes : bytes ≤ 1000000) (hE : Ext w0 W)
    (h : ∀ au cu w', w'.ownsRow w0.heap.size e n (.slice au (xs.length + ys.length) cu) (xs.length + ys.length) ((xs ++ ys).flatMap enc) → Ext w0 w' → wpList P ops Q rest (a.put o.dst (.slice au (xs.length + ys.length) cu)) w') : wpList P ops Q (o :: rest) a W :=
  wpList_plain hgd fun _ hK => wp_app_rd s x t ho hu hinfo hzs hn henc hone w0 u v xs ys hs hx hown hrd h63 hbytes hE fun au cu w' h2 h3 => hK _ _ (h au cu w' h2 h3)
/-- the same of a guarded one, that is wanted -/
theorem wpList_app_rd_w {α : Type} {P : Program} {W : World} {ops : Array Oper} {rest : List Oper} {o : Oper} {a : Act} {Q : Exit → Act → World → Prop} (hw : Region.wanted o (yielded ops a.tmps) = true) (s x : Operand) (t : TypeId)
    (ho : o.op = .call { callee := .builtin .append, args := #[s, x], argTypes := #[t, t] }) {e : TypeId} {n bytes : Nat} {z : Value} (hu : P.underlying t = some (.slice e)) (hinfo : (P.info? e).map (fun i => (i.zero, i.size, i.bytes)) = some (some z, n, bytes)) (hzs : z.cells.size = n) (hn : 0 < n)
    {enc : α → List Value} (henc : ∀ x, (enc x).length = n) (hone : ∀ x, ∀ u ∈ enc x, u.oneCell' = true) (w0 : World) (u v : Value) (xs ys : List α) (hs : a.eval s = u) (hx : a.eval x = v) (hown : W.ownsRow w0.heap.size e n u xs.length (xs.flatMap enc)) (hrd : Rd W n enc v ys)
    (h63 : xs.length + ys.length ≤ 100000000) (hbytes : bytes ≤ 1000000) (hE : Ext w0 W)
    (h : ∀ au cu w', w'.ownsRow w0.heap.size e n (.slice au (xs.length + ys.length) cu) (xs.length + ys.length) ((xs ++ ys).flatMap enc) → Ext w0 w' → wpList P ops Q rest (a.put o.dst (.slice au (xs.length + ys.length) cu)) w') : wpList P ops Q (o :: rest) a W :=
  wpList_step fun K hK => by
    rw [if_pos hw]
    exact wp_app_rd s x t ho hu hinfo hzs hn henc hone w0 u v xs ys hs hx hown hrd h63 hbytes hE fun au cu w' h2 h3 => hK _ _ (h au cu w' h2 h3)
theorem step_app_rd {α : Type} {P : Program} {W : World} {ops : Array Oper} {o : Oper} {a : Act} {K : Act → World → Prop} {Q : Exit → Act → World → Prop} {E : Prop} (hgd : o.guard = none) (s x : Operand) (t : TypeId)
    (ho : o.op = .call { callee := .builtin .append, args := #[s, x], argTypes := #[t, t] }) {e : TypeId} {n bytes : Nat} {z : Value} (hu : P.underlying t = some (.slice e)) (hinfo : (P.info? e).map (fun i => (i.zero, i.size, i.bytes)) = some (some z, n, bytes)) (hzs : z.cells.size = n) (hn : 0 < n)
    {enc : α → List Value} (henc : ∀ x, (enc x).length = n) (hone : ∀ x, ∀ u ∈ enc x, u.oneCell' = true) (w0 : World) (u v : Value) (xs ys : List α) (hs : a.eval s = u) (hx : a.eval x = v) (hown : W.ownsRow w0.heap.size e n u xs.length (xs.flatMap enc)) (hrd : Rd W n enc v ys)
    (h63 : xs.length + ys.length ≤ 100000000) (hbytes : bytes ≤ 1000000) (hE : Ext w0 W)
    (h : ∀ au cu w', w'.ownsRow w0.heap.size e n (.slice au (xs.length + ys.length) cu) (xs.length + ys.length) ((xs ++ ys).flatMap enc) → Ext w0 w' → K (a.put o.dst (.slice au (xs.length + ys.length) cu)) w') :
    if Region.wanted o (yielded ops a.tmps) = true then Oper.wp P o a W K Q else E := by
  have hw : Region.wanted o (yielded ops a.tmps) = true := by simp [Region.wanted, hgd]
  rw [if_pos hw]
  exact wp_app_rd s x t ho hu hinfo hzs hn henc hone w0 u v xs ys hs hx hown hrd h63 hbytes hE h
/-- a slice made with room for some elements, and none in it -/
theorem wpList_make_room {P : Program} {w : World} {ops : Array Oper} {rest : List Oper} {o : Oper} {a : Act} {Q : Exit → Act → World → Prop} (hgd : o.guard = none) (l c : Operand) (t : TypeId) (hop : o.op = Op.makeSlice t l c)
    {e : TypeId} {n bytes : Nat} {z : Value} (hu : P.underlying t = some (.slice e)) (hinfo : (P.info? e).map (fun i => (i.zero, i.size, i.bytes)) = some (some z, n, bytes)) (w0 : World) (kl kc : IntKind) (C : Int) (m : Nat)
    (hl : a.eval l = .int kl 0) (hc : a.eval c = .int kc C) (hC : C = (m : Int)) (b2 : bytes * m ≤ 281474976710656) (b3 : m ≤ maxLen) (hE : Ext w0 w)
    (h : ∀ w', w'.ownsRow w0.heap.size e n (.slice (some ⟨w.heap.size, 0, none⟩) 0 m) 0 [] → Ext w0 w' → wpList P ops Q rest (a.put o.dst (.slice (some ⟨w.heap.size, 0, none⟩) 0 m)) w') : wpList P ops Q (o :: rest) a w := by
  obtain ⟨i0, hi, hz0, hz1, hz2⟩ := info_parts hinfo
  obtain ⟨w', hrun, r1, r2⟩ := run_make_own (P := P) w w0.heap.size t e i0 z n hu hi hz0 hz1 kl kc m (by rw [hz2]; exact b2) b3 hE.size
  refine wpList_plain hgd fun K hK => ?_
  subst hC
  unfold Oper.wp
  simp [execOp, hop, hl, hc, hrun, Result.andThen]
  exact hK _ _ (h w' r1 (hE.grown r2 (by intro k hk; cases hk)))
theorem Rd.take {α : Type} {w : World} {n : Nat} {enc : α → List Value} {a : Option Addr} {m c : Nat} {xs : List α} (h : Rd w n enc (.slice a m c) xs) {k c' : Nat} (hk : k ≤ xs.length) (hc : k ≤ c') (hn : a = none → c' = 0) : Rd w n enc (.slice a k c') (xs.take k) := by
  obtain ⟨a', c0, e, h1, h2, h3⟩ := h
  simp only [Value.slice.injEq] at e
  obtain ⟨rfl, rfl, rfl⟩ := e
  have hl : (xs.take k).length = k := by rw [List.length_take]; omega
  refine ⟨a, c', by rw [hl], by omega, hn, fun i hi => ?_⟩
  obtain ⟨b, o, e, hat⟩ := h3 i (by omega)
  exact ⟨b, o, e, by rw [List.getElem_take]; exact hat⟩
theorem Rd.drop {α : Type} {w : World} {n : Nat} {enc : α → List Value} {a : Option Addr} {m c : Nat} {xs : List α} (h : Rd w n enc (.slice a m c) xs) {k : Nat} (hk : k ≤ xs.length) {a' : Option Addr} {c' : Nat} (ha : k < xs.length → a' = a.map (·.add (k * n))) (hn : a' = none → c' = 0) (hc : xs.length - k ≤ c') :
    Rd w n enc (.slice a' (xs.length - k) c') (xs.drop k) := by
  obtain ⟨a0, c0, e, h1, h2, h3⟩ := h
  simp only [Value.slice.injEq] at e
  obtain ⟨rfl, rfl, rfl⟩ := e
  have hl : (xs.drop k).length = xs.length - k := by rw [List.length_drop]
  refine ⟨a', c', by rw [hl], by omega, hn, fun i hi => ?_⟩
  obtain ⟨b, o, rfl, hat⟩ := h3 (k + i) (by omega)
  refine ⟨b, o + k * n, ?_, ?_⟩
  · rw [ha (by omega)]
    simp only [Option.map_some, Addr.add]
    split
    · rename_i h0; rw [h0]; rfl
    · rfl
  · rw [List.getElem_drop]
    rw [Nat.add_mul, ← Nat.add_assoc] at hat
    exact hat
/-- what is cut off a slice ahead of a place: its address behind one name -/
theorem run_slice_from {P : Program} {t e : TypeId} {n : Nat} (ht : P.underlying t = some (.slice e)) (he : P.elem t = e) (hn : (P.info? e).map (·.size) = some n) (a : Option Addr) (len c k : Nat) (hk : k ≤ len) :
    ∃ A, (∀ (K : Int), K = (k : Int) → ∀ W, (Instr.sliceAt t (.slice a len c) (some (.int .i64 K)) none none).run P W = .ok (.slice A (len - k) (c - k)) W) ∧ (c ≠ k → A = a.map (·.add (k * n))) ∧ (A = none → a = none) := by
  obtain ⟨inf, hinf, hs⟩ : ∃ inf, P.info? e = some inf ∧ inf.size = n := by
    cases hh : P.info? e with
    | none => rw [hh] at hn; cases hn
    | some inf => rw [hh] at hn; exact ⟨inf, rfl, by simpa using hn⟩
  subst he
  refine ⟨if c = k then a else a.map (·.add (k * n)), fun K hK W => ?_, fun h => by rw [if_neg h], fun h => ?_⟩
  · subst hK
    rw [run_sliceAt_slice (h := ht), run_slice_l (ht := ht) (h0 := by omega) (h1 := by omega)]
    simp [sizeOf, typeInfo, hinf, hs, sliced]
  · split at h
    · exact h
    · cases a with
      | none => rfl
      | some a => simp at h
end V
end Go.Proofs.YtbpmokffhmiacaaGreatDoor
