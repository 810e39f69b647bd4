/- From a walk to a given row: a law that returns true and turns nothing that lay there meets its row. -/
import Derived.Deep.Slices
import Derived.Test.YtbpmokffhmiacaaGreatDoorBase
namespace Go.Proofs.YtbpmokffhmiacaaGreatDoor
open Go.RowKit Go.ChangeShapes Go.WideShapes Go.ChangeAt
namespace V
theorem trodAll_below {H : Type} {enc : TypeId × Value → H} {P : Program} (hl : laidOutB P = true) {W W' : World} (hb : Below W.heap.size W W') :
    ∀ {ts : List TypeId} {vs : List Value} {ds : List (DataW H)} {ps : List MemPlace}, (ts.all fun t => P.readableRec t && decide (t < P.types.size)) = true →
      DataW.TrodAll enc P W 0 (fun _ => true) true ts vs ds ps → (∀ x ∈ ps, x.block < W.heap.size) →
      DataW.TrodAll enc P W' 0 (fun b => decide (b < W.heap.size)) true ts vs ds ps
  | [], [], [], _, _, h, _ => h
  | [], [], _ :: _, _, _, h, _ => h.elim
  | [], _ :: _, _, _, _, h, _ => by cases h
  | _ :: _, [], _, _, _, h, _ => by cases h
  | _ :: _, _ :: _, [], _, _, h, _ => by cases h
  | t :: ts, v :: vs, d :: ds, ps, ht, h, hlt => by
    obtain ⟨p, q, h1, h2, rfl⟩ := h
    simp only [List.all_cons, Bool.and_eq_true, decide_eq_true_eq] at ht
    exact ⟨p, q, Below.trod hl ht.1.1 ht.1.2 h1 hb (fun x hx => hlt x (by simp [hx])), trodAll_below hl hb ht.2 h2 (fun x hx => hlt x (by simp [hx])), rfl⟩
theorem trodAll_len {H : Type} {enc : TypeId × Value → H} {P : Program} {W : World} {b : Nat} {sp : Nat → Bool} {hd : Bool} :
    ∀ {ts : List TypeId} {vs : List Value} {ds : List (DataW H)} {ps : List MemPlace}, DataW.TrodAll enc P W b sp hd ts vs ds ps → ds.length = ts.length
  | [], [], [], _, _ => rfl
  | [], [], _ :: _, _, h => h.elim
  | [], _ :: _, _, _, h => by cases h
  | _ :: _, [], _, _, h => by cases h
  | _ :: _, _ :: _, [], _, h => by cases h
  | _ :: _, _ :: _, _ :: _, _, h => by
    obtain ⟨p, q, _, h2, _⟩ := h
    simp [trodAll_len h2]
theorem law_lifted {H : Type} {enc : TypeId × Value → H} {C : Checked} {os : Os} {f T : Nat} {fn : Func} {s : ChangeSpec}
    (own : ownKnob C.prog.godebug = none) (started : os.Started) (noInit : C.prog.inits.idxOf? f = none) (hfn : C.prog.funcs[f]? = some fn)
    (hl : laidOutB C.prog = true) (hts : (fn.params.toList.all fun t => C.prog.readableRec t && decide (t < C.prog.types.size)) = true) (hvars : s.vars = [])
    (hres : fn.resultTypes = #[T]) (hT : C.prog.underlying T = some .bool)
    (hspec : ∀ ds : List (DataW H), ds.length = fn.params.toList.length → s.fn H ds = { results := [.lit (.bool true)], args := ds })
    (witness : ∃ (w : World) (tape : Tape) (i : Input), w.os = os ∧ (w.forCall tape i).Shaped C.prog ∧ i.vars = [] ∧ Input.okWide C.prog (w.forCall tape i) .any w.heap.size f i ∧
      s.pre6 enc C.prog fn [] false (w.forCall tape i).memory i.args ∧ ({} : Assume).holds C.prog (lone (Frame.enter C.prog f i.args .normal) [] (w.forCall tape i)))
    (walk : ∀ (W : World) (base : Nat) (args : Array Value) (ds : List (DataW H)) (before : List MemPlace),
      (∀ (j : Nat) t v, fn.params[j]? = some t → args[j]? = some v → Value.okWide C.prog W .any base t v) →
      DataW.TrodAll enc C.prog W 0 (fun _ => true) true fn.params.toList args.toList ds before → (∀ x ∈ before, x.block < W.heap.size) →
      (DataW.weightsEach C.prog fn.params.toList ds).all (· ≤ reachBytes) = true →
      Calls C.prog f args W fun e W' => e = .returned (.bool true) ∧ V.Ext W W') :
    ReturnsInHanded {} C os f .any (s.pre6 enc C.prog fn [] false) (s.post enc C.prog fn false true false false) := by
  refine returnsInHanded_of_change_sized own started noInit hfn witness ?_
  intro W base args ds gs before hval hW _ hsz _
  have hW' := hW
  have hltW := hW.lt
  obtain ⟨p, q, hA, hV, rfl, hfz, hnd⟩ := hW
  rw [hvars] at hV
  obtain ⟨rfl, rfl⟩ := trodVars_none hV
  have hlt : ∀ x ∈ p, x.block < W.heap.size := fun x hx => hltW x (by simp [hx])
  have hvt : s.plain.varTypes C.prog = [] := by simp [DataSpec.varTypes, ChangeSpec.plain, hvars]
  rw [hvt, List.append_nil, List.append_nil] at hsz
  refine (walk W base args ds p hval hA hlt hsz).mono fun e W' ⟨he, hb⟩ => ?_
  subst he
  refine ⟨_, rfl, ?_⟩
  have hlen := trodAll_len hA
  refine ⟨ds, [], p ++ [], [], p, [], hW', ?_, ?_, ?_, Below.frame hb _, fun h => by cases h⟩
  · rw [List.append_nil, hspec ds hlen, hres]
    exact trodAll_mk1 (shut_bool hT _)
  · rw [List.append_nil, hspec ds hlen]
    exact trodAll_below hl hb hts hA hlt
  · rw [List.append_nil, hspec ds hlen, hvars]
    rfl
/-- a slice whose elements, of n cells each, stand to xs as R says -/
def RdR {α : Type} (w : World) (n : Nat) (R : List Value → α → Prop) (v : Value) (xs : List α) : Prop :=
  ∃ (a : Option Addr) (c : Nat), v = .slice a xs.length c ∧ xs.length ≤ c ∧ (a = none → c = 0) ∧ ∀ i, (h : i < xs.length) → ∃ b o cs, a = some ⟨b, o, none⟩ ∧ cs.length = n ∧ At w b (o + i * n) cs ∧ R cs xs[i]
theorem RdR.rd {α : Type} {w : World} {n : Nat} {enc : α → List Value} {ok : α → Prop} {v : Value} {xs : List α} (h : RdR w n (fun cs x => cs = enc x ∧ ok x) v xs) : Rd w n enc v xs ∧ ∀ x ∈ xs, ok x := by
  obtain ⟨a, c, h1, h2, h3, h4⟩ := h
  refine ⟨⟨a, c, h1, h2, h3, fun i hi => ?_⟩, fun x hx => ?_⟩
  · obtain ⟨b, o, cs, e, _, hat, rfl, _⟩ := h4 i hi
    exact ⟨b, o, e, hat⟩
  · obtain ⟨i, hi, rfl⟩ := List.getElem_of_mem hx
    obtain ⟨b, o, cs, e, _, hat, _, hok⟩ := h4 i hi
    exact hok
theorem mapM_some_get {β γ : Type} {f : β → Option γ} : ∀ {l : List β} {r : List γ}, l.mapM f = some r → r.length = l.length ∧ ∀ i (h : i < l.length) (h' : i < r.length), f l[i] = some r[i]
  | [], r, h => by
    simp at h; subst h
    exact ⟨rfl, fun i h => absurd h (by simp)⟩
  | x :: l, r, h => by
    rw [List.mapM_cons] at h
    cases hf : f x with
    | none => rw [hf] at h; simp at h
    | some y =>
      rw [hf] at h
      cases hl : l.mapM f with
      | none => rw [hl] at h; simp at h
      | some ys =>
        rw [hl] at h
        simp at h
        subst h
        obtain ⟨h1, h2⟩ := mapM_some_get hl
        refine ⟨by simp [h1], fun i hi hi' => ?_⟩
        cases i with
        | zero => simpa using hf
        | succ i => exact h2 i (by simpa using hi) (by simpa using hi')
theorem cells?_at {w : World} {base n : Nat} {a : Addr} {cs : List Value} (h : w.cells? base a n = some cs) : cs.length = n ∧ ∀ j (hj : j < cs.length), w.cell? (a.add j) = some cs[j] := by
  unfold World.cells? at h
  split at h
  · obtain ⟨h1, h2⟩ := mapM_some_get h
    simp only [List.length_range] at h1
    refine ⟨h1, fun j hj => ?_⟩
    have := h2 j (by simp; omega) hj
    simpa using this
  · cases h
/-- all weights of a datum are within the form's reach -/
def Light {H : Type} (P : Program) (t : TypeId) (d : DataW H) : Prop := ∀ n ∈ d.weights P t, n ≤ reachBytes
theorem weightsEach_get {H : Type} {P : Program} : ∀ {ts : List TypeId} {ds : List (DataW H)} {i : Nat} {t : TypeId} {d : DataW H}, ts[i]? = some t → ds[i]? = some d → ∀ n ∈ d.weights P t, n ∈ DataW.weightsEach P ts ds
  | [], _, _, _, _, h, _ => by simp at h
  | _ :: _, [], _, _, _, _, h => by simp at h
  | t :: ts, d :: ds, 0, _, _, h, h' => by
    simp at h h'; subst h; subst h'
    intro n hn
    simp [DataW.weightsEach, hn]
  | t :: ts, d :: ds, i + 1, _, _, h, h' => by
    intro n hn
    simp only [DataW.weightsEach, List.mem_append]
    exact .inr (weightsEach_get (by simpa using h) (by simpa using h') n hn)
theorem weightsAll_get {H : Type} {P : Program} {e : TypeId} : ∀ {ds : List (DataW H)} {d : DataW H}, d ∈ ds → ∀ n ∈ d.weights P e, n ∈ DataW.weightsAll P e ds
  | d :: ds, _, .head _ => fun n hn => by simp [DataW.weightsAll, hn]
  | d :: ds, _, .tail _ h => fun n hn => by
    simp only [DataW.weightsAll, List.mem_append]
    exact .inr (weightsAll_get h n hn)
/-- one field of a struct that came in, of one cell -/
theorem trod_field {H : Type} {enc : TypeId × Value → H} {P : Program} {w : World} {t : TypeId} {fs : Array Field} {fuel i : Nat} {f : Field} {cs : List Value} {x : DataW H × List MemPlace} {c : Value}
    (ht : P.underlying t = some (.struct fs)) (hf : fs[i]? = some f) (ho : f.offset = i) (hc : P.cellsOf f.type = 1) (h : DataW.trod enc P w 0 (fun _ => true) true fuel t cs = some x)
    (hi : cs[i]? = some c) (hl : Light P t x.1) : ∃ n y, DataW.trod enc P w 0 (fun _ => true) true n f.type [c] = some y ∧ Light P f.type y.1 := by
  obtain ⟨xs, n, -, hx, -, hlen, hall⟩ := DataW.trod_struct ht h
  have h1 := hall i f hf
  have hlt := (List.getElem?_eq_some_iff.1 hi).1
  have e1 : (cs.drop f.offset).take (P.cellsOf f.type) = [c] := by
    rw [ho, hc, List.drop_eq_getElem_cons hlt]
    have := (List.getElem?_eq_some_iff.1 hi).2
    simp [this]
  rw [e1] at h1
  have hi2 : i < xs.length := by rw [hlen]; exact (Array.getElem?_eq_some_iff.1 hf).1
  rw [List.getElem?_eq_getElem hi2] at h1
  refine ⟨n, _, h1, fun m hm => hl m ?_⟩
  rw [hx]
  simp only [DataW.weights, ht]
  exact weightsEach_get (i := i) (by simp [hf]) (by simp [List.getElem?_eq_getElem hi2]) m hm
/-- what a slice that came in reads as -/
theorem open_rd {H α : Type} {enc : TypeId × Value → H} {P : Program} {w : World} {t e n fuel : Nat} {v : Value} {x : DataW H × List MemPlace} (R : List Value → α → Prop) (x0 : α)
    (ht : P.underlying t = some (.slice e)) (hn : P.cellsOf e = n) (hn0 : 0 < n)
    (dec : ∀ fuel cs y, DataW.trod enc P w 0 (fun _ => true) true fuel e cs = some y → Light P e y.1 → cs.length = n → ∃ x : α, R cs x)
    (h : DataW.trod enc P w 0 (fun _ => true) true fuel t [v] = some x) (hlt : Light P t x.1) :
    ∃ xs : List α, RdR w n R v xs ∧ xs.length ≤ maxLen ∧ xs.length * P.bytesOf e ≤ reachBytes ∧ ((x.1 = .nil ∧ xs = []) ∨ ∃ es sp, x.1 = .slice es sp ∧ es.length = xs.length) := by
  rcases Go.Deep.open_slice ht h with ⟨h1, h2⟩ | ⟨a, len, cap, m, k, D, Pl, h1, hb, hl, hm, hsp, hx, hel⟩
  · simp only [List.cons.injEq, and_true] at h1
    subst h1
    subst h2
    exact ⟨[], ⟨none, 0, rfl, by simp, fun _ => rfl, fun i hi => absurd hi (by simp)⟩, by simp, by simp, .inl ⟨rfl, rfl⟩⟩
  · simp only [List.cons.injEq, and_true] at h1
    subst h1
    simp only [if_true] at hsp
    subst hsp
    have hw : (len + (m - len)) * P.bytesOf e ≤ reachBytes := hlt _ (by rw [hx]; simp [DataW.weights, ht])
    have each : ∀ i, i < len → ∃ x : α, ∃ cs, cs.length = n ∧ (∀ j (hj : j < cs.length), w.cell? ((a.add (i * n)).add j) = some cs[j]) ∧ R cs x := by
      intro i hi
      obtain ⟨cs, hc, hd⟩ := hel i (by omega)
      rw [hn] at hc
      obtain ⟨hlen, hcell⟩ := cells?_at hc
      obtain ⟨x, hx'⟩ := dec _ _ _ hd (fun q hq => hlt q (by
        rw [hx]
        simp only [DataW.weights, ht, List.mem_cons, List.mem_append]
        exact .inr (.inl (weightsAll_get (List.mem_map.2 ⟨i, List.mem_range.2 hi, rfl⟩) q hq)))) hlen
      exact ⟨x, cs, hlen, hcell, hx'⟩
    have pick : ∃ g : Nat → α, ∀ i, i < len → ∃ cs, cs.length = n ∧ (∀ j (hj : j < cs.length), w.cell? ((a.add (i * n)).add j) = some cs[j]) ∧ R cs (g i) := by
      classical
      refine ⟨fun i => if hi : i < len then (each i hi).choose else x0, fun i hi => ?_⟩
      simp only [hi, dif_pos]
      exact (each i hi).choose_spec
    obtain ⟨g, hg⟩ := pick
    refine ⟨(List.range len).map g, ⟨some a, m, by simp, by simpa using hl, (fun h => by cases h), fun i hi => ?_⟩, by simp; omega, ?_, .inr ⟨_, _, by rw [hx], by simp⟩⟩
    · simp only [List.length_map, List.length_range] at hi
      obtain ⟨cs, hlen, hcell, hr⟩ := hg i hi
      have hsp : a.spot = none := by
        obtain ⟨cs0, hlen0, hcell0, _⟩ := hg 0 (by omega)
        have := hcell0 0 (by omega)
        simp only [Nat.zero_mul, Addr.add, if_true] at this
        cases hs : a.spot with
        | none => rfl
        | some s =>
          simp only [World.cell?, hs] at this
          split at this <;> simp at this
      refine ⟨a.block, a.off, cs, ?_, hlen, fun j hj => ?_, by simpa using hr⟩
      · cases a; simp at hsp; subst hsp; rfl
      · have h3 := hcell j hj
        have e1 : (a.add (i * n)).add j = ⟨a.block, a.off + i * n + j, none⟩ := by
          cases a with
          | mk b o s =>
            simp at hsp; subst hsp
            unfold Addr.add
            by_cases h1 : i * n = 0 <;> by_cases h2 : j = 0 <;> simp [h1, h2]
        rw [e1] at h3
        exact h3
    · simp only [List.length_map, List.length_range]
      exact Nat.le_trans (Nat.mul_le_mul_right _ (by omega)) hw
theorem open_str {H : Type} {enc : TypeId × Value → H} {P : Program} {w : World} {base : Nat} {sp : Nat → Bool} {held : Bool} {r : Reach} {b0 : Nat} {t : TypeId} {v : Value} {d : DataW H} {ps : List MemPlace} (ht : P.underlying t = some .string) (hval : Value.okWide P w r b0 t v) (hd : DataW.Trod enc P w base sp held t v d ps) :
    ∃ s : ByteArray, v = .string s ∧ d = .lit (.string s.data.toList) ∧ ps = [] ∧ s.size ≤ maxLen := by
  obtain ⟨s, rfl⟩ := okWide_string ht hval
  obtain ⟨fuel, hf⟩ := hd
  obtain ⟨s', h, hx, hs⟩ := DataW.trod_string ht hf
  simp [Value.cells] at h
  subst h
  simp at hx
  exact ⟨s, rfl, hx.1, hx.2, hs⟩
theorem slice_cells {v : Value} (hv : ∃ a l c, v = .slice a l c) : v.cells.toList = [v] := by
  obtain ⟨a, l, c, rfl⟩ := hv; rfl
theorem light_of {H : Type} {P : Program} {ts : List TypeId} {ds : List (DataW H)} (h : (DataW.weightsEach P ts ds).all (· ≤ reachBytes) = true) {i : Nat} {t : TypeId} {d : DataW H}
    (ht : ts[i]? = some t) (hd : ds[i]? = some d) : Light P t d := fun n hn => by
  have := List.all_eq_true.1 h n (weightsEach_get ht hd n hn)
  simpa using this
end V
end Go.Proofs.YtbpmokffhmiacaaGreatDoor
