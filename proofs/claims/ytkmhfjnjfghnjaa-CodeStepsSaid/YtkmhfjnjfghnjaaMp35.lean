import Derived.Test.YtkmhfjnjfghnjaaMp34
/- Cut out of XSpanP by wip/tools/cutout.py: what all of XSpanP lean on. -/
namespace Go.Proofs.Ytkmhfjnjfghnjaa
open Go.RowKit V
namespace L23
theorem chain_app : ∀ (xs ys : List Span) (n : Nat), chain (xs ++ ys) n = (chain xs n).bind (chain ys)
  | [], ys, n => rfl
  | s :: r, ys, n => by
    simp only [List.cons_append, chain]
    split
    · exact chain_app r ys _
    · rfl
theorem chain_cons {s : Span} {r : List Span} {n m : Nat} (h : chain (s :: r) n = some m) : s.lo = n ∧ s.lo ≤ s.hi ∧ chain r (s.hi + 1) = some m := by
  unfold chain at h
  split at h
  · rename_i hc; exact ⟨hc.1, hc.2, h⟩
  · cases h
theorem chain_mk {s : Span} {r : List Span} {n m : Nat} (h1 : s.lo = n) (h2 : s.lo ≤ s.hi) (h : chain r (s.hi + 1) = some m) : chain (s :: r) n = some m := by
  unfold chain
  rw [if_pos ⟨h1, h2⟩, h]
theorem chain_split {xs ys : List Span} {n m : Nat} (h : chain (xs ++ ys) n = some m) : ∃ b, chain xs n = some b ∧ chain ys b = some m := by
  rw [chain_app] at h
  cases hx : chain xs n with
  | none => rw [hx] at h; cases h
  | some b => rw [hx] at h; exact ⟨b, rfl, h⟩
theorem chain_join {xs ys : List Span} {n b : Nat} (h : chain xs n = some b) : chain (xs ++ ys) n = chain ys b := by rw [chain_app, h]; rfl
theorem way_app : ∀ (xs ys : List Span) (n : Nat), way (xs ++ ys) n = if (way xs n).2 = true then way xs n else way ys n
  | [], ys, n => rfl
  | s :: r, ys, n => by
    simp only [List.cons_append, way]
    split
    · rfl
    · exact way_app r ys n
theorem put_snoc (i : List Span) (l s : Span) : put (i ++ [l]) s = if l.way = s.way then i ++ [⟨l.lo, s.hi, l.way⟩] else i ++ [l, s] := by
  unfold put
  rw [List.getLast?_append, List.getLast?_singleton]
  simp only [Option.some_or]
  split
  · rw [List.length_append, List.length_singleton, Nat.add_sub_cancel, List.set_append_right _ _ (Nat.le_refl _), Nat.sub_self]; rfl
  · simp
theorem nil_or_snoc (out : List Span) : out = [] ∨ ∃ i l, out = i ++ [l] := by
  rcases List.eq_nil_or_concat out with h | ⟨i, l, h⟩
  · exact .inl h
  · exact .inr ⟨i, l, by simpa using h⟩
theorem chain_put {out ys : List Span} {y : Span} {a m : Nat} (h : chain (out ++ y :: ys) a = some m) : chain (put out y ++ ys) a = some m := by
  rcases nil_or_snoc out with rfl | ⟨i, l, rfl⟩
  · exact h
  · rw [put_snoc]
    split
    · rw [List.append_assoc] at h ⊢
      obtain ⟨b, h1, h2⟩ := chain_split h
      obtain ⟨e1, e2, h3⟩ := chain_cons h2
      obtain ⟨e3, e4, h4⟩ := chain_cons h3
      rw [chain_join h1]
      exact chain_mk e1 (by dsimp only; omega) h4
    · simpa using h
theorem way_put {out ys : List Span} {y : Span} {a m : Nat} (h : chain (out ++ y :: ys) a = some m) (n : Nat) : way (put out y ++ ys) n = way (out ++ y :: ys) n := by
  rcases nil_or_snoc out with rfl | ⟨i, l, rfl⟩
  · rfl
  · rw [put_snoc]
    split
    · rename_i hw
      rw [List.append_assoc] at h ⊢
      obtain ⟨b, h1, h2⟩ := chain_split h
      obtain ⟨e1, e2, h3⟩ := chain_cons h2
      obtain ⟨e3, e4, h4⟩ := chain_cons h3
      rw [List.append_assoc, way_app i, way_app i]
      split
      · rfl
      · simp only [List.cons_append, List.nil_append, way]
        by_cases c1 : l.lo ≤ n ∧ n ≤ l.hi
        · rw [if_pos ⟨c1.1, by omega⟩, if_pos c1]
        · by_cases c2 : y.lo ≤ n ∧ n ≤ y.hi
          · rw [if_pos ⟨by omega, c2.2⟩, if_neg c1, if_pos c2, hw]
          · rw [if_neg (by omega), if_neg c1, if_neg c2]
    · simp
theorem chain_merge {ys : List Span} : ∀ {out : List Span} {a m : Nat}, chain (out ++ ys) a = some m → chain (ys.foldl put out) a = some m := by
  induction ys with
  | nil => intro out a m h; simpa using h
  | cons y ys ih => intro out a m h; exact ih (chain_put h)
theorem way_merge' {ys : List Span} : ∀ {out : List Span} {a m : Nat}, chain (out ++ ys) a = some m → ∀ n, way (ys.foldl put out) n = way (out ++ ys) n := by
  induction ys with
  | nil => intro out a m _ n; simp
  | cons y ys ih => intro out a m h n; rw [← way_put h n]; exact ih (chain_put h) n
theorem whole_iff (xs : List Span) : whole xs = true ↔ chain xs 0 = some 4294967296 := by unfold whole; simp
theorem whole_merge {xs : List Span} (h : whole xs = true) : whole (merge xs) = true := (whole_iff _).2 (chain_merge (out := []) ((whole_iff _).1 h))
theorem way_merge {xs : List Span} (h : whole xs = true) (n : Nat) : way (merge xs) n = way xs n := way_merge' (out := []) ((whole_iff _).1 h) n
theorem way_found : ∀ {xs : List Span} {a m n : Nat}, chain xs a = some m → a ≤ n → n < m → (way xs n).2 = true
  | [], a, m, n, h, h1, h2 => by simp [chain] at h; omega
  | s :: r, a, m, n, h, h1, h2 => by
    obtain ⟨e1, e2, h3⟩ := chain_cons h
    simp only [way]
    split
    · rfl
    · exact way_found h3 (by omega) h2
/-- the ways of spans -/
def wys (xs : List Span) : List Int := xs.map (·.way)
/-- no neighbours are the same -/
def nd : List Int → Prop
  | a :: b :: r => a ≠ b ∧ nd (b :: r)
  | _ => True
theorem nd_snoc : ∀ (i : List Int) (l s : Int), nd (i ++ [l]) → l ≠ s → nd (i ++ [l, s])
  | [], _, _, _, h => ⟨h, trivial⟩
  | [_], l, s, h, h' => ⟨h.1, nd_snoc [] l s h.2 h'⟩
  | _ :: b :: r, l, s, h, h' => ⟨h.1, nd_snoc (b :: r) l s h.2 h'⟩
theorem nd_put {out : List Span} {y : Span} (h : nd (wys out)) : nd (wys (put out y)) := by
  rcases nil_or_snoc out with rfl | ⟨i, l, rfl⟩
  · trivial
  · rw [put_snoc]
    simp only [wys, List.map_append, List.map_cons, List.map_nil] at h
    split
    · simp only [wys, List.map_append, List.map_cons, List.map_nil]; exact h
    · rename_i hne
      simp only [wys, List.map_append, List.map_cons, List.map_nil]
      exact nd_snoc _ _ _ h hne
theorem nd_fold {ys : List Span} : ∀ {out : List Span}, nd (wys out) → nd (wys (ys.foldl put out)) := by
  induction ys with
  | nil => intro out h; exact h
  | cons y ys ih => intro out h; exact ih (nd_put h)
theorem nd_merge (xs : List Span) : nd (wys (merge xs)) := nd_fold (out := []) trivial
theorem nd_get : ∀ (ws : List Int) (i : Nat), nd ws → i + 1 < ws.length → ws[i]? ≠ ws[i + 1]?
  | a :: b :: r, 0, h, _ => by simpa using h.1
  | a :: b :: r, i + 1, h, hl => by
    have := nd_get (b :: r) i h.2 (by simpa using hl)
    simpa using this
theorem wys_get (xs : List Span) (i : Nat) (h : i < xs.length) : (wys xs)[i]? = some (wy xs i) := by
  unfold wys
  rw [List.getElem?_map, List.getElem?_eq_getElem h, wy_get h]; rfl
theorem nd_dup {xs : List Span} (h : nd (wys xs)) : dup xs xs.length = false := by
  cases hd : dup xs xs.length with
  | false => rfl
  | true =>
    unfold dup at hd
    rw [List.any_eq_true] at hd
    obtain ⟨i, hi, e⟩ := hd
    rw [List.mem_range] at hi
    unfold dupAt at e
    simp at e
    have h2 := nd_get (wys xs) (i - 1) h (by simp [wys]; omega)
    rw [show i - 1 + 1 = i by omega, wys_get xs i hi, wys_get xs (i - 1) (by omega), e.2] at h2
    exact absurd rfl h2
theorem dup_nd : ∀ {xs : List Span}, dup xs xs.length = false → nd (wys xs) := by
  intro xs h
  have key : ∀ (ws : List Int), (∀ i, i + 1 < ws.length → ws[i]? ≠ ws[i + 1]?) → nd ws := by
    intro ws
    induction ws with
    | nil => intro _; trivial
    | cons a r ih =>
      intro h
      cases r with
      | nil => trivial
      | cons b r => exact ⟨by simpa using h 0 (by simp), ih (fun i hi => by have h9 := h (i + 1) (by simpa using hi); simpa using h9)⟩
  refine key _ (fun i hi e => ?_)
  have hi' : i + 1 < xs.length := by simpa [wys] using hi
  rw [wys_get xs i (by omega), wys_get xs (i + 1) hi'] at e
  have : dup xs xs.length = true := by
    unfold dup
    rw [List.any_eq_true]
    exact ⟨i + 1, List.mem_range.2 hi', by unfold dupAt; simp; exact (Option.some.inj e).symm⟩
  rw [h] at this; cases this
theorem merged_merge {xs : List Span} (h : whole xs = true) : mergedB (merge xs) = true := by
  unfold mergedB; rw [whole_merge h, nd_dup (nd_merge xs)]; rfl
theorem nd_tail {a : Int} : ∀ {r : List Int}, nd (a :: r) → nd r
  | [], _ => trivial
  | _ :: _, h => h.2
theorem nd_app : ∀ {i r : List Int}, nd (i ++ r) → nd r
  | [], _, h => h
  | _ :: i, _, h => nd_app (i := i) (nd_tail h)
theorem fold_id {ys : List Span} : ∀ {out : List Span}, nd (wys (out ++ ys)) → ys.foldl put out = out ++ ys := by
  induction ys with
  | nil => intro out _; simp
  | cons y ys ih =>
    intro out h
    have hp : put out y = out ++ [y] := by
      rcases nil_or_snoc out with rfl | ⟨i, l, rfl⟩
      · rfl
      · rw [put_snoc, if_neg ?_]
        · simp
        · simp only [wys, List.append_assoc, List.map_append, List.map_cons, List.map_nil] at h
          exact (nd_app h).1
    rw [List.foldl_cons, hp, ih (by simpa using h)]
    simp
theorem merge_id {xs : List Span} (h : nd (wys xs)) : merge xs = xs := fold_id (out := []) h
theorem merge_merge (xs : List Span) : merge (merge xs) = merge xs := merge_id (nd_merge xs)
/-- the way of a number among numbers -/
def look : List Nat → List Int → Int → Nat → Int
  | n :: r, w :: q, o, m => if n = m then w else look r q o m
  | _, _, o, _ => o
theorem look_lt : ∀ {ns : List Nat} {ws : List Int} {o : Int} {next m : Nat}, up ns next = true → m < next → look ns ws o m = o
  | [], _, _, _, _, _, _ => by unfold look; rfl
  | _ :: _, [], _, _, _, _, _ => by unfold look; rfl
  | n :: r, w :: q, o, next, m, h, hm => by
    simp only [up, Bool.and_eq_true, decide_eq_true_eq] at h
    unfold look
    rw [if_neg (by omega)]
    exact look_lt h.2 (by omega)
theorem look_at : ∀ {ns : List Nat} {ws : List Int} {o : Int} {next k : Nat} (h : k < ns.length) (h' : k < ws.length), up ns next = true → look ns ws o ns[k] = ws[k]
  | n :: r, w :: q, o, next, 0, _, _, _ => by simp [look]
  | n :: r, w :: q, o, next, k + 1, h, h', hu => by
    simp only [up, Bool.and_eq_true, decide_eq_true_eq] at hu
    have hk : k < r.length := by simpa using h
    have hge : ∀ {l : List Nat} {nx i : Nat} (hi : i < l.length), up l nx = true → nx ≤ l[i] := by
      intro l
      induction l with
      | nil => intro nx i hi; simp at hi
      | cons a l ih =>
        intro nx i hi hu
        simp only [up, Bool.and_eq_true, decide_eq_true_eq] at hu
        cases i with
        | zero => exact hu.1
        | succ i => have := ih (i := i) (by simpa using hi) hu.2; simp; omega
    have h1 := hge hk hu.2
    simp only [List.getElem_cons_succ]
    unfold look
    rw [if_neg (by omega)]
    exact look_at hk (by simpa using h') hu.2
theorem look_none : ∀ {ns : List Nat} {ws : List Int} {o : Int} {m : Nat}, (∀ k (h : k < ns.length), ns[k] ≠ m) → look ns ws o m = o
  | [], _, _, _, _ => by unfold look; rfl
  | _ :: _, [], _, _, _ => by unfold look; rfl
  | n :: r, w :: q, o, m, h => by
    unfold look
    rw [if_neg (by have := h 0 (by simp); simpa using this)]
    exact look_none (fun k hk => by have := h (k + 1) (by simpa using hk); simpa using this)
/-- the last way among the first numbers -/
def lst (ns : List Nat) (ws : List Int) (o : Int) (n : Nat) : Nat → Int
  | 0 => o
  | k + 1 => if ns[k]? = some n then (ws[k]?).getD 0 else lst ns ws o n k
theorem lst_or (ns : List Nat) (ws : List Int) (o : Int) (n : Nat) : ∀ k, (lst ns ws o n k = o ∧ ∀ j, j < k → ns[j]? ≠ some n) ∨ ∃ j, j < k ∧ ns[j]? = some n ∧ lst ns ws o n k = (ws[j]?).getD 0
  | 0 => .inl ⟨rfl, by omega⟩
  | k + 1 => by
    unfold lst
    by_cases h : ns[k]? = some n
    · rw [if_pos h]; exact .inr ⟨k, by omega, h, rfl⟩
    · rw [if_neg h]
      rcases lst_or ns ws o n k with ⟨h1, h2⟩ | ⟨j, h1, h2, h3⟩
      · refine .inl ⟨h1, fun j hj => ?_⟩
        by_cases e : j = k
        · subst e; exact h
        · exact h2 j (by omega)
      · exact .inr ⟨j, by omega, h2, h3⟩
theorem lst_look {ns : List Nat} {ws : List Int} {o : Int} {n : Nat} (hl : ns.length = ws.length) (hu : up ns 0 = true) : lst ns ws o n ns.length = look ns ws o n := by
  rcases lst_or ns ws o n ns.length with ⟨h1, h2⟩ | ⟨j, h1, h2, h3⟩
  · rw [h1, look_none (fun k hk e => h2 k hk (by rw [List.getElem?_eq_getElem hk, e]))]
  · rw [h3]
    rw [List.getElem?_eq_getElem h1] at h2
    have e : ns[j] = n := Option.some.inj h2
    subst e
    rw [look_at h1 (by omega) hu, List.getElem?_eq_getElem (by omega)]; rfl
theorem gap_chain {o : Int} {next n : Nat} (h : next ≤ n) : chain (gap o next n) next = some n := by
  unfold gap
  split
  · exact chain_mk rfl (by dsimp only; omega) (by simp only [chain]; congr 1; omega)
  · simp only [chain]; congr 1; omega
theorem gap_way {o : Int} {next n m : Nat} (h : next ≤ m) : way (gap o next n) m = if m < n then (o, true) else (0, false) := by
  unfold gap
  split
  · simp only [way]
    by_cases hm : m < n
    · rw [if_pos ⟨h, by omega⟩, if_pos hm]
    · rw [if_neg (by omega), if_neg hm]
  · rw [if_neg (by omega)]; rfl
theorem pc_chain (o : Int) : ∀ (ns : List Nat) (ws : List Int) (next : Nat), ns.length = ws.length → up ns next = true → (∀ n ∈ ns, n < 4294967296) → next ≤ 4294967296 → chain (pc o ns ws next) next = some 4294967296
  | n :: r, w :: q, next, hl, hu, hn, hx => by
    simp only [up, Bool.and_eq_true, decide_eq_true_eq] at hu
    have hn0 := hn n (by simp)
    unfold pc
    rw [chain_join (gap_chain hu.1)]
    exact chain_mk rfl (Nat.le_refl _) (pc_chain o r q (n + 1) (by simpa using hl) hu.2 (fun x hx => hn x (by simp [hx])) (by omega))
  | [], ws, next, _, _, _, hx => by unfold pc; exact gap_chain hx
  | _ :: _, [], _, hl, _, _, _ => by simp at hl
theorem pc_way (o : Int) : ∀ (ns : List Nat) (ws : List Int) (next m : Nat), ns.length = ws.length → up ns next = true → next ≤ m → m < 4294967296 → way (pc o ns ws next) m = (look ns ws o m, true)
  | n :: r, w :: q, next, m, hl, hu, hm, hx => by
    simp only [up, Bool.and_eq_true, decide_eq_true_eq] at hu
    unfold pc
    rw [way_app, gap_way hm]
    by_cases hmn : m < n
    · rw [if_pos hmn, if_pos rfl]
      unfold look
      rw [if_neg (by omega), look_lt hu.2 (by omega)]
    · rw [if_neg hmn, if_neg (by simp)]
      unfold way look
      by_cases e : n = m
      · rw [if_pos ⟨by dsimp only; omega, by dsimp only; omega⟩, if_pos e]
      · rw [if_neg (by dsimp only; omega), if_neg e]
        exact pc_way o r q (n + 1) m (by simpa using hl) hu.2 (by omega) hx
  | [], ws, next, m, _, _, hm, hx => by
    unfold pc look
    rw [gap_way hm, if_pos hx]
  | _ :: _, [], _, _, hl, _, _, _ => by simp at hl
theorem pc_whole {o : Int} {ns : List Nat} {ws : List Int} (hl : ns.length = ws.length) (hu : up ns 0 = true) (hn : ∀ n ∈ ns, n < 4294967296) : whole (pc o ns ws 0) = true :=
  (whole_iff _).2 (pc_chain o ns ws 0 hl hu hn (by omega))
/-- spans cut in two somewhere -/
def cutAt (xs : List Span) (i at_ : Nat) (s : Span) : List Span := xs.take i ++ [⟨s.lo, at_ - 1, s.way⟩, ⟨at_, s.hi, s.way⟩] ++ xs.drop (i + 1)
theorem split_at {xs : List Span} {i : Nat} (h : i < xs.length) : xs = xs.take i ++ xs[i] :: xs.drop (i + 1) := by
  rw [← List.drop_eq_getElem_cons h, List.take_append_drop]
theorem chain_cut {s : Span} {at_ : Nat} (r : List Span) (n : Nat) (h1 : s.lo < at_) (h2 : at_ ≤ s.hi) : chain (⟨s.lo, at_ - 1, s.way⟩ :: ⟨at_, s.hi, s.way⟩ :: r) n = chain (s :: r) n := by
  simp only [chain]
  by_cases c : s.lo = n ∧ s.lo ≤ s.hi
  · rw [if_pos c, if_pos ⟨c.1, by omega⟩, if_pos ⟨by omega, h2⟩]
  · rw [if_neg c, if_neg (by omega)]
theorem whole_cut {xs : List Span} {i at_ : Nat} (h : i < xs.length) (h1 : xs[i].lo < at_) (h2 : at_ ≤ xs[i].hi) : whole (cutAt xs i at_ xs[i]) = whole xs := by
  have e : chain (cutAt xs i at_ xs[i]) 0 = chain xs 0 := by
    conv => rhs; rw [split_at h]
    unfold cutAt
    rw [List.append_assoc, chain_app, chain_app]
    congr 1
    funext b
    exact chain_cut _ _ h1 h2
  unfold whole; rw [e]
theorem put_put (out : List Span) (s : Span) (m m' : Nat) : put (put out ⟨s.lo, m, s.way⟩) ⟨m', s.hi, s.way⟩ = put out s := by
  rcases nil_or_snoc out with rfl | ⟨i, l, rfl⟩
  · show put ([] ++ [_]) _ = _
    rw [put_snoc, if_pos rfl]; rfl
  · rw [put_snoc, put_snoc]
    dsimp only
    split
    · rename_i h
      rw [put_snoc, if_pos h]
    · rw [show i ++ [l, (⟨s.lo, m, s.way⟩ : Span)] = (i ++ [l]) ++ [⟨s.lo, m, s.way⟩] by simp, put_snoc, if_pos rfl]
      simp
theorem merge_cut {xs : List Span} {i at_ : Nat} (h : i < xs.length) : merge (cutAt xs i at_ xs[i]) = merge xs := by
  conv => rhs; rw [split_at h]
  unfold merge cutAt
  simp only [List.foldl_append, List.foldl_cons, List.foldl_nil, put_put]
theorem merged_cut {xs : List Span} {i at_ : Nat} (h : i < xs.length) : mergedB (cutAt xs i at_ xs[i]) = false := by
  have hd : dup (cutAt xs i at_ xs[i]) (cutAt xs i at_ xs[i]).length = true := by
    have hlen : (cutAt xs i at_ xs[i]).length = xs.length + 1 := by unfold cutAt; simp; omega
    unfold dup
    rw [List.any_eq_true]
    refine ⟨i + 1, List.mem_range.2 (by omega), ?_⟩
    unfold dupAt
    have hti : (xs.take i).length = i := by rw [List.length_take]; omega
    have e1 : (cutAt xs i at_ xs[i])[i]? = some ⟨xs[i].lo, at_ - 1, xs[i].way⟩ := by
      unfold cutAt
      rw [List.append_assoc, List.getElem?_append_right (by omega), hti, Nat.sub_self]; rfl
    have e2 : (cutAt xs i at_ xs[i])[i + 1]? = some ⟨at_, xs[i].hi, xs[i].way⟩ := by
      unfold cutAt
      rw [List.append_assoc, List.getElem?_append_right (by omega), hti, Nat.add_sub_cancel_left]; rfl
    simp [wy, e1, e2]
  unfold mergedB; rw [hd]; simp
end L23
end Go.Proofs.Ytkmhfjnjfghnjaa

