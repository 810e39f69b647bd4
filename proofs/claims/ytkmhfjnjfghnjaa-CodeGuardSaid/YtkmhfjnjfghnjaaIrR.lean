/- Layer 21 in plain Lean: which filters may be, what they say of data, their normal forms; the chapter's theorems on them. -/
import Derived.Test.YtkmhfjnjfghnjaaArchA
import Derived.Test.YtkmhfjnjfghnjaaIrO
import Derived.Test.YtkmhfjnjfghnjaaIrM
namespace Go.Proofs.Ytkmhfjnjfghnjaa
open Go.RowKit V
namespace L21
open L25 (Dat datV OkD)
open L08 (ofA)
def upB : Option Nat → Nat → Bool
  | none, _ => true
  | some q, n => decide (q < n)
def mayL : Option Nat → List Rule → Bool
  | _, [] => true
  | p, r :: l => (mayR r && upB p r.nr) && mayL (some r.nr) l
def mayF (f : Filter) : Bool := decide (0 ≤ f.arch) && (decide (f.arch < 6) && (decide (f.rules.length ≤ 400) && (L20.kn f.dflt && mayL none f.rules)))
theorem mayL_weaken {p : Option Nat} {q : Nat} (h : upB p q = true) : ∀ {l : List Rule}, mayL (some q) l = true → mayL p l = true
  | [], _ => rfl
  | r :: l, k => by
    simp only [mayL, Bool.and_eq_true] at k ⊢
    refine ⟨⟨k.1.1, ?_⟩, k.2⟩
    have k2 := k.1.2
    cases p with
    | none => rfl
    | some p =>
      unfold upB at h k2 ⊢
      simp only [decide_eq_true_eq] at h k2 ⊢
      omega
theorem mayL_mem : ∀ {l : List Rule} {p : Option Nat}, mayL p l = true → ∀ r ∈ l, mayR r = true ∧ upB p r.nr = true
  | r :: l, p, k, x, hx => by
    simp only [mayL, Bool.and_eq_true] at k
    cases hx with
    | head => exact k.1
    | tail _ hx =>
      have h := mayL_mem k.2 x hx
      refine ⟨h.1, ?_⟩
      have h2 := h.2
      have k2 := k.1.2
      cases p with
      | none => rfl
      | some p =>
        unfold upB at h2 k2 ⊢
        simp only [decide_eq_true_eq] at h2 k2 ⊢
        omega
/-- what the first test that holds says, or else x -/
def fstA (d : Dat) (ts : List Test) (x : Nat) : Nat := match ts.find? (holdP d) with
  | some t => t.action
  | none => x
def denL (d : Dat) (df : Nat) (rs : List Rule) : Nat := match rs.find? (fun r => r.nr == d.nr) with
  | some r => fstA d r.tests r.action
  | none => df
def ownA (f : Filter) (d : Dat) : Bool := (ofA d.ar d.nr).2 && ((ofA d.ar d.nr).1 == f.arch)
def denA (f : Filter) (d : Dat) : Nat := if ownA f d = true then denL d f.dflt f.rules else 2147418112
/-- the tests ahead of the first one without a mask, and what is said else -/
def cutT : List Test → Nat → List Test × Nat
  | [], x => ([], x)
  | t :: l, x => if t.mask == 0 then ([], t.action) else (t :: (cutT l x).1, (cutT l x).2)
/-- how many of the first tests stay -/
def trimN (ts : List Test) (x : Nat) : Nat → Nat
  | 0 => 0
  | k + 1 => if (ts.getD k ⟨0, 0, 0, 0⟩).action == x then trimN ts x k else k + 1
def trimT (ts : List Test) (x : Nat) : List Test := ts.take (trimN ts x ts.length)
def normR (r : Rule) : Rule := ⟨r.nr, trimT (cutT r.tests r.action).1 (cutT r.tests r.action).2, (cutT r.tests r.action).2⟩
def keepB (df : Nat) (r : Rule) : Bool := !r.tests.isEmpty || !(r.action == df)
def normL (df : Nat) (rs : List Rule) : List Rule := (rs.map normR).filter (keepB df)
def normF (f : Filter) : Filter := ⟨f.arch, normL f.dflt f.rules, f.dflt⟩
theorem trimN_le (ts : List Test) (x : Nat) : ∀ k, trimN ts x k ≤ k
  | 0 => Nat.le_refl _
  | k + 1 => by
    unfold trimN
    split
    · have := trimN_le ts x k; omega
    · exact Nat.le_refl _
theorem trimN_end (ts : List Test) (x : Nat) : ∀ k, trimN ts x k = 0 ∨ ((ts.getD (trimN ts x k - 1) ⟨0, 0, 0, 0⟩).action == x) = false
  | 0 => .inl rfl
  | k + 1 => by
    unfold trimN
    split
    · exact trimN_end ts x k
    · rename_i h
      refine .inr ?_
      rw [Nat.add_sub_cancel]
      simpa using h
theorem trimN_cut (ts : List Test) (x : Nat) : ∀ k j, trimN ts x k ≤ j → j < k → (ts.getD j ⟨0, 0, 0, 0⟩).action = x
  | 0, j, _, h => by omega
  | k + 1, j, h, h2 => by
    unfold trimN at h
    split at h
    · rename_i he
      by_cases hj : j < k
      · exact trimN_cut ts x k j h hj
      · obtain rfl : j = k := by omega
        exact eq_of_beq he
    · omega
theorem cutT_len : ∀ (ts : List Test) (x : Nat), (cutT ts x).1.length ≤ ts.length
  | [], _ => Nat.le_refl _
  | t :: l, x => by
    unfold cutT
    split
    · simp
    · simpa using cutT_len l x
theorem cutT_mem : ∀ (ts : List Test) (x : Nat) (t : Test), t ∈ (cutT ts x).1 → t ∈ ts ∧ (t.mask == 0) = false
  | a :: l, x, t, h => by
    unfold cutT at h
    split at h
    · cases h
    · rename_i hm
      cases h with
      | head => exact ⟨.head _, by simpa using hm⟩
      | tail _ h => have := cutT_mem l x t h; exact ⟨.tail _ this.1, this.2⟩
theorem cutT_act : ∀ (ts : List Test) (x : Nat), (cutT ts x).2 = x ∨ ∃ t ∈ ts, (cutT ts x).2 = t.action
  | [], _ => .inl rfl
  | a :: l, x => by
    unfold cutT
    split
    · exact .inr ⟨a, .head _, rfl⟩
    · rcases cutT_act l x with h | ⟨t, h1, h2⟩
      · exact .inl h
      · exact .inr ⟨t, .tail _ h1, h2⟩
theorem cutT_self : ∀ (ts : List Test) (x : Nat), (∀ t ∈ ts, (t.mask == 0) = false) → cutT ts x = (ts, x)
  | [], _, _ => rfl
  | a :: l, x, h => by
    unfold cutT
    rw [if_neg (by rw [h a (.head _)]; simp), cutT_self l x (fun t ht => h t (.tail _ ht))]
theorem trimT_mem {ts : List Test} {x : Nat} {t : Test} (h : t ∈ trimT ts x) : t ∈ ts := List.mem_of_mem_take h
theorem trimT_self (ts : List Test) (x : Nat) : trimT (trimT ts x) x = trimT ts x := by
  have hle := trimN_le ts x ts.length
  have hl : (trimT ts x).length = trimN ts x ts.length := by unfold trimT; rw [List.length_take]; omega
  have key : trimN (trimT ts x) x (trimT ts x).length = (trimT ts x).length := by
    rw [hl]
    cases hn : trimN ts x ts.length with
    | zero => rfl
    | succ n =>
      unfold trimN
      rw [if_neg]
      have h := trimN_end ts x ts.length
      rw [hn] at h
      rcases h with h | h
      · omega
      · rw [Nat.add_sub_cancel] at h
        have e : (trimT ts x).getD n ⟨0, 0, 0, 0⟩ = ts.getD n ⟨0, 0, 0, 0⟩ := by
          unfold trimT
          rw [List.getD_eq_getElem?_getD, List.getD_eq_getElem?_getD, List.getElem?_take_of_lt (by omega)]
        rw [e, h]; simp
  show List.take (trimN (trimT ts x) x (trimT ts x).length) (trimT ts x) = _
  rw [key, List.take_length]
theorem normR_nr (r : Rule) : (normR r).nr = r.nr := rfl
theorem normR_mask {r : Rule} {t : Test} (h : t ∈ (normR r).tests) : t ∈ r.tests ∧ (t.mask == 0) = false := cutT_mem _ _ _ (trimT_mem h)
theorem normR_self (r : Rule) : normR (normR r) = normR r := by
  have h : cutT (normR r).tests (normR r).action = ((normR r).tests, (normR r).action) := cutT_self _ _ (fun t ht => (normR_mask ht).2)
  have e : normR (normR r) = ⟨(normR r).nr, trimT (cutT (normR r).tests (normR r).action).1 (cutT (normR r).tests (normR r).action).2, (cutT (normR r).tests (normR r).action).2⟩ := rfl
  rw [e, h]
  have e2 : trimT (normR r).tests (normR r).action = (normR r).tests := trimT_self _ _
  rw [e2]
theorem normL_self (df : Nat) (rs : List Rule) : normL df (normL df rs) = normL df rs := by
  have h : (normL df rs).map normR = normL df rs := by
    have e : (normL df rs).map normR = (normL df rs).map id := List.map_congr_left fun r hr => by
      obtain ⟨hr, -⟩ := List.mem_filter.1 hr
      obtain ⟨s, -, rfl⟩ := List.mem_map.1 hr
      exact normR_self s
    rw [e, List.map_id]
  show ((normL df rs).map normR).filter (keepB df) = _
  rw [h]
  unfold normL
  rw [List.filter_filter]
  congr 1
  funext r
  simp
theorem normF_self (f : Filter) : normF (normF f) = normF f := by
  have e : normF (normF f) = ⟨f.arch, normL f.dflt (normL f.dflt f.rules), f.dflt⟩ := rfl
  rw [e, normL_self]; rfl
theorem normL_len (df : Nat) (rs : List Rule) : (normL df rs).length ≤ rs.length := by
  unfold normL
  have := List.length_filter_le (keepB df) (rs.map normR)
  simpa using this
theorem mayT_of {r : Rule} (h : mayR r = true) : r.tests.length ≤ 32 ∧ (∀ t ∈ r.tests, mayT t = true) ∧ L20.kn r.action = true := by
  unfold mayR at h
  simp only [Bool.and_eq_true, decide_eq_true_eq] at h
  obtain ⟨h1, h2, h3⟩ := h
  refine ⟨h1, fun t ht => ?_, h3⟩
  cases hm : mayT t
  · have : r.tests.any badT = true := List.any_eq_true.2 ⟨t, ht, by unfold badT; rw [hm]; rfl⟩
    rw [this] at h2; cases h2
  · rfl
theorem mayR_mk {r : Rule} (h1 : r.tests.length ≤ 32) (h2 : ∀ t ∈ r.tests, mayT t = true) (h3 : L20.kn r.action = true) : mayR r = true := by
  unfold mayR
  have : r.tests.any badT = false := by
    cases hb : r.tests.any badT
    · rfl
    · obtain ⟨t, ht, hq⟩ := List.any_eq_true.1 hb
      unfold badT at hq
      rw [h2 t ht] at hq; cases hq
  rw [this, h3, decide_eq_true h1]; rfl
theorem mayT_parts {t : Test} (h : mayT t = true) : 0 ≤ t.arg ∧ t.arg < 6 ∧ (t.value &&& t.mask) = t.value ∧ L20.kn t.action = true := by
  unfold mayT at h
  simp only [Bool.and_eq_true, decide_eq_true_eq, beq_iff_eq] at h
  exact h
theorem normR_may {r : Rule} (h : mayR r = true) : mayR (normR r) = true := by
  obtain ⟨h1, h2, h3⟩ := mayT_of h
  refine mayR_mk ?_ (fun t ht => h2 t (normR_mask ht).1) ?_
  · have := cutT_len r.tests r.action
    show (trimT (cutT r.tests r.action).1 _).length ≤ 32
    unfold trimT
    rw [List.length_take]; omega
  · show L20.kn (cutT r.tests r.action).2 = true
    rcases cutT_act r.tests r.action with e | ⟨t, ht, e⟩
    · rw [e]; exact h3
    · rw [e]; exact (mayT_parts (h2 t ht)).2.2.2
theorem normL_may (df : Nat) : ∀ {rs : List Rule} {p : Option Nat}, mayL p rs = true → mayL p (normL df rs) = true
  | [], _, _ => rfl
  | r :: l, p, h => by
    simp only [mayL, Bool.and_eq_true] at h
    have ih := normL_may df h.2
    have e : normL df (r :: l) = if keepB df (normR r) = true then normR r :: normL df l else normL df l := by
      unfold normL
      rw [List.map_cons, List.filter_cons]
    rw [e]
    split
    · simp only [mayL, Bool.and_eq_true]
      exact ⟨⟨normR_may h.1.1, h.1.2⟩, ih⟩
    · exact mayL_weaken h.1.2 ih
theorem normF_may {f : Filter} (h : mayF f = true) : mayF (normF f) = true := by
  unfold mayF at h ⊢
  simp only [Bool.and_eq_true, decide_eq_true_eq] at h ⊢
  obtain ⟨h1, h2, h3, h4, h5⟩ := h
  exact ⟨h1, h2, Nat.le_trans (normL_len _ _) h3, h4, normL_may _ h5⟩
theorem holdP_zero {d : Dat} {t : Test} (h : mayT t = true) (hm : (t.mask == 0) = true) : holdP d t = true := by
  obtain ⟨h1, h2, h3, -⟩ := mayT_parts h
  have hm' := eq_of_beq hm
  rw [hm', Nat.and_zero] at h3
  unfold holdP holdsA
  rw [hm', ← h3, decide_eq_true h1, decide_eq_true h2]
  simp
theorem fstA_cons (d : Dat) (t : Test) (l : List Test) (x : Nat) : fstA d (t :: l) x = if holdP d t = true then t.action else fstA d l x := by
  unfold fstA
  rw [List.find?_cons]
  cases holdP d t <;> rfl
theorem fstA_cut {d : Dat} : ∀ {ts : List Test} {x : Nat}, (∀ t ∈ ts, mayT t = true) → fstA d (cutT ts x).1 (cutT ts x).2 = fstA d ts x
  | [], _, _ => rfl
  | t :: l, x, h => by
    rw [fstA_cons]
    unfold cutT
    split
    · rename_i hm
      rw [if_pos (holdP_zero (h t (.head _)) hm)]; rfl
    · rw [fstA_cons, fstA_cut (fun s hs => h s (.tail _ hs))]
theorem fstA_app (d : Dat) (x : Nat) (ys : List Test) (hy : ∀ t ∈ ys, t.action = x) : ∀ xs : List Test, fstA d (xs ++ ys) x = fstA d xs x
  | [] => by
    show fstA d ys x = x
    unfold fstA
    cases h : ys.find? (holdP d) with
    | none => rfl
    | some t => exact hy t (List.mem_of_find?_eq_some h)
  | t :: l => by rw [List.cons_append, fstA_cons, fstA_cons, fstA_app d x ys hy l]
theorem fstA_trim (d : Dat) (ts : List Test) (x : Nat) : fstA d (trimT ts x) x = fstA d ts x := by
  have e : ts = trimT ts x ++ ts.drop (trimN ts x ts.length) := by unfold trimT; rw [List.take_append_drop]
  conv => rhs; rw [e]
  refine (fstA_app d x _ (fun t ht => ?_) _).symm
  obtain ⟨i, hi, rfl⟩ := List.getElem_of_mem ht
  rw [List.length_drop] at hi
  rw [List.getElem_drop]
  have := trimN_cut ts x ts.length (trimN ts x ts.length + i) (by omega) (by omega)
  rw [List.getD_eq_getElem?_getD, List.getElem?_eq_getElem (by omega)] at this
  exact this
theorem fstA_norm {d : Dat} {r : Rule} (h : mayR r = true) : fstA d (normR r).tests (normR r).action = fstA d r.tests r.action :=
  (fstA_trim d _ _).trans (fstA_cut (mayT_of h).2.1)
theorem denL_cons (d : Dat) (df : Nat) (r : Rule) (l : List Rule) : denL d df (r :: l) = if (r.nr == d.nr) = true then fstA d r.tests r.action else denL d df l := by
  unfold denL
  rw [List.find?_cons]
  cases (r.nr == d.nr) <;> rfl
theorem denL_none {d : Dat} {df : Nat} {l : List Rule} (h : ∀ r ∈ l, r.nr ≠ d.nr) : denL d df l = df := by
  unfold denL
  rw [List.find?_eq_none.2 (fun r hr => by simpa using h r hr)]
theorem denL_norm {d : Dat} {df : Nat} : ∀ {rs : List Rule} {p : Option Nat}, mayL p rs = true → denL d df (normL df rs) = denL d df rs
  | [], _, _ => rfl
  | r :: l, p, h => by
    simp only [mayL, Bool.and_eq_true] at h
    have ih := denL_norm (d := d) (df := df) h.2
    have e : normL df (r :: l) = if keepB df (normR r) = true then normR r :: normL df l else normL df l := by
      unfold normL
      rw [List.map_cons, List.filter_cons]
    rw [e, denL_cons]
    split
    · rw [denL_cons, ih, fstA_norm h.1.1]; rfl
    · rename_i hk
      rw [ih]
      split
      · rename_i hn
        have hn' := eq_of_beq hn
        rw [denL_none (fun s hs => by
          have h2 := (mayL_mem h.2 s hs).2
          unfold upB at h2
          simp only [decide_eq_true_eq] at h2
          omega), ← fstA_norm h.1.1]
        unfold keepB at hk
        simp only [Bool.or_eq_true, not_or, Bool.not_eq_true] at hk
        obtain ⟨k1, k2⟩ := hk
        have k1' : (normR r).tests = [] := by
          cases hh : (normR r).tests with
          | nil => rfl
          | cons a b => rw [hh] at k1; cases k1
        have k2' : (normR r).action = df := by
          cases hb : ((normR r).action == df)
          · rw [hb] at k2; cases k2
          · exact eq_of_beq hb
        rw [k1', k2']; rfl
      · rfl
theorem denA_norm {f : Filter} (h : mayF f = true) (d : Dat) : denA (normF f) d = denA f d := by
  unfold mayF at h
  simp only [Bool.and_eq_true] at h
  unfold denA
  have e : ownA (normF f) d = ownA f d := rfl
  rw [e]
  split
  · exact denL_norm h.2.2.2.2
  · rfl
end L21
end Go.Proofs.Ytkmhfjnjfghnjaa
