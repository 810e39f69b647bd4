import Derived.Test.YtkmhfjnjfghnjaaMp39
/- Layer 25, plain: what is known of a row that Emit tells. -/
namespace Go.Proofs.Ytkmhfjnjfghnjaa
open Go.RowKit V
namespace L25M
open L25 (Sy encY OkY Dat OkD mayA runA)
open L25W
open L25G (tokN)
open L21 (Test Rule Filter OkF OkT OkR mayF denA)
open L23 (Span OkS)
def KOk (xs : List SS) : Prop := ∀ s ∈ xs, s.k < 4294967296
theorem KOk.app {xs ys : List SS} (h : KOk xs) (h' : KOk ys) : KOk (xs ++ ys) := fun s hs => by
  rcases List.mem_append.1 hs with hs | hs
  · exact h s hs
  · exact h' s hs
theorem KOk.nil : KOk [] := fun s hs => by cases hs
theorem KOk.cons {s : SS} {xs : List SS} (hs : s.k < 4294967296) (h : KOk xs) : KOk (s :: xs) := fun x hx => by
  rcases List.mem_cons.1 hx with rfl | hx
  · exact hs
  · exact h x hx
theorem kok_half {p a m v : Nat} {e : Tg} (ha : a < 4294967296) (hm : m < 4294967296) (hv : v < 4294967296) : KOk (halfS p a m v e) := by
  unfold halfS
  split
  · exact .nil
  · split
    · exact .cons ha (.cons hv .nil)
    · exact .cons ha (.cons hm (.cons hv .nil))
theorem kok_test {t : Test} (p : Nat) (h : OkT t) (hm : L21.mayT t = true) : KOk (testS p t) := by
  have hl := fun x => lo_lt x
  have hh : ∀ x, x < 18446744073709551616 → L25.hi x < 4294967296 := fun x hx => by unfold L25.hi; omega
  have ha : t.arg < 6 := by
    unfold L21.mayT at hm
    simp only [Bool.and_eq_true, decide_eq_true_eq] at hm
    omega
  unfold testS
  exact (kok_half (by unfold loAt; omega) (hl _) (hl _)).app ((kok_half (by unfold hiAt; omega) (hh _ h.m) (hh _ h.v)).app (.cons h.x .nil))
theorem kok_rule : ∀ (ts : List Test) (p x : Nat), x < 4294967296 → (∀ t ∈ ts, OkT t ∧ L21.mayT t = true) → KOk (ruleS p ts x)
  | [], p, x, hx, _ => .cons hx .nil
  | t :: r, p, x, hx, h => by
    unfold ruleS
    refine (kok_test p (h t List.mem_cons_self).1 (h t List.mem_cons_self).2).app ?_
    split
    · exact .nil
    · exact kok_rule r _ x hx (fun t ht => h t (List.mem_cons_of_mem _ ht))
theorem kok_rules : ∀ (rs : List Rule) (p : Nat), (∀ r ∈ rs, OkR r ∧ ∀ t ∈ r.tests, L21.mayT t = true) → KOk (rulesS p rs)
  | [], p, _ => .nil
  | r :: l, p, h => by
    unfold rulesS
    obtain ⟨h1, h2⟩ := h r List.mem_cons_self
    exact (kok_rule _ _ _ h1.x (fun t ht => ⟨h1.t t ht, h2 t ht⟩)).app (kok_rules l _ (fun r hr => h r (List.mem_cons_of_mem _ hr)))
theorem tre_at : ∀ l : List Span, 0 < l.length → (∀ s ∈ l, s.lo < 4294967296) → ∀ a, ∀ n ∈ L24.tre l a, n.at_ < 4294967296 := by
  refine L24.len_rec (fun l h hs a n hn => ?_) (fun l h ih1 ih2 hs a n hn => ?_)
  · rw [L24.tre_one h] at hn
    simp at hn; subst hn; exact (by decide : (0 : Nat) < 4294967296)
  · rw [L24.tre_more h] at hn
    rcases List.mem_cons.1 hn with rfl | hn
    · show L24.loAt l (l.length / 2) < 4294967296
      rw [L24.loAt_get (by omega)]
      exact hs _ (List.getElem_mem _)
    · rcases List.mem_append.1 hn with hn | hn
      · exact ih1 (fun s hs' => hs s (List.mem_of_mem_take hs')) _ n hn
      · exact ih2 (fun s hs' => hs s (List.mem_of_mem_drop hs')) _ n hn
theorem kok_branch {F : Nat → Tg} {t : List Nd} (h : ∀ n ∈ t, n.at_ < 4294967296) : KOk (branchS F t) := by
  unfold branchS jmps
  refine KOk.app ?_ (fun s hs => ?_)
  · split
    · exact .cons (show (0 : Nat) < 4294967296 by decide) .nil
    · exact .nil
  · obtain ⟨n, hn, rfl⟩ := List.mem_map.1 hs
    exact h n (List.mem_filter.1 hn).1
theorem kok_own (nt : Tg) {a : Int} (h0 : 0 ≤ a) (h6 : a < 6) : KOk (ownS nt a) := by
  have ht : tokN a.toNat < 4294967296 := by
    rcases (show a = 0 ∨ a = 1 ∨ a = 2 ∨ a = 3 ∨ a = 4 ∨ a = 5 by omega) with rfl | rfl | rfl | rfl | rfl | rfl <;> decide
  unfold ownS
  refine KOk.app (.cons (by decide) (.cons ht (.cons (by decide) .nil))) ?_
  split
  · exact .cons (show (1073741824 : Nat) < 4294967296 by decide) .nil
  · split
    · exact .cons (show (1073741824 : Nat) < 4294967296 by decide) .nil
    · exact .nil
theorem kok_em {f : Filter} (hf : OkF f) (hm : mayF f = true) : KOk (emS f (treeF f)) := by
  obtain ⟨h1, h2, h3, h4, h5⟩ := may_rules hm
  have hsp := span_ok hm (fun r hr => (hf.r r hr).n)
  have hw := (treeF_facts hm (fun r hr => (hf.r r hr).n)).2.1
  unfold emS
  exact (kok_own _ h1 h2).app ((kok_branch (tre_at _ (L24.whole_pos hw) (fun s hs => (hsp s hs).l) 0)).app (.cons hf.d ((kok_rules _ _ (fun r hr => ⟨hf.r r hr, (h5 r hr).2⟩)).app (.cons (by decide) .nil))))
theorem emit_facts {f : Filter} (hf : OkF f) (hm : mayF f = true) : mayA ((emS f (treeF f)).map SS.fin) = true ∧ (∀ s ∈ (emS f (treeF f)).map SS.fin, OkY s) ∧ ((emS f (treeF f)).map SS.fin).length ≤ 97000 := by
  have hnr : ∀ r ∈ f.rules, r.nr < 4294967296 := fun r hr => (hf.r r hr).n
  obtain ⟨-, -, -, -, hT⟩ := treeF_facts hm hnr
  have hlen : (emS f (treeF f)).length ≤ 97000 := by
    have h1 := rowE_bound (nt := 0) (lab := fun j => j + 1) hm hT (Nat.le_refl f.rules.length)
    rw [rowE_len _ _ _ _ (Nat.le_refl _)] at h1
    rw [emS_len]
    have : wP f (treeF f) (f.rules.length + 1) = nP f (treeF f) := by unfold wP nP; rw [if_neg (by omega), Nat.add_sub_cancel]
    omega
  refine ⟨emit_may hm hT, fun s hs => ?_, by rw [List.length_map]; exact hlen⟩
  obtain ⟨x, hx, rfl⟩ := List.mem_map.1 hs
  have hk := kok_em hf hm x hx
  obtain ⟨j, hj, rfl⟩ := List.mem_iff_getElem.1 hx
  have ho := emS_ok hm hT j hj
  rw [← emS_len] at ho
  generalize (emS f (treeF f))[j] = s at *
  obtain ⟨c, k, q⟩ := s
  rcases ho with ⟨h1, h2⟩ | ⟨n, m, h1, h2, h3, h4⟩
  · dsimp only at h1 h2 hk
    subst h1
    exact ⟨by show c < 65536; omega, hk, by show (-9223372036854775808 : Int) ≤ 0; decide, by show (0 : Int) ≤ _; decide, by show (-9223372036854775808 : Int) ≤ 0; decide, by show (0 : Int) ≤ _; decide⟩
  · dsimp only at h1 h4 hk
    subst h1
    refine ⟨by show c < 65536; omega, hk, by show (-9223372036854775808 : Int) ≤ (n : Int); omega, by show (n : Int) ≤ _; omega, ?_, ?_⟩
    · show (-9223372036854775808 : Int) ≤ (if c = 5 then 0 else (m : Int)); split <;> omega
    · show (if c = 5 then (0 : Int) else (m : Int)) ≤ 9223372036854775807; split <;> omega
end L25M
end Go.Proofs.Ytkmhfjnjfghnjaa

