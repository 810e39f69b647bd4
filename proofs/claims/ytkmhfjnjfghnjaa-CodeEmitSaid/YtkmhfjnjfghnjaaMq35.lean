import Derived.Test.YtkmhfjnjfghnjaaMq30
/- Layer 25, plain: how long a row is that Emit tells. -/
namespace Go.Proofs.Ytkmhfjnjfghnjaa
open Go.RowKit V
namespace L25M
open L25W
open L21 (Test Rule Filter OkF mayF)
open L23 (Span)
theorem tre_inner : ∀ l : List Span, 0 < l.length → ∀ a, ((L24.tre l a).filter inner).length = l.length - 1 := by
  refine L24.len_rec (fun l h a => ?_) (fun l h ih1 ih2 a => ?_)
  · rw [L24.tre_one h, h]; rfl
  · rw [L24.tre_more h, List.filter_cons, if_pos (by rfl), List.filter_append, List.length_cons, List.length_append, ih1, ih2, List.length_take, List.length_drop]
    omega
def most : List Rule → Nat
  | [] => 0
  | r :: l => 3 + 7 * r.tests.length + most l
theorem rpl_most : ∀ (rs : List Rule) (p : Nat), rpl rs p rs.length + 2 * rs.length ≤ p + most rs
  | [], _ => by show _ + 0 ≤ _ + 0; exact Nat.le_refl _
  | r :: l, p => by
    show rpl l (p + ruleN r.tests) l.length + 2 * (l.length + 1) ≤ p + (3 + 7 * r.tests.length + most l)
    have h1 := rpl_most l (p + ruleN r.tests)
    have h2 := (ruleN_le r.tests).2
    omega
theorem emit_len {f : Filter} (hf : OkF f) (hm : mayF f = true) : ((emS f (treeF f)).map SS.fin).length ≤ 10 + most f.rules := by
  have hnr : ∀ r ∈ f.rules, r.nr < 4294967296 := fun r hr => (hf.r r hr).n
  obtain ⟨-, hw, hl, -, hT⟩ := treeF_facts hm hnr
  have hp := L24.whole_pos hw
  rw [List.length_map, emS_len]
  have h1 := rpl_most f.rules (dP f (treeF f) + 1)
  have h2 : dP f (treeF f) ≤ 5 + (1 + 2 * f.rules.length) := by
    unfold dP rank
    have h3 := tre_inner (spanF f) hp 0
    have h4 : oL f.arch ≤ 5 := by unfold oL; split <;> omega
    rw [List.take_length]
    have h5 : ((treeF f).filter inner).length ≤ 2 * f.rules.length := by unfold treeF; rw [h3]; omega
    split <;> omega
  unfold nP
  omega
theorem most_step {rs : List Rule} {k : Nat} (h : k < rs.length) : most (rs.take (k + 1)) = most (rs.take k) + 3 + 7 * rs[k].tests.length := by
  induction rs generalizing k with
  | nil => simp at h
  | cons r l ih =>
    cases k with
    | zero => simp [most]
    | succ k =>
      simp only [List.take_succ_cons, most, List.getElem_cons_succ]
      rw [ih (by simpa using h)]
      omega
theorem most_bound : ∀ {rs : List Rule} {m : Nat}, (∀ r ∈ rs, r.tests.length ≤ 1000) → rs.length ≤ m → m ≤ 400 → most rs ≤ 7003 * m
  | [], _, _, _, _ => Nat.zero_le _
  | r :: l, m, h, hm, h4 => by
    have h1 := h r List.mem_cons_self
    have h2 := most_bound (rs := l) (m := m - 1) (fun r hr => h r (List.mem_cons_of_mem _ hr)) (by simp at hm; omega) (by omega)
    have h3 : 1 ≤ m := by simp at hm; omega
    unfold most
    omega
theorem most_take {rs : List Rule} (h : ∀ r ∈ rs, r.tests.length ≤ 1000) (hl : rs.length ≤ 400) (k : Nat) : most (rs.take k) ≤ 3000000 := by
  have := most_bound (rs := rs.take k) (m := 400) (fun r hr => h r (List.mem_of_mem_take hr)) (by rw [List.length_take]; omega) (Nat.le_refl _)
  omega
end L25M
end Go.Proofs.Ytkmhfjnjfghnjaa

