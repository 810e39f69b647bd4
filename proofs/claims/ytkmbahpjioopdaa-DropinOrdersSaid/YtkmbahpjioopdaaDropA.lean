/- Layer 14, plain: what files come to. -/
import Derived.Test.YtkmbahpjioopdaaUnitH
import Derived.Test.YtkmbahpjioopdaaDropA0
namespace Go.Proofs.Ytkmbahpjioopdaa
namespace L12
/-- an assignment with its file's name; a note likewise -/
abbrev AF := List UInt8 × Nat × List UInt8 × List UInt8 × List UInt8
abbrev NF := List UInt8 × Nat × Nat × List UInt8
def asF (f : Fl) : List AF := (parseL f.2.2).1.map fun x => (f.1, x.1, x.2.1, x.2.2.1, x.2.2.2)
def ntF (f : Fl) : List NF := (parseL f.2.2).2.map fun x => (f.1, x.1, x.2.1, x.2.2)
/-- the error's number of these files; the files in order -/
def ordE (fs : List Fl) : Nat := if 16 < fs.length then 4 else if fs.all (fun f => mayN f.1) = true then 0 else 140
def orderL (m : Fl) (fs : List Fl) : List Fl := if ordE fs = 0 then m :: ordL fs else []
def noteE (m : Fl) (fs : List Fl) : NF := (m.1, 0, ordE fs, if ordE fs = 140 then (match fs.find? (fun f => !mayN f.1) with | some f => f.1.take 60 | none => []) else [])
def mergeL (m : Fl) (fs : List Fl) : List AF × List NF :=
  if ordE fs ≠ 0 then ([], [noteE m fs])
  else if (m :: ordL fs).flatMap ntF ≠ [] then ([], (m :: ordL fs).flatMap ntF)
  else ((m :: ordL fs).flatMap asF, [])
theorem mergeL_ok {m : Fl} {fs : List Fl} (h : ordE fs = 0) : mergeL m fs = if (m :: ordL fs).flatMap ntF ≠ [] then ([], (m :: ordL fs).flatMap ntF) else ((m :: ordL fs).flatMap asF, []) := if_neg (fun x => x h)
theorem mergeL_err {m : Fl} {fs : List Fl} (h : ordE fs ≠ 0) : mergeL m fs = ([], [noteE m fs]) := if_pos h
theorem mergeL_congr {m : Fl} {fs gs : List Fl} (he : ordE fs = ordE gs) (hn : ordE fs ≠ 0 → noteE m fs = noteE m gs) (ho : ordE fs = 0 → ordL fs = ordL gs) : mergeL m fs = mergeL m gs := by
  by_cases h : ordE fs = 0
  · rw [mergeL_ok h, mergeL_ok (he ▸ h), ho h]
  · rw [mergeL_err h, mergeL_err (he ▸ h), hn h]
/-- unlike names: all count, whatever their order -/
theorem ord_turn {fs gs : List Fl} (hp : fs.Perm gs) (hd : fs.Pairwise (fun a b => a.1 ≠ b.1)) : ordL fs = ordL gs := by
  have hd2 : gs.Pairwise (fun a b => a.1 ≠ b.1) := (hp.pairwise_iff (fun {_ _} h => Ne.symm h)).1 hd
  have key : ∀ {l : List Fl}, l.Pairwise (fun a b => a.1 ≠ b.1) → ∀ f, (∃ i, i < l.length ∧ Win l i f) ↔ f ∈ l := by
    intro l hl f
    constructor
    · rintro ⟨i, hi, -, h2, -⟩
      exact List.mem_of_getElem? h2
    · intro hf
      obtain ⟨i, hi, e⟩ := List.mem_iff_getElem.1 hf
      refine ⟨i, hi, hi, by rw [List.getElem?_eq_getElem hi, e], fun j g hj hg eg => ?_⟩
      have hg' : l[j] = g := by rw [List.getElem?_eq_getElem hj] at hg; exact Option.some.inj hg
      by_cases hij : i = j
      · subst hij
        rw [← e, ← hg']
        exact .inr ⟨rfl, Nat.le_refl _⟩
      · have h1 := List.pairwise_iff_getElem.1 hl
        rcases Nat.lt_or_gt_of_ne hij with q | q
        · exact absurd (by rw [e, hg', eg]) (h1 i j hi hj q)
        · exact absurd (by rw [e, hg', eg]) (h1 j i hj hi q)
  exact srt_ext (ordL_ok fs).1 (ordL_ok gs).1 (fun f => ((ordL_ok fs).2 f).trans ((key hd f).trans ((hp.mem_iff).trans ((key hd2 f).symm.trans ((ordL_ok gs).2 f).symm))))
theorem all_perm {fs gs : List Fl} (hp : fs.Perm gs) (p : Fl → Bool) : fs.all p = gs.all p := by
  rw [Bool.eq_iff_iff, List.all_eq_true, List.all_eq_true]
  exact ⟨fun h x hx => h x (hp.mem_iff.2 hx), fun h x hx => h x (hp.mem_iff.1 hx)⟩
theorem merge_turn {m : Fl} {fs gs : List Fl} (hp : fs.Perm gs) (hd : fs.Pairwise (fun a b => a.1 ≠ b.1)) (hm : fs.all (fun f => mayN f.1) = true) : mergeL m fs = mergeL m gs := by
  have hm2 := (all_perm hp (fun f => mayN f.1)).symm.trans hm
  have he : ordE fs = ordE gs := by unfold ordE; rw [hp.length_eq, hm, hm2]
  have h140 : ordE fs ≠ 140 := by unfold ordE; rw [hm]; split <;> simp
  refine mergeL_congr he (fun h => ?_) (fun _ => ord_turn hp hd)
  unfold noteE
  rw [← he, if_neg h140, if_neg h140]
/-- a masked one counts for nothing -/
theorem ord_mask {fs : List Fl} {g x : Fl} (hx : x ∈ fs) (hn : g.1 = x.1) (hd : x.2.1 ≤ g.2.1) : ordL (fs ++ [g]) = ordL fs := by
  refine srt_ext (ordL_ok _).1 (ordL_ok _).1 (fun f => ((ordL_ok _).2 f).trans (Iff.trans ?_ ((ordL_ok fs).2 f).symm))
  obtain ⟨xi, hxi, ex⟩ := List.mem_iff_getElem.1 hx
  have hxs : fs[xi]? = some x := by rw [List.getElem?_eq_getElem hxi, ex]
  constructor
  · rintro ⟨i, hi, -, h2, h3⟩
    have hlt : i < fs.length := by
      refine Nat.lt_of_not_le fun hle => ?_
      have hi' : i = fs.length := by simp at hi; omega
      subst hi'
      rw [List.getElem?_append_right (Nat.le_refl _)] at h2
      simp at h2
      subst h2
      have := h3 xi x (by simp; omega) (by rw [List.getElem?_append_left hxi]; exact hxs) hn.symm
      omega
    rw [List.getElem?_append_left hlt] at h2
    exact ⟨i, hlt, hlt, h2, fun j y hj hy ey => h3 j y (by simp; omega) (by rw [List.getElem?_append_left hj]; exact hy) ey⟩
  · rintro ⟨i, hi, -, h2, h3⟩
    refine ⟨i, by simp; omega, by simp; omega, by rw [List.getElem?_append_left hi]; exact h2, fun j y hj hy ey => ?_⟩
    by_cases hj' : j < fs.length
    · rw [List.getElem?_append_left hj'] at hy
      exact h3 j y hj' hy ey
    · have e : j = fs.length := by simp at hj; omega
      subst e
      rw [List.getElem?_append_right (Nat.le_refl _)] at hy
      simp at hy
      subst hy
      have := h3 xi x hxi hxs (hn.symm.trans ey)
      omega
theorem merge_mask {m : Fl} {fs : List Fl} {g x : Fl} (hl : fs.length ≤ 15) (hx : x ∈ fs) (hn : g.1 = x.1) (hd : x.2.1 ≤ g.2.1) : mergeL m fs = mergeL m (fs ++ [g]) := by
  have hal : (fs ++ [g]).all (fun f => mayN f.1) = fs.all (fun f => mayN f.1) := by
    rw [List.all_append]
    cases h : fs.all (fun f => mayN f.1)
    · rfl
    · rw [List.all_eq_true] at h
      have := h x hx
      simp [hn, this]
  have he : ordE fs = ordE (fs ++ [g]) := by
    unfold ordE
    rw [hal, if_neg (show ¬ 16 < fs.length by omega), if_neg (show ¬ 16 < (fs ++ [g]).length by rw [List.length_append, List.length_singleton]; omega)]
  refine mergeL_congr he (fun h => ?_) (fun _ => (ord_mask hx hn hd).symm)
  unfold noteE
  rw [← he]
  have hf : fs.find? (fun f => !mayN f.1) = (fs ++ [g]).find? (fun f => !mayN f.1) := by
    rw [List.find?_append]
    cases hq : fs.find? (fun f => !mayN f.1) with
    | some z => rfl
    | none =>
      have h1 := List.find?_eq_none.1 hq x hx
      simp at h1
      simp [hn, h1]
  rw [hf]
end L12
end Go.Proofs.Ytkmbahpjioopdaa
