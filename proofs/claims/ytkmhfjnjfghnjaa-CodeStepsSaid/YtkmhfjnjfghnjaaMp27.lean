import Derived.Test.YtkmhfjnjfghnjaaMp5
/- Layer 25: plain: what a chain of asks with one place to go to tells. -/
namespace Go.Proofs.Ytkmhfjnjfghnjaa
open Go.RowKit V
namespace L25
theorem chain_run {d : Dat} {L : List Sy} (hm : mayA L = true) {ks : List Nat} {nA : Nat} (hk : ∀ i (h : i < ks.length), L[1 + i]? = some ⟨21, ks[i], (nA : Int), ((2 + i : Nat) : Int)⟩)
    (hA6 : L[nA]? = some ⟨6, 2147418112, 0, 0⟩) (a : Nat) : ∀ (n i st : Nat), i + n = ks.length → 1 + ks.length < L.length →
      ∃ st', run1 d L (L.length - (1 + i)) (1 + i) a st = if (ks.drop i).contains a = true then (2147418112, st') else run1 d L (L.length - (1 + ks.length)) (1 + ks.length) a st'
  | 0, i, st, hi, hl => ⟨st, by
    have e : i = ks.length := by omega
    subst e
    rw [List.drop_length, if_neg (by simp)]⟩
  | n + 1, i, st, hi, hl => by
    have hlt : i < ks.length := by omega
    have h1 := hk i hlt
    have hin : 1 + i < L.length := by omega
    rw [List.getElem?_eq_getElem hin] at h1
    have e1 := Option.some.inj h1
    have hstep := run1_step (d := d) (a := a) (st := st) hm hin (by rw [e1]; show (21 : Nat) ≠ 6; decide)
    rw [hstep, e1]
    have hna : na d ⟨21, ks[i], (nA : Int), ((2 + i : Nat) : Int)⟩ a = a := by unfold na; rw [if_neg (by show ¬ (21 : Nat) = 32; decide), if_neg (by show ¬ (21 : Nat) = 84; decide)]
    rw [hna, List.drop_eq_getElem_cons hlt, List.contains_cons]
    have hh : hld ⟨21, ks[i], (nA : Int), ((2 + i : Nat) : Int)⟩ a = (a == ks[i]) := by unfold hld; rw [if_pos rfl]
    cases hc : a == ks[i]
    · have hnx : nx ⟨21, ks[i], (nA : Int), ((2 + i : Nat) : Int)⟩ (1 + i) a = 1 + (i + 1) := by
        unfold nx
        rw [if_neg (by simp), hh, hc, if_neg (by simp)]
        show ((2 + i : Nat) : Int).toNat = _
        omega
      rw [hnx, Bool.false_or]
      exact chain_run hm hk hA6 a n (i + 1) (st + 1) (by omega) hl
    · have hnx : nx ⟨21, ks[i], (nA : Int), ((2 + i : Nat) : Int)⟩ (1 + i) a = nA := by
        unfold nx
        rw [if_neg (by simp), hh, hc, if_pos rfl]
        show (nA : Int).toNat = _
        omega
      have hAl : nA < L.length := by
        rcases Nat.lt_or_ge nA L.length with h | h
        · exact h
        · rw [List.getElem?_eq_none h] at hA6; cases hA6
      rw [List.getElem?_eq_getElem hAl] at hA6
      have e2 := Option.some.inj hA6
      rw [hnx, run1_end hAl (by rw [e2]), e2, Bool.true_or]
      exact ⟨st + 1 + 1, by rw [if_pos rfl]⟩
end L25
end Go.Proofs.Ytkmhfjnjfghnjaa

