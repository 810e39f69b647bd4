import Derived.Test.YtkmhfjnjfghnjaaMp4
/- Layer 25: what a row tells; the walk of holds. -/
namespace Go.Proofs.Ytkmhfjnjfghnjaa
open Go.RowKit V
namespace L25
def hld (s : Sy) (a : Nat) : Bool := if s.c = 21 then a == s.k else if s.c = 37 then decide (s.k < a) else if s.c = 53 then decide (s.k ≤ a) else if s.c = 69 then (a &&& s.k) != 0 else true
def nx (s : Sy) (i a : Nat) : Nat := if s.c = 32 ∨ s.c = 84 then i + 1 else if hld s a = true then s.th.toNat else s.el.toNat
def na (d : Dat) (s : Sy) (a : Nat) : Nat := if s.c = 32 then wd d s.k else if s.c = 84 then a &&& s.k else a
def run1 (d : Dat) (l : List Sy) : Nat → Nat → Nat → Nat → Nat × Nat
  | 0, _, _, _ => (0, 0)
  | f + 1, i, a, st => match l[i]? with
    | none => (0, 0)
    | some s => if s.c = 6 then (s.k, st + 1) else run1 d l f (nx s i a) (na d s a) (st + 1)
def runA (d : Dat) (l : List Sy) : Nat × Nat := if mayA l = true then run1 d l l.length 0 0 0 else (0, 0)
theorem may1_code {len i : Nat} {s : Sy} (h : may1 len i s = true) : s.c = 32 ∨ s.c = 84 ∨ s.c = 6 ∨ s.c = 5 ∨ s.c = 21 ∨ s.c = 37 ∨ s.c = 53 ∨ s.c = 69 := by
  unfold may1 at h
  split at h
  · omega
  split at h
  · omega
  split at h
  · omega
  simp only [Bool.and_eq_true, asksB, Bool.or_eq_true, beq_iff_eq] at h
  omega
theorem nx_in {l : List Sy} (h : mayA l = true) {j : Nat} (hj : j < l.length) (h6 : l[j].c ≠ 6) (a : Nat) : j < nx l[j] j a ∧ nx l[j] j a < l.length := by
  have hm := mayA_get h hj
  have hlast := mayA_last h
  have hne : j ≠ l.length - 1 := by intro e; subst e; exact h6 hlast
  unfold nx
  by_cases c1 : l[j].c = 32 ∨ l[j].c = 84
  · rw [if_pos c1]; omega
  rw [if_neg c1]
  unfold may1 at hm
  rw [if_neg (by omega), if_neg (by omega)] at hm
  by_cases c5 : l[j].c = 5
  · rw [if_pos c5] at hm
    have hh : hld l[j] a = true := by unfold hld; rw [if_neg (by omega), if_neg (by omega), if_neg (by omega), if_neg (by omega)]
    rw [if_pos hh]
    simp only [Bool.and_eq_true, there, decide_eq_true_eq] at hm
    omega
  · rw [if_neg c5] at hm
    simp only [Bool.and_eq_true, there, decide_eq_true_eq] at hm
    split <;> omega
theorem run1_fuel {d : Dat} {l : List Sy} (h : mayA l = true) : ∀ (f : Nat) {i a st g : Nat}, i < l.length → l.length - i ≤ f → l.length - i ≤ g → run1 d l f i a st = run1 d l g i a st
  | 0, i, a, st, g, hi, hf, _ => by omega
  | f + 1, i, a, st, 0, hi, _, hg => by omega
  | f + 1, i, a, st, g + 1, hi, hf, hg => by
    unfold run1
    rw [List.getElem?_eq_getElem hi]
    dsimp only
    split
    · rfl
    · rename_i h6
      obtain ⟨h1, h2⟩ := nx_in h hi h6 a
      exact run1_fuel h f h2 (by omega) (by omega)
theorem run1_end {d : Dat} {l : List Sy} {i a st : Nat} (hi : i < l.length) (h6 : l[i].c = 6) : run1 d l (l.length - i) i a st = (l[i].k, st + 1) := by
  obtain ⟨f, hf⟩ : ∃ f, l.length - i = f + 1 := ⟨l.length - i - 1, by omega⟩
  rw [hf]
  unfold run1
  rw [List.getElem?_eq_getElem hi]
  dsimp only
  rw [if_pos h6]
theorem run1_step {d : Dat} {l : List Sy} (h : mayA l = true) {i a st : Nat} (hi : i < l.length) (h6 : l[i].c ≠ 6) : run1 d l (l.length - i) i a st = run1 d l (l.length - nx l[i] i a) (nx l[i] i a) (na d l[i] a) (st + 1) := by
  obtain ⟨f, hf⟩ : ∃ f, l.length - i = f + 1 := ⟨l.length - i - 1, by omega⟩
  obtain ⟨h1, h2⟩ := nx_in h hi h6 a
  rw [hf, show run1 d l (f + 1) i a st = (match l[i]? with | none => (0, 0) | some s => if s.c = 6 then (s.k, st + 1) else run1 d l f (nx s i a) (na d s a) (st + 1)) from rfl]
  rw [List.getElem?_eq_getElem hi]
  dsimp only
  rw [if_neg h6]
  exact run1_fuel h f h2 (by omega) (Nat.le_refl _)
theorem na_bd {d : Dat} (hd : OkD d) (s : Sy) {a : Nat} (ha : a < 4294967296) : na d s a < 4294967296 := by
  unfold na
  split
  · exact wd_bd hd _
  split
  · exact Nat.lt_of_le_of_lt Nat.and_le_left ha
  · exact ha
set_option maxRecDepth 100000 in
set_option maxHeartbeats 1000000 in
theorem holds_calls (s : Sy) (a : Nat) (ha : a < 4294967296) (hk : s.k < 4294967296) (w : World) :
    Calls Try.prog 59 #[.agg #[.int .u16 (s.c : Int), .int .u32 (s.k : Int), .int .i64 s.th, .int .i64 s.el], .int .u32 (a : Int)] w fun e w' => e = .returned (.bool (hld s a)) ∧ Ext w w' := by
  obtain ⟨c, k, th, el⟩ := s
  dsimp only at hk ⊢
  have hab : bits .and .u32 (a : Int) (k : Int) = ((a &&& k : Nat) : Int) := by
    rw [u32_and _ _ (by omega) (by omega) (by omega) (by omega)]; simp
  have e1 : ((a : Int) == (k : Int)) = (a == k) := by rw [Bool.eq_iff_iff]; simp; omega
  have e4 : (((a &&& k : Nat) : Int) != 0) = ((a &&& k) != 0) := by rw [Bool.eq_iff_iff]; simp
  by_cases c1 : c = 21
  · have hA : hld ⟨c, k, th, el⟩ a = (a == k) := by unfold hld; rw [if_pos c1]
    rw [hA]
    subst c1
    clear hab e4
    generalize (a == k) = bb at *
    have HhA := Lib.hid hA
    clear hA
    go_enter Try.func59, Try.ntmps59
    go_wp2
    go_ret
    exact ⟨rfl, (Ext.refl _).alloc _⟩
  by_cases c2 : c = 37
  · have hA : hld ⟨c, k, th, el⟩ a = decide (k < a) := by unfold hld; rw [if_neg c1, if_pos c2]
    rw [hA]
    subst c2
    clear hab e4 e1
    have HhA := Lib.hid hA
    clear hA
    go_enter Try.func59, Try.ntmps59
    go_wp2
    go_ret
    exact ⟨by simp, (Ext.refl _).alloc _⟩
  by_cases c3 : c = 53
  · have hA : hld ⟨c, k, th, el⟩ a = decide (k ≤ a) := by unfold hld; rw [if_neg c1, if_neg c2, if_pos c3]
    rw [hA]
    subst c3
    clear hab e4 e1
    have HhA := Lib.hid hA
    clear hA
    go_enter Try.func59, Try.ntmps59
    go_wp2
    go_ret
    exact ⟨by simp, (Ext.refl _).alloc _⟩
  by_cases c4 : c = 69
  · have hA : hld ⟨c, k, th, el⟩ a = ((a &&& k) != 0) := by unfold hld; rw [if_neg c1, if_neg c2, if_neg c3, if_pos c4]
    rw [hA]
    subst c4
    clear e1
    generalize (a &&& k) = m at *
    generalize (m != 0) = bb at *
    have HhA := Lib.hid hA
    clear hA
    go_enter Try.func59, Try.ntmps59
    go_wp2
    go_ret
    exact ⟨rfl, (Ext.refl _).alloc _⟩
  have hA : hld ⟨c, k, th, el⟩ a = true := by unfold hld; rw [if_neg c1, if_neg c2, if_neg c3, if_neg c4]
  rw [hA]
  have f1 : ((c : Int) == 21) = false := by simp; omega
  have f2 : ((c : Int) == 37) = false := by simp; omega
  have f3 : ((c : Int) == 53) = false := by simp; omega
  have f4 : ((c : Int) == 69) = false := by simp; omega
  have HhA := Lib.hid hA
  clear hA
  clear c1 c2 c3 c4 hab e1 e4
  go_enter Try.func59, Try.ntmps59
  go_wp2
  go_ret
  exact ⟨rfl, (Ext.refl _).alloc _⟩
end L25
end Go.Proofs.Ytkmhfjnjfghnjaa

