import Derived.Test.YtkmhfjnjfghnjaaMq5
/- Layer 25: the walk of May. -/
namespace Go.Proofs.Ytkmhfjnjfghnjaa
open Go.RowKit V
namespace L25
theorem mayA_short {l : List Sy} (h : ¬ 0 < l.length) : mayA l = false := by unfold mayA; simp; omega
theorem mayA_long {l : List Sy} (h : 131072 < l.length) : mayA l = false := by unfold mayA; simp; omega
theorem mayA_lastc {l : List Sy} (h : (lastc l == 6) = false) : mayA l = false := by unfold mayA; rw [h]; simp
theorem mayA_mid {l : List Sy} (h1 : 0 < l.length) (h2 : l.length ≤ 131072) (h3 : (lastc l == 6) = true) : mayA l = mayL l.length l 0 := by unfold mayA; rw [h3]; simp [h1, h2]
set_option maxRecDepth 100000 in
set_option maxHeartbeats 400000 in
theorem May_calls (hOne : ∀ (s : Sy) (i len : Nat) (w : World), Calls Try.prog 61 #[.agg #[.int .u16 (s.c : Int), .int .u32 (s.k : Int), .int .i64 s.th, .int .i64 s.el], .int .i64 (i : Int), .int .i64 (len : Int)] w fun e w' => e = .returned (.bool (may1 len i s)) ∧ Ext w w')
    (v : Value) (xs : List Sy) (hl : xs.length ≤ 1000000) (w : World) (hv : Rd w 4 encY v xs) :
    Calls Try.prog 34 #[v] w fun e w' => e = .returned (.bool (mayA xs)) ∧ Ext w w' := by
  obtain ⟨a, c, rfl, hac, hca⟩ := rdY_cell hv
  clear hv
  have HhOne := Lib.hid hOne
  clear hOne
  by_cases p1 : 0 < xs.length
  case neg =>
    have hA := mayA_short p1
    have d1 : decide ((xs.length : Int) < 1) = true := decide_eq_true (by omega)
    have d1' : decide (xs.length < 1) = true := decide_eq_true (by omega)
    rw [hA]
    have HhA := Lib.hid hA
    clear hA
    have Hp1 := Lib.hid p1
    clear p1
    clear hca
    go_enter Try.func34, Try.ntmps34
    go_wp2
    go_ret
    exact ⟨rfl, Ext.refl _⟩
  have d1 : decide ((xs.length : Int) < 1) = false := decide_eq_false (by omega)
  have d1' : decide (xs.length < 1) = false := decide_eq_false (by omega)
  by_cases p2 : 131072 < xs.length
  · have hA := mayA_long p2
    have d2 : decide (131072 < (xs.length : Int)) = true := decide_eq_true (by omega)
    have d2' : decide (131072 < xs.length) = true := decide_eq_true (by omega)
    rw [hA]
    have HhA := Lib.hid hA
    clear hA
    have Hp1 := Lib.hid p1
    clear p1
    have Hp2 := Lib.hid p2
    clear p2
    clear hca
    go_enter Try.func34, Try.ntmps34
    go_wp2
    go_ret
    exact ⟨rfl, Ext.refl _⟩
  have d2 : decide (131072 < (xs.length : Int)) = false := decide_eq_false (by omega)
  have d2' : decide (131072 < xs.length) = false := decide_eq_false (by omega)
  obtain ⟨b, o, rfl, l1, -⟩ := hca (xs.length - 1) (by omega)
  rw [← lastc_get p1] at l1
  have hmid := fun h => mayA_mid p1 (by omega) h
  have hlst := mayA_lastc (l := xs)
  obtain ⟨n, hn⟩ : ∃ n : Nat, xs.length = n + 1 := ⟨xs.length - 1, by omega⟩
  have hs1 : (xs.length : Int) - 1 = (n : Int) := by omega
  have hn1 : xs.length - 1 = n := by omega
  rw [hn1] at l1
  have hnl : n < xs.length := by omega
  cases q : (lastc xs == 6)
  · have hA := hlst q
    have dq : ((lastc xs : Int) != 6) = true := by simp at q; simp; omega
    rw [hA]
    generalize lastc xs = lc at *
    have HhA := Lib.hid hA
    clear hA
    have Hp1 := Lib.hid p1
    clear p1
    have Hp2 := Lib.hid p2
    clear p2
    have Hhmid := Lib.hid hmid
    clear hmid
    have Hhlst := Lib.hid hlst
    clear hlst
    have Hq := Lib.hid q
    clear q
    have Hhn := Lib.hid hn
    clear hn
    have Hhn1 := Lib.hid hn1
    clear hn1
    clear hca
    go_enter Try.func34, Try.ntmps34
    go_wp2
    go_ret
    exact ⟨rfl, Ext.refl _⟩
  have hA := hmid q
  have dq : ((lastc xs : Int) != 6) = false := by simp at q; simp; omega
  rw [hA]
  have hca2 : ∀ i, (hi : i < xs.length) → w.cell? ⟨b, o + i * 4, none⟩ = some (.int .u16 (xs[i].c : Int)) ∧ w.cell? ⟨b, o + i * 4 + 1, none⟩ = some (.int .u32 (xs[i].k : Int)) ∧ w.cell? ⟨b, o + i * 4 + 2, none⟩ = some (.int .i64 xs[i].th) ∧ w.cell? ⟨b, o + i * 4 + 3, none⟩ = some (.int .i64 xs[i].el) := by
    intro i hi
    obtain ⟨b2, o2, e, h⟩ := hca i hi
    simp only [Option.some.injEq, Addr.mk.injEq] at e
    obtain ⟨rfl, rfl, -⟩ := e
    exact h
  generalize lastc xs = lc at *
  have HhA := Lib.hid hA
  clear hA
  have Hp1 := Lib.hid p1
  clear p1
  have Hp2 := Lib.hid p2
  clear p2
  have Hhmid := Lib.hid hmid
  clear hmid
  have Hhlst := Lib.hid hlst
  clear hlst
  have Hq := Lib.hid q
  clear q
  have Hhn := Lib.hid hn
  clear hn
  have Hhn1 := Lib.hid hn1
  clear hn1
  have Hhca2 := Lib.hid hca2
  clear hca2
  clear hca
  go_enter Try.func34, Try.ntmps34
  go_wp2
  go_loopw [25] (fun i wr => ∃ k : Nat, k ≤ xs.length ∧ i = .int .i64 k ∧ Ext w wr ∧ mayL xs.length xs 0 = mayL xs.length (xs.drop k) k) (fun i _ => xs.length - (intOf i).toNat)
  case atStart => exact ⟨0, by omega, rfl, Ext.refl _, rfl⟩
  case round =>
    obtain ⟨k, hk, rfl, hx, heq⟩ := hrel
    have HX := Lib.hid hx
    by_cases hlt : k < xs.length
    · obtain ⟨h1, h2, h3, h4⟩ := Hhca2.out k hlt
      replace h1 := hx.cell h1; replace h2 := hx.cell h2; replace h3 := hx.cell h3; replace h4 := hx.cell h4
      rw [mayL_step _ hlt] at heq
      have hO := fun W => HhOne.out xs[k] k xs.length W
      clear hx
      generalize xs[k] = s at *
      cases hm : may1 xs.length k s
      all_goals
        rw [hm] at hO heq
        have HhO := Lib.hid hO
        clear hO
        have Hheq := Lib.hid heq
        clear heq
        have Hhm := Lib.hid hm
        clear hm
        go_wp2_with fail
        refine (HhO.out _).mono ?_
        rintro e w2 ⟨rfl, hx2⟩
        go_wp2_with fail
      · go_ret
        exact ⟨by rw [Hheq.out]; rfl, (HX.out.alloc _).trans hx2⟩
      · first
          | (go_roundw
             case rel => exact ⟨k + 1, by omega, by go_num, (HX.out.alloc _).trans hx2, by rw [Hheq.out]; rfl⟩
             case measure => simp [intOf]; omega)
          | exact ⟨⟨k + 1, by omega, by go_num, (HX.out.alloc _).trans hx2, by rw [Hheq.out]; rfl⟩, by simp [intOf]; omega⟩
    · obtain rfl : k = xs.length := by omega
      rw [mayL_end] at heq
      have Hheq := Lib.hid heq
      clear heq
      clear hx
      go_wp2
      go_ret
      exact ⟨by rw [Hheq.out]; rfl, HX.out⟩
end L25
end Go.Proofs.Ytkmhfjnjfghnjaa

/- Layer 25: what a row tells; the walk of holds. -/
namespace Go.Proofs.Ytkmhfjnjfghnjaa
open Go.RowKit V
namespace L25
def hld (s : Sy) (a : Nat) : Bool := if s.c = 21 then a == s.k else if s.c = 37 then decide (s.k < a) else if s.c = 53 then decide (s.k ≤ a) else if s.c = 69 then (a &&& s.k) != 0 else true
def nx (s : Sy) (i a : Nat) : Nat := if s.c = 32 ∨ s.c = 84 then i + 1 else if hld s a = true then s.th.toNat else s.el.toNat
def na (d : Dat) (s : Sy) (a : Nat) : Nat := if s.c = 32 then wd d s.k else if s.c = 84 then a &&& s.k else a
def run1 (d : Dat) (l : List Sy) : Nat → Nat → Nat → Nat → Nat × Nat
  | 0, _, _, _ => (0, 0)
  | f + 1, i, a, st => match l[i]? with
    | none => (0, 0)
    | some s => if s.c = 6 then (s.k, st + 1) else run1 d l f (nx s i a) (na d s a) (st + 1)
def runA (d : Dat) (l : List Sy) : Nat × Nat := if mayA l = true then run1 d l l.length 0 0 0 else (0, 0)
theorem may1_code {len i : Nat} {s : Sy} (h : may1 len i s = true) : s.c = 32 ∨ s.c = 84 ∨ s.c = 6 ∨ s.c = 5 ∨ s.c = 21 ∨ s.c = 37 ∨ s.c = 53 ∨ s.c = 69 := by
  unfold may1 at h
  split at h
  · omega
  split at h
  · omega
  split at h
  · omega
  simp only [Bool.and_eq_true, asksB, Bool.or_eq_true, beq_iff_eq] at h
  omega
theorem nx_in {l : List Sy} (h : mayA l = true) {j : Nat} (hj : j < l.length) (h6 : l[j].c ≠ 6) (a : Nat) : j < nx l[j] j a ∧ nx l[j] j a < l.length := by
  have hm := mayA_get h hj
  have hlast := mayA_last h
  have hne : j ≠ l.length - 1 := by intro e; subst e; exact h6 hlast
  unfold nx
  by_cases c1 : l[j].c = 32 ∨ l[j].c = 84
  · rw [if_pos c1]; omega
  rw [if_neg c1]
  unfold may1 at hm
  rw [if_neg (by omega), if_neg (by omega)] at hm
  by_cases c5 : l[j].c = 5
  · rw [if_pos c5] at hm
    have hh : hld l[j] a = true := by unfold hld; rw [if_neg (by omega), if_neg (by omega), if_neg (by omega), if_neg (by omega)]
    rw [if_pos hh]
    simp only [Bool.and_eq_true, there, decide_eq_true_eq] at hm
    omega
  · rw [if_neg c5] at hm
    simp only [Bool.and_eq_true, there, decide_eq_true_eq] at hm
    split <;> omega
theorem run1_fuel {d : Dat} {l : List Sy} (h : mayA l = true) : ∀ (f : Nat) {i a st g : Nat}, i < l.length → l.length - i ≤ f → l.length - i ≤ g → run1 d l f i a st = run1 d l g i a st
  | 0, i, a, st, g, hi, hf, _ => by omega
  | f + 1, i, a, st, 0, hi, _, hg => by omega
  | f + 1, i, a, st, g + 1, hi, hf, hg => by
    unfold run1
    rw [List.getElem?_eq_getElem hi]
    dsimp only
    split
    · rfl
    · rename_i h6
      obtain ⟨h1, h2⟩ := nx_in h hi h6 a
      exact run1_fuel h f h2 (by omega) (by omega)
theorem run1_end {d : Dat} {l : List Sy} {i a st : Nat} (hi : i < l.length) (h6 : l[i].c = 6) : run1 d l (l.length - i) i a st = (l[i].k, st + 1) := by
  obtain ⟨f, hf⟩ : ∃ f, l.length - i = f + 1 := ⟨l.length - i - 1, by omega⟩
  rw [hf]
  unfold run1
  rw [List.getElem?_eq_getElem hi]
  dsimp only
  rw [if_pos h6]
theorem run1_step {d : Dat} {l : List Sy} (h : mayA l = true) {i a st : Nat} (hi : i < l.length) (h6 : l[i].c ≠ 6) : run1 d l (l.length - i) i a st = run1 d l (l.length - nx l[i] i a) (nx l[i] i a) (na d l[i] a) (st + 1) := by
  obtain ⟨f, hf⟩ : ∃ f, l.length - i = f + 1 := ⟨l.length - i - 1, by omega⟩
  obtain ⟨h1, h2⟩ := nx_in h hi h6 a
  rw [hf, show run1 d l (f + 1) i a st = (match l[i]? with | none => (0, 0) | some s => if s.c = 6 then (s.k, st + 1) else run1 d l f (nx s i a) (na d s a) (st + 1)) from rfl]
  rw [List.getElem?_eq_getElem hi]
  dsimp only
  rw [if_neg h6]
  exact run1_fuel h f h2 (by omega) (Nat.le_refl _)
theorem na_bd {d : Dat} (hd : OkD d) (s : Sy) {a : Nat} (ha : a < 4294967296) : na d s a < 4294967296 := by
  unfold na
  split
  · exact wd_bd hd _
  split
  · exact Nat.lt_of_le_of_lt Nat.and_le_left ha
  · exact ha
set_option maxRecDepth 100000 in
set_option maxHeartbeats 1000000 in
theorem holds_calls (s : Sy) (a : Nat) (ha : a < 4294967296) (hk : s.k < 4294967296) (w : World) :
    Calls Try.prog 59 #[.agg #[.int .u16 (s.c : Int), .int .u32 (s.k : Int), .int .i64 s.th, .int .i64 s.el], .int .u32 (a : Int)] w fun e w' => e = .returned (.bool (hld s a)) ∧ Ext w w' := by
  obtain ⟨c, k, th, el⟩ := s
  dsimp only at hk ⊢
  have hab : bits .and .u32 (a : Int) (k : Int) = ((a &&& k : Nat) : Int) := by
    rw [u32_and _ _ (by omega) (by omega) (by omega) (by omega)]; simp
  have e1 : ((a : Int) == (k : Int)) = (a == k) := by rw [Bool.eq_iff_iff]; simp; omega
  have e4 : (((a &&& k : Nat) : Int) != 0) = ((a &&& k) != 0) := by rw [Bool.eq_iff_iff]; simp
  by_cases c1 : c = 21
  · have hA : hld ⟨c, k, th, el⟩ a = (a == k) := by unfold hld; rw [if_pos c1]
    rw [hA]
    subst c1
    clear hab e4
    generalize (a == k) = bb at *
    have HhA := Lib.hid hA
    clear hA
    go_enter Try.func59, Try.ntmps59
    go_wp2
    go_ret
    exact ⟨rfl, (Ext.refl _).alloc _⟩
  by_cases c2 : c = 37
  · have hA : hld ⟨c, k, th, el⟩ a = decide (k < a) := by unfold hld; rw [if_neg c1, if_pos c2]
    rw [hA]
    subst c2
    clear hab e4 e1
    have HhA := Lib.hid hA
    clear hA
    go_enter Try.func59, Try.ntmps59
    go_wp2
    go_ret
    exact ⟨by simp, (Ext.refl _).alloc _⟩
  by_cases c3 : c = 53
  · have hA : hld ⟨c, k, th, el⟩ a = decide (k ≤ a) := by unfold hld; rw [if_neg c1, if_neg c2, if_pos c3]
    rw [hA]
    subst c3
    clear hab e4 e1
    have HhA := Lib.hid hA
    clear hA
    go_enter Try.func59, Try.ntmps59
    go_wp2
    go_ret
    exact ⟨by simp, (Ext.refl _).alloc _⟩
  by_cases c4 : c = 69
  · have hA : hld ⟨c, k, th, el⟩ a = ((a &&& k) != 0) := by unfold hld; rw [if_neg c1, if_neg c2, if_neg c3, if_pos c4]
    rw [hA]
    subst c4
    clear e1
    generalize (a &&& k) = m at *
    generalize (m != 0) = bb at *
    have HhA := Lib.hid hA
    clear hA
    go_enter Try.func59, Try.ntmps59
    go_wp2
    go_ret
    exact ⟨rfl, (Ext.refl _).alloc _⟩
  have hA : hld ⟨c, k, th, el⟩ a = true := by unfold hld; rw [if_neg c1, if_neg c2, if_neg c3, if_neg c4]
  rw [hA]
  have f1 : ((c : Int) == 21) = false := by simp; omega
  have f2 : ((c : Int) == 37) = false := by simp; omega
  have f3 : ((c : Int) == 53) = false := by simp; omega
  have f4 : ((c : Int) == 69) = false := by simp; omega
  have HhA := Lib.hid hA
  clear hA
  clear c1 c2 c3 c4 hab e1 e4
  go_enter Try.func59, Try.ntmps59
  go_wp2
  go_ret
  exact ⟨rfl, (Ext.refl _).alloc _⟩
end L25
end Go.Proofs.Ytkmhfjnjfghnjaa

