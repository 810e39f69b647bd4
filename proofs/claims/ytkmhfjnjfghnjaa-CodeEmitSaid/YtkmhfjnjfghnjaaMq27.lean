import Derived.Test.YtkmhfjnjfghnjaaMq26
import Derived.Test.YtkmhfjnjfghnjaaMq20
import Derived.Test.YtkmhfjnjfghnjaaMq18
/- Layer 25: plain: a fold of patches, place by place; the row of a guard. -/
namespace Go.Proofs.Ytkmhfjnjfghnjaa
open Go.RowKit V
namespace L25W
open L25 (Sy)
theorem patch_get (pt pe : Jm → Int) (ls : List Sy) (j : Jm) (i : Nat) : (patch pt pe ls j)[i]? = if j.at_ = i then ls[i]?.map (fun s => (⟨s.c, s.k, pt j, if j.code = 5 then s.el else pe j⟩ : Sy)) else ls[i]? := by
  unfold patch
  by_cases e : j.at_ = i
  · rw [if_pos e, ← e]
    cases h : ls[j.at_]? with
    | none => simp [h]
    | some s => simp only [Option.map_some]; rw [List.getElem?_set_self (List.getElem?_eq_some_iff.1 h).1]
  · rw [if_neg e]
    cases h : ls[j.at_]? with
    | none => rfl
    | some s => simp only []; rw [List.getElem?_set_ne e]
theorem fold_none (pt pe : Jm → Int) (i : Nat) : ∀ (js : List Jm) (ls : List Sy), (∀ j ∈ js, j.at_ ≠ i) → (js.foldl (patch pt pe) ls)[i]? = ls[i]?
  | [], _, _ => rfl
  | a :: t, ls, h => by
    rw [List.foldl_cons, fold_none pt pe i t _ (fun j hj => h j (List.mem_cons_of_mem _ hj)), patch_get, if_neg (h a List.mem_cons_self)]
theorem fold_one (pt pe : Jm → Int) (i : Nat) : ∀ (js : List Jm) (ls : List Sy) (j : Jm), j ∈ js → j.at_ = i → js.Pairwise (fun a b => a.at_ ≠ b.at_) →
    (js.foldl (patch pt pe) ls)[i]? = ls[i]?.map (fun s => (⟨s.c, s.k, pt j, if j.code = 5 then s.el else pe j⟩ : Sy))
  | [], _, _, h, _, _ => by cases h
  | a :: t, ls, j, hj, hi, hp => by
    obtain ⟨h1, h2⟩ := List.pairwise_cons.1 hp
    rw [List.foldl_cons]
    rcases List.mem_cons.1 hj with rfl | hj
    · rw [fold_none pt pe i t _ (fun b hb => by have := h1 b hb; omega), patch_get, if_pos hi]
    · rw [fold_one pt pe i t _ j hj hi h2, patch_get, if_neg (by have := h1 j hj; omega)]
end L25W
namespace L25G
open L25 (Sy mayA)
open L08 (toks)
def mkC (nA : Int) : List Nat → Nat → List Sy
  | [], _ => []
  | t :: r, i => ⟨21, t, nA, ((i + 2 : Nat) : Int)⟩ :: mkC nA r (i + 1)
theorem mkC_len (nA : Int) : ∀ (ks : List Nat) (i : Nat), (mkC nA ks i).length = ks.length
  | [], _ => rfl
  | _ :: r, i => by simp [mkC, mkC_len nA r (i + 1)]
theorem mkC_get (nA : Int) : ∀ (ks : List Nat) (i0 i : Nat), (mkC nA ks i0)[i]? = ks[i]?.map (fun t => (⟨21, t, nA, ((i0 + i + 2 : Nat) : Int)⟩ : Sy))
  | [], _, _ => by simp [mkC]
  | t :: r, i0, 0 => by simp [mkC]
  | t :: r, i0, i + 1 => by
    have := mkC_get nA r (i0 + 1) i
    simp only [mkC, List.getElem?_cons_succ]
    rw [this, show i0 + 1 + i + 2 = i0 + (i + 1) + 2 by omega]
/-- what is asked behind the chain, not yet patched, and patched -/
def mid0 (la : Int) : List Sy := if la < 0 then [] else [⟨21, tokN la.toNat, 0, 0⟩, ⟨32, 0, 0, 0⟩, ⟨69, 1073741824, 0, 0⟩]
def mid (la : Int) (p : Nat) : List Sy := if la < 0 then [] else [⟨21, tokN la.toNat, ((p + 1 : Nat) : Int), ((p + 3 : Nat) : Int)⟩, ⟨32, 0, 0, 0⟩, if la = 2 then ⟨69, 1073741824, ((p + 4 : Nat) : Int), ((p + 3 : Nat) : Int)⟩ else ⟨69, 1073741824, ((p + 3 : Nat) : Int), ((p + 4 : Nat) : Int)⟩]
def ends : List Sy := [⟨6, 2147483648, 0, 0⟩, ⟨6, 2147418112, 0, 0⟩]
def guardC (ks : List Nat) (la : Int) : List Sy := ⟨32, 4, 0, 0⟩ :: (mkC ((ks.length + (if la < 0 then 0 else 3) + 2 : Nat) : Int) ks 0 ++ (mid la (ks.length + 1) ++ ends))
def guardL (m : Nat → Bool) : List Sy := guardC (chain m 6) (lastA m 6)
def fB (b0 b1 b2 b3 b4 b5 : Bool) (a : Nat) : Bool := match a with | 0 => b0 | 1 => b1 | 2 => b2 | 3 => b3 | 4 => b4 | 5 => b5 | _ => false
theorem chain_fB (m : Nat → Bool) : chain m 6 = chain (fB (m 0) (m 1) (m 2) (m 3) (m 4) (m 5)) 6 := by
  unfold chain
  congr 1
theorem lastA_fB (m : Nat → Bool) : lastA m 6 = lastA (fB (m 0) (m 1) (m 2) (m 3) (m 4) (m 5)) 6 := by
  rfl
theorem guardL_fB (m : Nat → Bool) : guardL m = guardL (fB (m 0) (m 1) (m 2) (m 3) (m 4) (m 5)) := by
  unfold guardL; rw [chain_fB, lastA_fB]
set_option maxRecDepth 100000 in
theorem guardL_may (m : Nat → Bool) : mayA (guardL m) = true ∧ (guardL m).length ≤ 30 := by
  rw [guardL_fB]
  generalize m 0 = b0, m 1 = b1, m 2 = b2, m 3 = b3, m 4 = b4, m 5 = b5
  revert b0 b1 b2 b3 b4 b5
  decide +kernel
end L25G
end Go.Proofs.Ytkmhfjnjfghnjaa

/- Layer 25: plain: what a guard's row tells. -/
namespace Go.Proofs.Ytkmhfjnjfghnjaa
open Go.RowKit V
namespace L25G
open L25
open L08 (toks ofA bit findFrom tokB findFrom_step findFrom_end and_pow)
def gdA (m : Nat → Bool) (ar nr : Nat) : Nat := if ((ofA ar nr).2 && m (ofA ar nr).1.toNat) = true then 2147418112 else 2147483648
def runG (m : Nat → Bool) (ar : Nat) (b : Bool) : Nat :=
  if (chain m 6).contains ar = true then 2147418112 else if lastA m 6 < 0 then 2147483648 else if (ar == tokN (lastA m 6).toNat) = true then (if b = true then (if lastA m 6 = 2 then 2147418112 else 2147483648) else if lastA m 6 = 2 then 2147483648 else 2147418112) else 2147483648
def runB (b0 b1 b2 b3 b4 b5 : Bool) (ar : Nat) (b : Bool) : Nat := runG (fB b0 b1 b2 b3 b4 b5) ar b
theorem nr_bit (nr : Nat) : ((nr &&& 1073741824) != 0) = bit nr := by
  have e : (1073741824 : Nat) = 2 ^ 30 := by decide
  rw [e, and_pow, Nat.testBit_eq_decide_div_mod_eq]
  unfold bit
  rw [show (2 : Nat) ^ 30 = 1073741824 by decide]
  by_cases hb : nr / 1073741824 % 2 = 1 <;> simp [hb]
theorem toks_fB (m : Nat → Bool) (x : Nat) (h : x ∈ chain m 6) : x ∈ toks := by
  unfold chain at h
  obtain ⟨a, ha, rfl⟩ := List.mem_map.1 h
  have h1 := (List.mem_filter.1 ha).1
  have h2 : a < 6 := List.mem_range.1 h1
  unfold tokN
  rw [List.getD_eq_getElem?_getD, List.getElem?_eq_getElem (by exact h2)]
  exact List.getElem_mem _
theorem lastA_cases (m : Nat → Bool) : lastA m 6 = -1 ∨ lastA m 6 = 0 ∨ lastA m 6 = 2 := by
  rw [lastA_fB]
  generalize m 0 = b0, m 1 = b1, m 2 = b2, m 3 = b3, m 4 = b4, m 5 = b5
  revert b0 b1 b2 b3 b4 b5
  decide +kernel
theorem runG_gdA (m : Nat → Bool) (ar nr : Nat) : runG m ar (bit nr) = gdA m ar nr := by
  by_cases hmem : ar ∈ toks
  · have h6 : ar = 3221225534 ∨ ar = 1073741827 ∨ ar = 1073741864 ∨ ar = 3221225655 ∨ ar = 3221225715 := by
      simp [toks] at hmem; omega
    have e1 : runG m ar (bit nr) = runB (m 0) (m 1) (m 2) (m 3) (m 4) (m 5) ar (bit nr) := by
      unfold runB runG; rw [← chain_fB, ← lastA_fB]
    rw [e1]
    unfold gdA ofA
    rcases h6 with rfl | rfl | rfl | rfl | rfl
    · have hf : findFrom (tokB 3221225534) 0 = 0 := by decide
      rw [hf]
      cases hb : bit nr
      all_goals
        simp only [show ¬ ((0 : Int) < 0) by decide, if_false, true_and, if_true, Bool.false_eq_true, and_false]
        simp only [Bool.true_and, Int.toNat_zero, show Int.toNat 2 = 2 from rfl]
        generalize m 0 = b0, m 1 = b1, m 2 = b2, m 3 = b3, m 4 = b4, m 5 = b5
        revert b0 b1 b2 b3 b4 b5
        decide +kernel
    all_goals
      generalize bit nr = b
      simp only [show findFrom (tokB 1073741827) 0 = 1 by decide, show findFrom (tokB 1073741864) 0 = 3 by decide, show findFrom (tokB 3221225655) 0 = 4 by decide, show findFrom (tokB 3221225715) 0 = 5 by decide]
      generalize hm0 : m 0 = b0
      generalize hm1 : m 1 = b1
      generalize hm2 : m 2 = b2
      generalize hm3 : m 3 = b3
      generalize hm4 : m 4 = b4
      generalize hm5 : m 5 = b5
      simp [hm1, hm3, hm4, hm5]
      clear e1 hm0 hm1 hm2 hm3 hm4 hm5
      revert b b0 b1 b2 b3 b4 b5
      decide +kernel
  · have hc : (chain m 6).contains ar = false := by
      rw [Bool.eq_false_iff]
      intro h
      exact hmem (toks_fB m ar (by simpa using h))
    have hf : findFrom (tokB ar) 0 = -1 := by
      have hn : ∀ k, k < 6 → tokB ar k = false := fun k hk => by
        unfold tokB
        rw [beq_eq_false_iff_ne]
        intro e
        refine hmem ?_
        rw [← e, List.getD_eq_getElem?_getD, List.getElem?_eq_getElem (by exact hk)]
        exact List.getElem_mem _
      rw [findFrom_step (by omega), hn 0 (by omega), if_neg (by simp), findFrom_step (by omega), hn 1 (by omega), if_neg (by simp), findFrom_step (by omega), hn 2 (by omega), if_neg (by simp), findFrom_step (by omega), hn 3 (by omega), if_neg (by simp), findFrom_step (by omega), hn 4 (by omega), if_neg (by simp), findFrom_step (by omega), hn 5 (by omega), if_neg (by simp), findFrom_end]
    have ho : gdA m ar nr = 2147483648 := by
      unfold gdA ofA
      rw [hf]
      rfl
    rw [ho]
    unfold runG
    rw [hc, if_neg (by simp)]
    have hl : ∀ x, x = 0 ∨ x = 2 → (ar == tokN x) = false := fun x hx => by
      rw [beq_eq_false_iff_ne]
      intro e
      refine hmem ?_
      rw [e]
      rcases hx with rfl | rfl <;> decide
    rcases lastA_cases m with h | h | h
    · rw [h]; rfl
    · rw [h, if_neg (by decide), show (ar == tokN (Int.toNat 0)) = false from hl 0 (.inl rfl), if_neg (by simp)]
    · rw [h, if_neg (by decide), show (ar == tokN (Int.toNat 2)) = false from hl 2 (.inr rfl), if_neg (by simp)]
theorem wd4 (d : Dat) : wd d 4 = d.ar := rfl
theorem wd0 (d : Dat) : wd d 0 = d.nr := rfl
theorem run1_at {d : Dat} {L : List Sy} (hm : mayA L = true) {i a st : Nat} {s : Sy} (h : L[i]? = some s) (h6 : s.c ≠ 6) : run1 d L (L.length - i) i a st = run1 d L (L.length - nx s i a) (nx s i a) (na d s a) (st + 1) := by
  obtain ⟨hi, e⟩ := List.getElem?_eq_some_iff.1 h
  have := run1_step (d := d) hm (a := a) (st := st) hi (by rw [e]; exact h6)
  rw [e] at this
  exact this
theorem run1_ret {d : Dat} {L : List Sy} {i a st : Nat} {s : Sy} (h : L[i]? = some s) (h6 : s.c = 6) : run1 d L (L.length - i) i a st = (s.k, st + 1) := by
  obtain ⟨hi, e⟩ := List.getElem?_eq_some_iff.1 h
  have := run1_end (d := d) (l := L) (a := a) (st := st) hi (by rw [e]; exact h6)
  rw [e] at this
  exact this
theorem guardC_len (ks : List Nat) (la : Int) : (guardC ks la).length = ks.length + (if la < 0 then 0 else 3) + 3 := by
  unfold guardC mid ends
  split <;> simp [mkC_len] <;> omega
theorem guardC_chain (ks : List Nat) (la : Int) (i : Nat) (h : i < ks.length) : (guardC ks la)[1 + i]? = some ⟨21, ks[i], ((ks.length + (if la < 0 then 0 else 3) + 2 : Nat) : Int), ((2 + i : Nat) : Int)⟩ := by
  unfold guardC
  rw [show 1 + i = i + 1 by omega, List.getElem?_cons_succ, List.getElem?_append_left (by rw [mkC_len]; exact h), mkC_get, List.getElem?_eq_getElem h]
  simp only [Option.map_some]
  rw [show 0 + i + 2 = 2 + i by omega]
theorem guardC_tail (ks : List Nat) (la : Int) (i : Nat) : (guardC ks la)[ks.length + 1 + i]? = (mid la (ks.length + 1) ++ ends)[i]? := by
  unfold guardC
  rw [show ks.length + 1 + i = (ks.length + i) + 1 by omega, List.getElem?_cons_succ, List.getElem?_append_right (by rw [mkC_len]; omega), mkC_len, show ks.length + i - ks.length = i by omega]
theorem hld69 (x y : Int) (a : Nat) : hld ⟨69, 1073741824, x, y⟩ a = bit a := nr_bit a
theorem guard_run (m : Nat → Bool) (d : Dat) : (runA d (guardL m)).1 = gdA m d.ar d.nr := by
  rw [← runG_gdA]
  obtain ⟨hm, -⟩ := guardL_may m
  unfold runA
  rw [if_pos hm]
  unfold guardL at hm ⊢
  unfold runG
  have hla := lastA_cases m
  generalize chain m 6 = ks at *
  generalize lastA m 6 = la at *
  have hlen := guardC_len ks la
  have hch := guardC_chain ks la
  have htl := guardC_tail ks la
  have h0 : (guardC ks la)[0]? = some ⟨32, 4, 0, 0⟩ := rfl
  have s0 := run1_at (d := d) hm (a := 0) (st := 0) h0 (by show (32 : Nat) ≠ 6; decide)
  rw [show nx ⟨32, 4, 0, 0⟩ 0 0 = 1 from rfl, show na d ⟨32, 4, 0, 0⟩ 0 = d.ar from rfl, Nat.sub_zero] at s0
  rw [s0]
  generalize guardC ks la = L at *
  have hA : L[ks.length + (if la < 0 then 0 else 3) + 2]? = some ⟨6, 2147418112, 0, 0⟩ := by
    rcases hla with rfl | rfl | rfl
    · exact htl 1
    · exact htl 4
    · exact htl 4
  obtain ⟨st', hr⟩ := chain_run (d := d) hm hch hA d.ar ks.length 0 1 (by omega) (by omega)
  rw [Nat.add_zero, List.drop_zero] at hr
  rw [show (0 : Nat) + 1 = 1 from rfl, hr]
  cases hcont : ks.contains d.ar
  case true => simp
  rw [if_neg (by simp), if_neg (by simp)]
  have t0 := htl 0
  have t1 := htl 1
  have t2 := htl 2
  have t3 := htl 3
  have t4 := htl 4
  have hnx : ∀ (x : Sy) i a, x.c = 21 ∨ x.c = 69 → nx x i a = if hld x a = true then x.th.toNat else x.el.toNat := fun x i a hx => nx_jmp (by omega) (by omega)
  have hna : ∀ (x : Sy) a, x.c = 21 ∨ x.c = 69 → na d x a = a := fun x a hx => na_jmp (by omega) (by omega)
  rw [show 1 + ks.length = ks.length + 1 by omega]
  rw [show ks.length + 1 + 0 = ks.length + 1 by omega] at t0
  rcases hla with rfl | rfl | rfl
  · rw [if_pos (by decide), run1_ret (s := ⟨6, 2147483648, 0, 0⟩) t0 rfl]
  all_goals
    rw [if_neg (by decide)]
    rw [run1_at hm t0 (by show (21 : Nat) ≠ 6; decide), hnx _ _ _ (.inl rfl), hna _ _ (.inl rfl)]
    simp only [hld, if_true]
    cases hq : d.ar == tokN _
    · simp only [Bool.false_eq_true, if_false, Int.toNat_natCast]
      rw [run1_ret (s := ⟨6, 2147483648, 0, 0⟩) t3 rfl]
    · simp only [if_true, Int.toNat_natCast]
      rw [run1_at hm t1 (by show (32 : Nat) ≠ 6; decide)]
      rw [show ∀ a, nx ⟨32, 0, 0, 0⟩ (ks.length + 1 + 1) a = ks.length + 1 + 2 from fun _ => rfl, show ∀ a, na d ⟨32, 0, 0, 0⟩ a = d.nr from fun _ => rfl]
      first
        | (rw [run1_at (s := ⟨69, 1073741824, ((ks.length + 1 + 3 : Nat) : Int), ((ks.length + 1 + 4 : Nat) : Int)⟩) hm t2 (by show (69 : Nat) ≠ 6; decide), hnx _ _ _ (.inr rfl), hna _ _ (.inr rfl), hld69]
           cases bit d.nr
           · simp only [Bool.false_eq_true, if_false, Int.toNat_natCast]
             rw [run1_ret (s := ⟨6, 2147418112, 0, 0⟩) t4 rfl]
             rfl
           · simp only [if_true, Int.toNat_natCast]
             rw [run1_ret (s := ⟨6, 2147483648, 0, 0⟩) t3 rfl]
             rfl)
        | (rw [run1_at (s := ⟨69, 1073741824, ((ks.length + 1 + 4 : Nat) : Int), ((ks.length + 1 + 3 : Nat) : Int)⟩) hm t2 (by show (69 : Nat) ≠ 6; decide), hnx _ _ _ (.inr rfl), hna _ _ (.inr rfl), hld69]
           cases bit d.nr
           · simp only [Bool.false_eq_true, if_false, Int.toNat_natCast]
             rw [run1_ret (s := ⟨6, 2147483648, 0, 0⟩) t3 rfl]
           · simp only [if_true, Int.toNat_natCast]
             rw [run1_ret (s := ⟨6, 2147418112, 0, 0⟩) t4 rfl])
end L25G
end Go.Proofs.Ytkmhfjnjfghnjaa

