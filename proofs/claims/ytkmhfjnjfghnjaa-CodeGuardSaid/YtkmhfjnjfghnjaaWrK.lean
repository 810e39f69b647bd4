/- Layer 25: plain: a fold of patches, place by place; the row of a guard. -/
import Derived.Test.YtkmhfjnjfghnjaaWrH
import Derived.Test.YtkmhfjnjfghnjaaWrE
namespace Go.Proofs.Ytkmhfjnjfghnjaa
open Go.RowKit V
namespace L25W
open L25 (Sy)
theorem patch_get (pt pe : Jm → Int) (ls : List Sy) (j : Jm) (i : Nat) : (patch pt pe ls j)[i]? = if j.at_ = i then ls[i]?.map (fun s => (⟨s.c, s.k, pt j, if j.code = 5 then s.el else pe j⟩ : Sy)) else ls[i]? := by
  unfold patch
  by_cases e : j.at_ = i
  · rw [if_pos e, ← e]
    cases h : ls[j.at_]? with
    | none => simp [h]
    | some s => simp only [Option.map_some]; rw [List.getElem?_set_self (List.getElem?_eq_some_iff.1 h).1]
  · rw [if_neg e]
    cases h : ls[j.at_]? with
    | none => rfl
    | some s => simp only []; rw [List.getElem?_set_ne e]
theorem fold_none (pt pe : Jm → Int) (i : Nat) : ∀ (js : List Jm) (ls : List Sy), (∀ j ∈ js, j.at_ ≠ i) → (js.foldl (patch pt pe) ls)[i]? = ls[i]?
  | [], _, _ => rfl
  | a :: t, ls, h => by
    rw [List.foldl_cons, fold_none pt pe i t _ (fun j hj => h j (List.mem_cons_of_mem _ hj)), patch_get, if_neg (h a List.mem_cons_self)]
theorem fold_one (pt pe : Jm → Int) (i : Nat) : ∀ (js : List Jm) (ls : List Sy) (j : Jm), j ∈ js → j.at_ = i → js.Pairwise (fun a b => a.at_ ≠ b.at_) →
    (js.foldl (patch pt pe) ls)[i]? = ls[i]?.map (fun s => (⟨s.c, s.k, pt j, if j.code = 5 then s.el else pe j⟩ : Sy))
  | [], _, _, h, _, _ => by cases h
  | a :: t, ls, j, hj, hi, hp => by
    obtain ⟨h1, h2⟩ := List.pairwise_cons.1 hp
    rw [List.foldl_cons]
    rcases List.mem_cons.1 hj with rfl | hj
    · rw [fold_none pt pe i t _ (fun b hb => by have := h1 b hb; omega), patch_get, if_pos hi]
    · rw [fold_one pt pe i t _ j hj hi h2, patch_get, if_neg (by have := h1 j hj; omega)]
end L25W
namespace L25G
open L25 (Sy mayA)
open L08 (toks)
def mkC (nA : Int) : List Nat → Nat → List Sy
  | [], _ => []
  | t :: r, i => ⟨21, t, nA, ((i + 2 : Nat) : Int)⟩ :: mkC nA r (i + 1)
theorem mkC_len (nA : Int) : ∀ (ks : List Nat) (i : Nat), (mkC nA ks i).length = ks.length
  | [], _ => rfl
  | _ :: r, i => by simp [mkC, mkC_len nA r (i + 1)]
theorem mkC_get (nA : Int) : ∀ (ks : List Nat) (i0 i : Nat), (mkC nA ks i0)[i]? = ks[i]?.map (fun t => (⟨21, t, nA, ((i0 + i + 2 : Nat) : Int)⟩ : Sy))
  | [], _, _ => by simp [mkC]
  | t :: r, i0, 0 => by simp [mkC]
  | t :: r, i0, i + 1 => by
    have := mkC_get nA r (i0 + 1) i
    simp only [mkC, List.getElem?_cons_succ]
    rw [this, show i0 + 1 + i + 2 = i0 + (i + 1) + 2 by omega]
/-- what is asked behind the chain, not yet patched, and patched -/
def mid0 (la : Int) : List Sy := if la < 0 then [] else [⟨21, tokN la.toNat, 0, 0⟩, ⟨32, 0, 0, 0⟩, ⟨69, 1073741824, 0, 0⟩]
def mid (la : Int) (p : Nat) : List Sy := if la < 0 then [] else [⟨21, tokN la.toNat, ((p + 1 : Nat) : Int), ((p + 3 : Nat) : Int)⟩, ⟨32, 0, 0, 0⟩, if la = 2 then ⟨69, 1073741824, ((p + 4 : Nat) : Int), ((p + 3 : Nat) : Int)⟩ else ⟨69, 1073741824, ((p + 3 : Nat) : Int), ((p + 4 : Nat) : Int)⟩]
def ends : List Sy := [⟨6, 2147483648, 0, 0⟩, ⟨6, 2147418112, 0, 0⟩]
def guardC (ks : List Nat) (la : Int) : List Sy := ⟨32, 4, 0, 0⟩ :: (mkC ((ks.length + (if la < 0 then 0 else 3) + 2 : Nat) : Int) ks 0 ++ (mid la (ks.length + 1) ++ ends))
def guardL (m : Nat → Bool) : List Sy := guardC (chain m 6) (lastA m 6)
def fB (b0 b1 b2 b3 b4 b5 : Bool) (a : Nat) : Bool := match a with | 0 => b0 | 1 => b1 | 2 => b2 | 3 => b3 | 4 => b4 | 5 => b5 | _ => false
theorem chain_fB (m : Nat → Bool) : chain m 6 = chain (fB (m 0) (m 1) (m 2) (m 3) (m 4) (m 5)) 6 := by
  unfold chain
  congr 1
theorem lastA_fB (m : Nat → Bool) : lastA m 6 = lastA (fB (m 0) (m 1) (m 2) (m 3) (m 4) (m 5)) 6 := by
  rfl
theorem guardL_fB (m : Nat → Bool) : guardL m = guardL (fB (m 0) (m 1) (m 2) (m 3) (m 4) (m 5)) := by
  unfold guardL; rw [chain_fB, lastA_fB]
set_option maxRecDepth 100000 in
theorem guardL_may (m : Nat → Bool) : mayA (guardL m) = true ∧ (guardL m).length ≤ 30 := by
  rw [guardL_fB]
  generalize m 0 = b0, m 1 = b1, m 2 = b2, m 3 = b3, m 4 = b4, m 5 = b5
  revert b0 b1 b2 b3 b4 b5
  decide +kernel
end L25G
end Go.Proofs.Ytkmhfjnjfghnjaa
