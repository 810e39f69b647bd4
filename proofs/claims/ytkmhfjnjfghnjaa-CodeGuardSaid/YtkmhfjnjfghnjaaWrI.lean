/- Layer 25: Guard's row by its labels' names, and as it is in the end. -/
import Derived.Test.YtkmhfjnjfghnjaaWrL
import Derived.Test.YtkmhfjnjfghnjaaWrM
namespace Go.Proofs.Ytkmhfjnjfghnjaa
open Go.RowKit V
namespace L25G
open L25 (Sy encY encY_len encY_one)
open L25W
def mkS (T : Tg) : List Nat → Nat → List SS
  | [], _ => []
  | t :: r, i => iJ 21 t T (.pl (i + 2)) :: mkS T r (i + 1)
def hS (T : Tg) (ks : List Nat) : List SS := iL 4 :: mkS T ks 0
theorem mkS_len (T : Tg) : ∀ (ks : List Nat) (i : Nat), (mkS T ks i).length = ks.length
  | [], _ => rfl
  | _ :: r, i => by simp [mkS, mkS_len T r (i + 1)]
theorem mkS_app (T : Tg) (t : Nat) : ∀ (ks : List Nat) (i : Nat), mkS T (ks ++ [t]) i = mkS T ks i ++ [iJ 21 t T (.pl (i + ks.length + 2))]
  | [], _ => rfl
  | x :: r, i => by
    simp only [List.cons_append, mkS, mkS_app T t r (i + 1), List.length_cons]
    rw [show i + 1 + r.length + 2 = i + (r.length + 1) + 2 by omega]
theorem mkS_res (T : Tg) (b p : Nat) : ∀ (ks : List Nat) (i : Nat), (mkS T ks i).map (SS.mp (Tg.res b p)) = mkS (T.res b p) ks i
  | [], _ => rfl
  | x :: r, i => by simp [mkS, mkS_res T b p r (i + 1), SS.mp, Tg.res]
theorem mkS_fin (p : Nat) : ∀ (ks : List Nat) (i : Nat), (mkS (.pl p) ks i).map SS.fin = mkC (p : Int) ks i
  | [], _ => rfl
  | x :: r, i => by
    simp only [mkS, mkC, List.map_cons, mkS_fin p r (i + 1), SS.fin, Tg.n]
    rw [if_neg (by decide)]
theorem hS_len (T : Tg) (ks : List Nat) : (hS T ks).length = ks.length + 1 := by simp [hS, mkS_len]
theorem hS_res (T : Tg) (b p : Nat) (ks : List Nat) : (hS T ks).map (SS.mp (Tg.res b p)) = hS (T.res b p) ks := by
  simp only [hS, List.map_cons, mkS_res]; rfl
theorem hS_fin (p : Nat) (ks : List Nat) : (hS (.pl p) ks).map SS.fin = ⟨32, 4, 0, 0⟩ :: mkC (p : Int) ks 0 := by
  simp only [hS, List.map_cons, mkS_fin]; rfl
theorem hS_app (T : Tg) (ks : List Nat) (t b : Nat) (hb : T.res b (ks.length + 2) = T) : (hS T ks ++ [iJ 21 t T (.lb b)]).map (SS.mp (Tg.res b (hS T ks ++ [iJ 21 t T (.lb b)]).length)) = hS T (ks ++ [t]) := by
  have hl : (hS T ks ++ [iJ 21 t T (.lb b)]).length = ks.length + 2 := by rw [List.length_append, hS_len]; rfl
  rw [hl, List.map_append, hS_res, hb]
  simp only [hS, mkS_app, List.cons_append, List.map_cons, List.map_nil, SS.mp, Option.map_some, hb, Nat.zero_add]
  rw [show Tg.res b (ks.length + 2) (.lb b) = .pl (ks.length + 2) from if_pos rfl]
/-- the whole row, where no architecture shares its token alone -/
theorem row_none (ks : List Nat) (K A : Nat) (h : A ≠ K) (la : Int) (hla : la < 0) :
    ((((hS (.lb A) ks).map (SS.mp (Tg.res K (hS (.lb A) ks).length)) ++ [iR 2147483648]).map (SS.mp (Tg.res A ((hS (.lb A) ks).map (SS.mp (Tg.res K (hS (.lb A) ks).length)) ++ [iR 2147483648]).length)) ++ [iR 2147418112]).map SS.fin) = guardC ks la := by
  have e1 : Tg.res K (hS (.lb A) ks).length (.lb A) = .lb A := if_neg h
  have e2 : ∀ p, Tg.res A p (.lb A) = .pl p := fun p => if_pos rfl
  rw [hS_res, e1]
  simp only [List.map_append, hS_res, e2, hS_fin, List.length_append, hS_len, List.map_cons, List.map_nil, List.length_cons, List.length_nil]
  unfold guardC mid ends
  rw [if_pos hla, if_pos hla, show ks.length + 1 + (0 + 1) = ks.length + 0 + 2 by omega, List.nil_append, List.cons_append, List.cons_append, List.append_assoc]
  rfl
/-- the whole row otherwise -/
abbrev jK (tok on K : Nat) : SS := iJ 21 tok (.lb on) (.lb K)
theorem row_some (ks : List Nat) (K A on tok : Nat) (h : A ≠ K) (h1 : A ≠ on) (h2 : K ≠ on) (la : Int) (hla : ¬ la < 0) (htok : tok = tokN la.toNat) (jj : SS) (hjj : jj = if la = 2 then iJ 69 1073741824 (.lb A) (.lb K) else iJ 69 1073741824 (.lb K) (.lb A))
    (E1 E2 E3 : List SS) (hE1 : E1 = (hS (.lb A) ks ++ [jK tok on K]).map (SS.mp (Tg.res on (hS (.lb A) ks ++ [jK tok on K]).length))) (hE2 : E2 = (E1 ++ [iL 0] ++ [jj]).map (SS.mp (Tg.res K (E1 ++ [iL 0] ++ [jj]).length)))
    (hE3 : E3 = (E2 ++ [iR 2147483648]).map (SS.mp (Tg.res A (E2 ++ [iR 2147483648]).length))) : (E3 ++ [iR 2147418112]).map SS.fin = guardC ks la := by
  have r0 : ∀ p, Tg.res on p (.lb A) = .lb A := fun p => if_neg h1
  have r1 : ∀ p, Tg.res on p (.lb K) = .lb K := fun p => if_neg h2
  have r2 : ∀ p, Tg.res on p (.lb on) = .pl p := fun p => if_pos rfl
  have r3 : ∀ p, Tg.res K p (.lb A) = .lb A := fun p => if_neg h
  have r4 : ∀ p, Tg.res K p (.lb K) = .pl p := fun p => if_pos rfl
  have r5 : ∀ p, Tg.res A p (.lb A) = .pl p := fun p => if_pos rfl
  have r6 : ∀ b p q, Tg.res b p (.pl q) = .pl q := fun _ _ _ => rfl
  have f1 : E1 = hS (.lb A) ks ++ [iJ 21 tok (.pl (ks.length + 2)) (.lb K)] := by
    rw [hE1, List.map_append, hS_res, r0, List.length_append, hS_len]
    simp only [jK, List.map_cons, List.map_nil, SS.mp, Option.map_some, r1, r2, List.length_cons, List.length_nil]
  have f2 : E2 = hS (.lb A) ks ++ [iJ 21 tok (.pl (ks.length + 2)) (.pl (ks.length + 4)), iL 0, if la = 2 then iJ 69 1073741824 (.lb A) (.pl (ks.length + 4)) else iJ 69 1073741824 (.pl (ks.length + 4)) (.lb A)] := by
    rw [hE2, f1, hjj]
    by_cases h2 : la = 2
    · rw [if_pos h2, if_pos h2]
      simp only [List.append_assoc, List.cons_append, List.nil_append, List.map_append, hS_res, r3, List.length_append, hS_len, List.length_cons, List.length_nil, List.map_cons, List.map_nil, SS.mp, Option.map_some, Option.map_none, r4, r6]
    · rw [if_neg h2, if_neg h2]
      simp only [List.append_assoc, List.cons_append, List.nil_append, List.map_append, hS_res, r3, List.length_append, hS_len, List.length_cons, List.length_nil, List.map_cons, List.map_nil, SS.mp, Option.map_some, Option.map_none, r4, r6]
  rw [hE3, f2]
  unfold guardC mid ends
  rw [if_neg hla, if_neg hla, htok]
  have hn : ks.length + 1 + (0 + 1 + 1 + 1 + 1) = ks.length + 3 + 2 := by omega
  by_cases h2 : la = 2
  · simp only [if_pos h2, List.append_assoc, List.cons_append, List.nil_append, List.map_append, hS_res, r5, hS_fin, List.length_append, hS_len, List.length_cons, List.length_nil, List.map_cons, List.map_nil, hn]
    simp only [SS.mp, Option.map_some, r5, r6]
    rfl
  · simp only [if_neg h2, List.append_assoc, List.cons_append, List.nil_append, List.map_append, hS_res, r5, hS_fin, List.length_append, hS_len, List.length_cons, List.length_nil, List.map_cons, List.map_nil, hn]
    simp only [SS.mp, Option.map_some, r5, r6]
    rfl
end L25G
end Go.Proofs.Ytkmhfjnjfghnjaa
