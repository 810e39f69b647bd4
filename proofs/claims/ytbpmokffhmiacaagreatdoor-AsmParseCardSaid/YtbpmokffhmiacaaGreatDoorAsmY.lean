/- Layer 7, plain: an instruction's line read; what is written is read. -/
import Derived.Lib.SplitLaws
import Derived.Lib.AtoiAllCases
import Derived.Lib.ParseIntBCases
import Derived.Test.YtbpmokffhmiacaaGreatDoorAsmB
namespace Go.Proofs.YtbpmokffhmiacaaGreatDoor
open Go.RowKit V
namespace L07
def valF (acc : Nat) (l : List UInt8) : Nat := l.foldl (fun a c => a * 10 + (c.toNat - 48)) acc
def isD (c : UInt8) : Bool := decide (48 ≤ c.toNat ∧ c.toNat ≤ 57)
theorem valF_ge : ∀ (l : List UInt8) (acc : Nat), acc ≤ valF acc l
  | [], _ => Nat.le_refl _
  | c :: r, acc => Nat.le_trans (by omega) (valF_ge r (acc * 10 + (c.toNat - 48)))
theorem parse_val {M : Nat} : ∀ (l : List UInt8) (acc : Nat), l.all isD = true → valF acc l ≤ M → valF acc l ≤ 1000000000000000000 → Lib.parseUintM M acc l = .ok (valF acc l)
  | [], _, _, _, _ => rfl
  | c :: r, acc, ha, hv, hv2 => by
    rw [List.all_cons, Bool.and_eq_true] at ha
    have hc := of_decide_eq_true ha.1
    have h1 := valF_ge r (acc * 10 + (c.toNat - 48))
    have hv' : valF (acc * 10 + (c.toNat - 48)) r ≤ M := hv
    have hv3 : valF (acc * 10 + (c.toNat - 48)) r ≤ 1000000000000000000 := hv2
    unfold Lib.parseUintM
    rw [if_pos hc, if_neg (by omega), if_neg (by omega)]
    exact parse_val r _ ha.2 hv' hv3
theorem dig_one (n : Nat) (h : n < 10) : (UInt8.ofNat (48 + n)).toNat = 48 + n := by rw [UInt8.toNat_ofNat']; omega
theorem dec_val : ∀ n : Nat, (dec n).all isD = true ∧ valF 0 (dec n) = n := by
  intro n
  induction n using Nat.strongRecOn with
  | _ n ih =>
    by_cases h : n < 10
    · unfold dec
      rw [Lib.decDigits, dif_pos h]
      refine ⟨?_, ?_⟩
      · simp only [List.all_cons, List.all_nil, Bool.and_true]
        unfold isD
        rw [dig_one n h]
        exact decide_eq_true (by omega)
      · show 0 * 10 + ((UInt8.ofNat (48 + n)).toNat - 48) = n
        rw [dig_one n h]; omega
    · obtain ⟨h1, h2⟩ := ih (n / 10) (by omega)
      have h9 : n % 10 < 10 := Nat.mod_lt _ (by omega)
      unfold dec at *
      rw [Lib.decDigits, dif_neg h]
      refine ⟨?_, ?_⟩
      · rw [List.all_append, h1, Bool.true_and]
        simp only [List.all_cons, List.all_nil, Bool.and_true]
        unfold isD
        rw [dig_one _ h9]
        exact decide_eq_true (by omega)
      · unfold valF at *
        rw [List.foldl_append, h2]
        show n / 10 * 10 + ((UInt8.ofNat (48 + n % 10)).toNat - 48) = n
        rw [dig_one _ h9]; omega
/-- a word as a number of 32 bits -/
def numW (w : List UInt8) : Option Nat := match Lib.parseUintB 32 w with
  | .ok u => some u
  | _ => none
theorem numW_dec (k : Nat) (h : k < 4294967296) : numW (dec k) = some k := by
  obtain ⟨h1, h2⟩ := dec_val k
  have e : Lib.parseUintB 32 (dec k) = .ok k := by
    unfold Lib.parseUintB
    rw [if_neg (dec_ne k)]
    have := parse_val (M := 2 ^ 32 - 1) (dec k) 0 h1 (by rw [h2]; omega) (by rw [h2]; omega)
    rw [h2] at this
    exact this
  unfold numW; rw [e]
/-- a word as an int -/
def intW (w : List UInt8) : Option Int := match Lib.atoiAll w with
  | .ok u => some u
  | _ => none
theorem intW_dec (k : Nat) (h : k < 1000000000000000000) : intW (dec k) = some (k : Int) := by
  obtain ⟨h1, h2⟩ := dec_val k
  have e : Lib.parseUintB 64 (dec k) = .ok k := by
    unfold Lib.parseUintB
    rw [if_neg (dec_ne k)]
    have := parse_val (M := 2 ^ 64 - 1) (dec k) 0 h1 (by rw [h2]; omega) (by rw [h2]; omega)
    rw [h2] at this
    exact this
  rw [Lib.parseUintB_64] at e
  have e2 : Lib.atoiAll (dec k) = .ok (k : Int) := by
    cases hd : dec k with
    | nil => exact absurd hd (dec_ne k)
    | cons c r =>
      rw [hd] at e h1
      rw [List.all_cons, Bool.and_eq_true] at h1
      have hc := of_decide_eq_true h1.1
      rw [Lib.atoiAll_plain c r (by omega) (by omega), e]
      show (if 9223372036854775808 ≤ k then _ else _) = _
      rw [if_neg (by omega)]
  unfold intW; rw [e2]
/-- a line's words -/
def wordsS (l : List UInt8) : List (List UInt8) := Lib.split l [32]
theorem index_sp (w r : List UInt8) (h : (32 : UInt8) ∉ w) : Lib.index (w ++ 32 :: r) [32] = (w.length : Int) := by
  refine Lib.index_first (by simp) ?_ (fun j hj => ?_)
  · unfold Lib.occAt; rw [List.drop_left]; rfl
  · rw [← Bool.not_eq_true]
    intro ho
    have := Lib.occAt_head rfl ho
    rw [List.getElem?_append_left hj, List.getElem?_eq_getElem hj] at this
    exact h (Option.some.inj this ▸ List.getElem_mem hj)
theorem words_one (w : List UInt8) (h : (32 : UInt8) ∉ w) : wordsS w = [w] := by
  unfold wordsS Lib.split
  rw [Lib.count_one, List.count_eq_zero.2 h]
  rfl
theorem words_more (w r : List UInt8) (h : (32 : UInt8) ∉ w) : wordsS (w ++ 32 :: r) = w :: wordsS r := by
  unfold wordsS Lib.split
  rw [Lib.count_one, Lib.count_one, List.count_append, List.count_eq_zero.2 h, List.count_cons_self, Nat.zero_add]
  generalize List.count (32 : UInt8) r = k
  show (if (Lib.index (w ++ 32 :: r) [32] == -1) = true then _ else (w ++ 32 :: r).take ((Lib.index (w ++ 32 :: r) [32]).toNat + 0) :: Lib.splitK [32] 0 k ((w ++ 32 :: r).drop ((Lib.index (w ++ 32 :: r) [32]).toNat + [(32 : UInt8)].length))) = _
  rw [index_sp w r h, if_neg (by simp)]
  have e : ((w.length : Int)).toNat = w.length := by omega
  rw [e, Nat.add_zero, List.take_left]
  have e2 : (w ++ 32 :: r).drop (w.length + [(32 : UInt8)].length) = r := by
    rw [← List.drop_drop, List.drop_left]; rfl
  rw [e2]
theorem words_flat (ws : List (List UInt8)) : ∀ w : List UInt8, (32 : UInt8) ∉ w → (∀ x ∈ ws, (32 : UInt8) ∉ x) → wordsS (w ++ ws.flatMap (fun x => 32 :: x)) = w :: ws := by
  induction ws with
  | nil => intro w h _; rw [List.flatMap_nil, List.append_nil]; exact words_one w h
  | cons x r ih =>
    intro w h hx
    rw [List.flatMap_cons, List.cons_append, words_more w _ h, ih x (hx x (by simp)) (fun y hy => hx y (by simp [hy]))]
theorem dec_no32 (n : Nat) : (32 : UInt8) ∉ dec n := fun h => by
  have := List.all_eq_true.1 (dec_val n).1 _ h
  exact absurd this (by decide)
theorem nm_no32 : ∀ e ∈ tabI, (32 : UInt8) ∉ e.nm := by decide +kernel
theorem nm_find : ∀ e ∈ tabI, tabI.find? (fun x => x.nm == e.nm) = some e := by decide +kernel
/-- how a line is read -/
def placeA (at' : Nat) : List (List UInt8) → Option (Nat × List (List UInt8))
  | [] => none
  | [] :: _ => none
  | (c :: w) :: r => if c = 76 then (match intW w with
    | some x => if (at' : Int) < x ∧ x < 4096 then some ((x - at' - 1).toNat, r) else none
    | none => none) else none
def numberA : List (List UInt8) → Option (Nat × List (List UInt8))
  | [] => none
  | w :: r => (numW w).map fun u => (u, r)
def kA (c : Nat) (r : List (List UInt8)) : Option (Nat × List (List UInt8)) := if kU c = true then numberA r else some (0, r)
def endA (i : In) (r : List (List UInt8)) : Option In := if r = [] then some i else none
def restA (at' c k : Nat) (r : List (List UInt8)) : Option In :=
  if twoU c = true then (placeA at' r).bind fun a => (placeA at' a.2).bind fun b => if a.1 ≤ 255 ∧ b.1 ≤ 255 then endA ⟨c, a.1, b.1, k⟩ b.2 else none
  else if oneU c = true then (placeA at' r).bind fun a => endA ⟨c, 0, 0, a.1⟩ a.2
  else endA ⟨c, 0, 0, k⟩ r
def readA (l : List UInt8) (at' : Nat) : Option In := match wordsS l with
  | [] => none
  | w :: r => match tabI.find? (fun e => e.nm == w) with
    | none => none
    | some e => (kA e.c r).bind fun k => restA at' e.c k.1 k.2
theorem place_lab (p n : Nat) (r : List (List UInt8)) (h1 : p < n) (h2 : n < 4096) : placeA p (lab n :: r) = some (n - p - 1, r) := by
  show (if (76 : UInt8) = 76 then (match intW (dec n) with
    | some x => if (p : Int) < x ∧ x < 4096 then some ((x - p - 1).toNat, r) else none
    | none => none) else none) = _
  rw [if_pos rfl, intW_dec n (by omega)]
  show (if (p : Int) < (n : Int) ∧ (n : Int) < 4096 then some (((n : Int) - p - 1).toNat, r) else none) = _
  rw [if_pos ⟨by omega, by omega⟩]
  have e : ((n : Int) - p - 1).toNat = n - p - 1 := by omega
  rw [e]
/-- what is written of an instruction is read as it -/
theorem read_line (i : In) (p : Nat) (hN : OkN i) (hp : plainI i = true) (hl : ∀ n ∈ leadsL i p, n < 4096) : readA (lineL i p) p = some i := by
  have hk := plain_known hp
  rcases entry_of i.c with ⟨e, he, hec, hen, -⟩ | ⟨-, -, h3⟩
  rotate_left
  · rw [hk] at h3; cases h3
  have hline : lineL i p = e.nm ++ (((if kU i.c = true then [dec i.k] else []) ++ (leadsL i p).map lab).flatMap (fun x => 32 :: x)) := by
    unfold lineL kpart lparts
    rw [hen, List.flatMap_append]
    congr 2
    · split <;> simp
    · rw [List.flatMap_map]
  have hw : wordsS (lineL i p) = e.nm :: ((if kU i.c = true then [dec i.k] else []) ++ (leadsL i p).map lab) := by
    rw [hline]
    refine words_flat _ _ (nm_no32 e he) (fun x hx => ?_)
    rcases List.mem_append.1 hx with h | h
    · split at h
      · cases List.mem_singleton.1 h; exact dec_no32 _
      · cases h
    · obtain ⟨n, -, rfl⟩ := List.mem_map.1 h
      intro h
      rcases List.mem_cons.1 h with h | h
      · cases h
      · exact dec_no32 n h
  unfold readA
  rw [hw]
  dsimp only
  rw [nm_find e he]
  dsimp only
  rw [hec]
  unfold plainI at hp
  obtain ⟨c, jt, jf, k⟩ := i
  obtain ⟨-, hjt, hjf, hkk⟩ := hN
  dsimp only at *
  have hL : leadsL ⟨c, jt, jf, k⟩ p = if oneU c = true then [p + 1 + k] else if twoU c = true then [p + 1 + jt, p + 1 + jf] else [] := rfl
  obtain ⟨u1, u2, u3⟩ := uses_eq c
  rw [hk, Bool.true_and] at hp
  simp only [Bool.and_eq_true, Bool.or_eq_true, beq_iff_eq] at hp
  obtain ⟨hp1, hp2⟩ := hp
  unfold kA restA
  cases h2 : twoU c
  · have hj : jt = 0 ∧ jf = 0 := by rcases hp2 with h | h; · rw [h2] at h; cases h
                                    · exact h
    obtain ⟨rfl, rfl⟩ := hj
    cases h1 : oneU c
    · have hLe : leadsL ⟨c, 0, 0, k⟩ p = [] := by rw [hL, h1, h2]; rfl
      rw [hLe]
      cases hu : kU c
      · rcases hp1 with h | h | h
        · rw [hu] at h; cases h
        · rw [h1] at h; cases h
        · subst h; rfl
      · rw [if_pos rfl, if_pos rfl]
        show ((numW (dec k)).map fun u => (u, ([] : List (List UInt8)))).bind _ = _
        rw [numW_dec k hkk]; rfl
    · have hu : kU c = false := by
        rw [u1]; rw [u2, beq_iff_eq] at h1; rw [h1]; rfl
      have hLe : leadsL ⟨c, 0, 0, k⟩ p = [p + 1 + k] := by rw [hL, h1]; rfl
      rw [hLe, hu, if_neg (by simp), if_neg (by simp)]
      show (placeA p [lab (p + 1 + k)]).bind (fun a => endA ⟨c, 0, 0, a.1⟩ a.2) = _
      rw [place_lab p _ _ (by omega) (hl _ (by rw [hLe]; simp))]
      have e : p + 1 + k - p - 1 = k := by omega
      rw [e]; rfl
  · have h1 : oneU c = false := by
      rw [u2]; rw [u3, decide_eq_true_eq] at h2; rw [beq_eq_false_iff_ne]; omega
    have hlab : ∀ r : List (List UInt8), placeA p (lab (p + 1 + jt) :: r) = some (jt, r) ∧ placeA p (lab (p + 1 + jf) :: r) = some (jf, r) := fun r => by
      have hm : ∀ n ∈ [p + 1 + jt, p + 1 + jf], n < 4096 := fun n hn => hl n (by rw [hL, h1, h2, if_neg (by simp), if_pos rfl]; exact hn)
      rw [place_lab p _ _ (by omega) (hm _ (by simp)), place_lab p _ _ (by omega) (hm _ (by simp))]
      have e1 : p + 1 + jt - p - 1 = jt := by omega
      have e2 : p + 1 + jf - p - 1 = jf := by omega
      rw [e1, e2]; exact ⟨rfl, rfl⟩
    have hLe : leadsL ⟨c, jt, jf, k⟩ p = [p + 1 + jt, p + 1 + jf] := by rw [hL, h1, h2]; rfl
    rw [hLe]
    have hfin : ∀ k', (if true = true then (placeA p [lab (p + 1 + jt), lab (p + 1 + jf)]).bind fun a => (placeA p a.2).bind fun b => if a.1 ≤ 255 ∧ b.1 ≤ 255 then endA ⟨c, a.1, b.1, k'⟩ b.2 else none
        else if false = true then (placeA p [lab (p + 1 + jt), lab (p + 1 + jf)]).bind fun a => endA ⟨c, 0, 0, a.1⟩ a.2 else endA ⟨c, 0, 0, k'⟩ [lab (p + 1 + jt), lab (p + 1 + jf)]) = some ⟨c, jt, jf, k'⟩ := fun k' => by
      rw [if_pos rfl, (hlab _).1]
      show (placeA p [lab (p + 1 + jf)]).bind _ = _
      rw [(hlab []).2]
      show (if jt ≤ 255 ∧ jf ≤ 255 then endA ⟨c, jt, jf, k'⟩ [] else none) = _
      rw [if_pos ⟨by omega, by omega⟩]; rfl
    cases hu : kU c
    · rcases hp1 with h | h | h
      · rw [hu] at h; cases h
      · rw [h1] at h; cases h
      · subst h
        exact hfin 0
    · rw [if_pos rfl, if_pos rfl]
      show ((numW (dec k)).map fun u => (u, [lab (p + 1 + jt), lab (p + 1 + jf)])).bind _ = _
      rw [numW_dec k hkk]
      exact hfin k
end L07
end Go.Proofs.YtbpmokffhmiacaaGreatDoor
