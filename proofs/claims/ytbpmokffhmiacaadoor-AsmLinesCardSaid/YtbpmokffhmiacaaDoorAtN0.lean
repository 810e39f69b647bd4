/- Layer 7: a text, gone through byte by byte (plain). -/
import Derived.Test.YtbpmokffhmiacaaDoorAtI
namespace Go.Proofs.YtbpmokffhmiacaaDoor
open Go.RowKit Go.Shelf Go.Sort V
namespace L07
def labB (l : List UInt8) : Bool := decide (1 < l.length) && (l.getLast? == some 58)
/-- a byte of a text: which instruction is next, what stands in the line so far; none: something is wrong -/
def stepC (P : List In) (s : Nat × List UInt8) (c : UInt8) : Option (Nat × List UInt8) :=
  if c = 10 then (if labB s.2 = true then (if s.2.head? = some 76 then some (s.1, []) else none) else match P[s.1]? with
    | some i => if s.2 = lineL i s.1 then some (s.1 + 1, []) else none
    | none => none)
  else some (s.1, s.2 ++ [c])
def scanC (P : List In) : List UInt8 → Nat × List UInt8 → Option (Nat × List UInt8)
  | [], s => some s
  | c :: r, s => (stepC P s c).bind (scanC P r)
theorem scan_app (P : List In) : ∀ (a b : List UInt8) (s : Nat × List UInt8), scanC P (a ++ b) s = (scanC P a s).bind (scanC P b)
  | [], b, s => rfl
  | c :: r, b, s => by
    show (stepC P s c).bind (scanC P (r ++ b)) = ((stepC P s c).bind (scanC P r)).bind (scanC P b)
    cases stepC P s c with
    | none => rfl
    | some t => exact scan_app P r b t
theorem scan_mid (P : List In) (n : Nat) : ∀ (l x : List UInt8), (∀ c ∈ l, c ≠ 10) → scanC P l (n, x) = some (n, x ++ l)
  | [], x, _ => by rw [List.append_nil]; rfl
  | c :: r, x, h => by
    show (stepC P (n, x) c).bind (scanC P r) = _
    have e : stepC P (n, x) c = some (n, x ++ [c]) := by unfold stepC; rw [if_neg (h c (by simp))]
    rw [e]
    show scanC P r (n, x ++ [c]) = _
    rw [scan_mid P n r (x ++ [c]) (fun d hd => h d (by simp [hd])), List.append_assoc]
    rfl
theorem scan_line {P : List In} {k : Nat} (hk : k < P.length) (hp : plainI P[k] = true) : scanC P (lineL P[k] k ++ [10]) (k, []) = some (k + 1, []) := by
  have hm := line_mid P[k] k hp
  rw [scan_app, scan_mid P k _ _ (fun c hc => (hm c hc).1), List.nil_append]
  show (stepC P (k, lineL P[k] k) 10).bind (scanC P []) = _
  have hl : labB (lineL P[k] k) = false := by
    unfold labB
    rw [Bool.and_eq_false_iff]
    right
    rw [beq_eq_false_iff_ne]
    intro h
    exact (hm 58 (List.mem_of_getLast? h)).2 rfl
  have e : stepC P (k, lineL P[k] k) 10 = some (k + 1, []) := by
    unfold stepC
    rw [if_pos rfl, hl, if_neg (by decide), List.getElem?_eq_getElem hk]
    show (if lineL P[k] k = lineL P[k] k then some (k + 1, []) else none) = _
    rw [if_pos rfl]
  rw [e]; rfl
theorem scan_head (P : List In) (k : Nat) : scanC P (headL P k) (k, []) = some (k, []) := by
  unfold headL
  split
  · have e : 76 :: (dec k ++ [58, 10]) = (76 :: (dec k ++ [58])) ++ [10] := by simp
    have hd : ∀ x ∈ 76 :: (dec k ++ [58]), x ≠ (10 : UInt8) := fun x hx => by
      rcases List.mem_cons.1 hx with rfl | h
      · decide
      rcases List.mem_append.1 h with h | h
      · exact (dec_mid k x h).1
      · rw [List.mem_singleton.1 h]; decide
    rw [e, scan_app, scan_mid P k _ _ hd, List.nil_append]
    show (stepC P (k, 76 :: (dec k ++ [58])) 10).bind (scanC P []) = _
    have hl : labB (76 :: (dec k ++ [58])) = true := by
      unfold labB
      rw [← List.cons_append, List.getLast?_append]
      simp
    have e : stepC P (k, 76 :: (dec k ++ [58])) 10 = some (k, []) := by
      unfold stepC
      rw [if_pos rfl, hl, if_pos rfl]
      rfl
    rw [e]; rfl
  · rfl
theorem scan_text {P : List In} (hp : P.all plainI = true) : ∀ k, k ≤ P.length → scanC P (textK P k) (0, []) = some (k, [])
  | 0, _ => rfl
  | k + 1, hk => by
    have hg : P[k]? = some P[k] := List.getElem?_eq_getElem hk
    have hpc : pieceL P k = headL P k ++ (lineL P[k] k ++ [10]) := by unfold pieceL; rw [hg]
    rw [textK_succ, hpc, scan_app, scan_text hp k (by omega)]
    show scanC P (headL P k ++ (lineL P[k] k ++ [10])) (k, []) = _
    rw [scan_app, scan_head]
    exact scan_line hk (List.all_eq_true.1 hp _ (List.getElem_mem hk))
/-- at a byte of the text: the step goes well -/
theorem scan_at {P : List In} {t : List UInt8} {s e : Nat × List UInt8} (ht : scanC P t (0, []) = some e) {m : Nat} (hm : m < t.length) (h : scanC P (t.take m) (0, []) = some s) :
    ∃ s', stepC P s t[m] = some s' ∧ scanC P (t.take (m + 1)) (0, []) = some s' := by
  have h1 : t = t.take m ++ (t[m] :: t.drop (m + 1)) := by rw [← List.drop_eq_getElem_cons hm, List.take_append_drop]
  have h2 : scanC P t (0, []) = (stepC P s t[m]).bind (scanC P (t.drop (m + 1))) := by
    have e : scanC P t (0, []) = scanC P (t.take m ++ (t[m] :: t.drop (m + 1))) (0, []) := by rw [← h1]
    rw [e, scan_app, h]
    rfl
  rw [ht] at h2
  cases hs : stepC P s t[m] with
  | none => rw [hs] at h2; cases h2
  | some s' =>
    refine ⟨s', rfl, ?_⟩
    rw [List.take_succ_eq_append_getElem hm, scan_app, h]
    show (stepC P s t[m]).bind (scanC P []) = _
    rw [hs]; rfl
theorem stepC_mid {P : List In} {s s' : Nat × List UInt8} {c : UInt8} (hc : c ≠ 10) (h : stepC P s c = some s') : s' = (s.1, s.2 ++ [c]) := by
  unfold stepC at h
  rw [if_neg hc] at h
  exact (Option.some.inj h).symm
theorem stepC_end {P : List In} {s s' : Nat × List UInt8} (h : stepC P s 10 = some s') :
    (labB s.2 = true ∧ s.2.head? = some 76 ∧ s' = (s.1, [])) ∨ (labB s.2 = false ∧ ∃ hk : s.1 < P.length, s.2 = lineL P[s.1] s.1 ∧ s' = (s.1 + 1, [])) := by
  unfold stepC at h
  rw [if_pos rfl] at h
  cases hl : labB s.2
  · rw [hl, if_neg (by decide)] at h
    rcases Nat.lt_or_ge s.1 P.length with hk | hk
    · rw [List.getElem?_eq_getElem hk] at h
      replace h : (if s.2 = lineL P[s.1] s.1 then some (s.1 + 1, []) else none) = some s' := h
      split at h
      · next e => exact .inr ⟨rfl, hk, e, (Option.some.inj h).symm⟩
      · cases h
    · rw [List.getElem?_eq_none hk] at h; cases h
  · rw [hl, if_pos rfl] at h
    split at h
    · next e => exact .inl ⟨rfl, e, (Option.some.inj h).symm⟩
    · cases h
end L07
end Go.Proofs.YtbpmokffhmiacaaDoor
