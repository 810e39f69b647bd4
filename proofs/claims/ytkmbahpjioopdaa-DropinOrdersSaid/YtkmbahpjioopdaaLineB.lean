/- Layer 12: strings.Cut at one byte; a file's lines; their iterator; Count. -/
import Derived.RangeFuncBox
import Derived.RangeFuncNested
import Derived.RangeFuncBound
import Derived.RangeFuncCalls
import Derived.RangeFuncLeaves
import Derived.Shelf.Abstract
import Derived.Shelf.RegionOpen
import Derived.OwnWalkIn
import Derived.TacticsInMore
import Derived.LoopNIn
import Derived.LoopIn
import Derived.Laws.IdiomStrings
import Derived.Test.YtkmbahpjioopdaaLineA
import Derived.Test.YtkmbahpjioopdaaShelf
namespace Go.Proofs.Ytkmbahpjioopdaa
open Go.RowKit Go.Shelf V
attribute [local go_sem] Oper.semAt_some
namespace L12
/-- what lies ahead of a byte's first place, what lies behind it, and whether it has one -/
def hd1 (c : UInt8) (l : List UInt8) : List UInt8 := l.takeWhile (· != c)
def tl1 (c : UInt8) (l : List UInt8) : List UInt8 := (l.dropWhile (· != c)).drop 1
theorem hd1_len (c : UInt8) (l : List UInt8) : (hd1 c l).length ≤ l.length := by
  unfold hd1; exact (List.takeWhile_prefix _).length_le
theorem hd1_take (c : UInt8) (l : List UInt8) : l.take (hd1 c l).length = hd1 c l := by
  unfold hd1; exact (List.prefix_iff_eq_take.1 (List.takeWhile_prefix _)).symm
theorem tl1_drop (c : UInt8) : ∀ (l : List UInt8), l.drop ((hd1 c l).length + 1) = tl1 c l
  | [] => rfl
  | x :: r => by
    unfold hd1 tl1
    by_cases h : x = c
    · have hx : ¬ (x != c) = true := by simp [h]
      rw [List.takeWhile_cons_of_neg (p := (· != _)) hx, List.dropWhile_cons_of_neg (p := (· != _)) hx]; rfl
    · have hx : (x != c) = true := by simp [h]
      rw [List.takeWhile_cons_of_pos (p := (· != _)) hx, List.dropWhile_cons_of_pos (p := (· != _)) hx]
      exact tl1_drop c r
theorem hd1_all {c : UInt8} : ∀ {l : List UInt8}, l.contains c = false → hd1 c l = l ∧ tl1 c l = []
  | [], _ => ⟨rfl, rfl⟩
  | x :: r, h => by
    rw [List.contains_cons, Bool.or_eq_false_iff] at h
    have hx : (x != c) = true := by have := h.1; simp at this; simp; exact fun e => this e.symm
    obtain ⟨h1, h2⟩ := hd1_all h.2
    unfold hd1 tl1 at *
    rw [List.takeWhile_cons_of_pos (p := (· != _)) hx, List.dropWhile_cons_of_pos (p := (· != _)) hx, h1]
    exact ⟨rfl, h2⟩
theorem idx_hd1 (c : UInt8) : ∀ (l : List UInt8), Lib.indexByte l c = if l.contains c = true then ((hd1 c l).length : Int) else -1
  | [] => rfl
  | x :: r => by
    unfold Lib.indexByte
    rw [List.contains_cons]
    by_cases h : x = c
    · subst h
      have hx : ¬ (x != x) = true := by simp
      rw [if_pos (by simp), if_pos (by simp)]
      unfold hd1
      rw [List.takeWhile_cons_of_neg (p := (· != _)) hx]; rfl
    · have hx : (x != c) = true := by simp [h]
      have hc : (c == x) = false := by rw [beq_eq_false_iff_ne]; exact fun e => h e.symm
      rw [if_neg (by simpa using h), hc, Bool.false_or, idx_hd1 c r]
      unfold hd1
      rw [List.takeWhile_cons_of_pos (p := (· != _)) hx]
      by_cases hr : r.contains c = true
      · rw [if_pos hr, if_pos hr, if_neg (by first | (simp; done) | (simp; omega)), List.length_cons]; simp
      · rw [if_neg hr, if_neg hr, if_pos (by simp)]
theorem hd1_lt {c : UInt8} : ∀ {l : List UInt8}, l.contains c = true → (hd1 c l).length < l.length
  | [], h => by cases h
  | x :: r, h => by
    unfold hd1
    by_cases hx : x = c
    · have hx : ¬ (x != c) = true := by simp [hx]
      rw [List.takeWhile_cons_of_neg (p := (· != _)) hx]; simp
    · rw [List.contains_cons] at h
      have hc : (c == x) = false := by rw [beq_eq_false_iff_ne]; exact fun e => hx e.symm
      rw [hc, Bool.false_or] at h
      have hx : (x != c) = true := by simp [hx]
      rw [List.takeWhile_cons_of_pos (p := (· != _)) hx]
      have := hd1_lt h
      unfold hd1 at this
      simp only [List.length_cons]; omega
def cutT (c : UInt8) (l : List UInt8) : Value := .tuple #[.string (str (hd1 c l)), .string (str (tl1 c l)), .bool (l.contains c)]
set_option maxHeartbeats 1000000 in
theorem slCut_calls (s : ByteArray) (c : UInt8) (hs : s.size ≤ maxLen) (w : World) :
    Calls Try.prog 83 #[.string s, .string ⟨#[c]⟩] w fun e w' => e = .returned (cutT c (bytes s)) ∧ Ext w w' := by
  have hI := fun W => Try.stringslite_Index_one s c W
  rw [idx_hd1] at hI
  unfold maxLen at hs
  have h1 := @hd1_lt c (bytes s)
  have h2 := hd1_take c (bytes s)
  have h3 := tl1_drop c (bytes s)
  have h4 := @hd1_all c (bytes s)
  unfold cutT
  rw [show s.data.toList = bytes s from rfl] at hI
  cases hc : (bytes s).contains c
  · rw [hc, if_neg (by simp)] at hI
    obtain ⟨e1, e2⟩ := h4 hc
    rw [e1, e2, str_bytes]
    clear h1 h2 h3 h4
    have HhI := Lib.hid hI
    clear hI
    have Hhc := Lib.hid hc
    clear hc
    have He1 := Lib.hid e1
    clear e1
    have He2 := Lib.hid e2
    clear e2
    go_enter Try.func83, Try.ntmps83
    go_wp2_with fail
    refine (HhI.out _).mono ?_
    rintro e w1 ⟨rfl, rfl⟩
    go_wp2_with fail
    go_ret3
    exact ⟨rfl, Ext.refl _⟩
  · rw [hc, if_pos rfl] at hI
    have hlt := h1 hc
    rw [bytes_len] at hlt
    clear h1 h4
    have e1 : s.extract 0 (hd1 c (bytes s)).length = str (hd1 c (bytes s)) := bytes_inj (by rw [bytes_ext, List.drop_zero, Nat.sub_zero, h2])
    have e2 : s.extract ((hd1 c (bytes s)).length + 1) s.size = str (tl1 c (bytes s)) := bytes_inj (by
      rw [bytes_ext, h3, List.take_of_length_le (by rw [← h3, List.length_drop, bytes_len]; omega)])
    rw [← e1, ← e2]
    clear h2 h3
    generalize (hd1 c (bytes s)).length = k at *
    have hw : IntKind.i64.wrap ((k : Int) + 1) = (k : Int) + 1 := IntWalk.i64_in _ (by omega)
    have hk0 : (0 : Int) ≤ (k : Int) + 1 := by omega
    have hk1 : ((k : Int) + 1).toNat = k + 1 := by omega
    have HhI := Lib.hid hI
    clear hI
    have Hhc := Lib.hid hc
    clear hc
    have He1 := Lib.hid e1
    clear e1
    have He2 := Lib.hid e2
    clear e2
    go_enter Try.func83, Try.ntmps83
    go_wp2_with fail
    refine (HhI.out _).mono ?_
    rintro e w1 ⟨rfl, rfl⟩
    go_wp2_with (go_quiet (fail))
    go_ret3
    exact ⟨rfl, by repeat (first | exact Ext.refl _ | apply Ext.drewN)⟩
theorem Cut_calls (s : ByteArray) (c : UInt8) (hs : s.size ≤ maxLen) (w : World) :
    Calls Try.prog 71 #[.string s, .string ⟨#[c]⟩] w fun e w' => e = .returned (cutT c (bytes s)) ∧ Ext w w' := by
  have hI := fun W => slCut_calls s c hs W
  unfold cutT at *
  generalize (bytes s).contains c = bb at *
  generalize str (hd1 c (bytes s)) = s1 at *
  generalize str (tl1 c (bytes s)) = s2 at *
  have HhI := Lib.hid hI
  clear hI
  go_enter Try.func71, Try.ntmps71
  go_wp2_with fail
  refine (HhI.out _).mono ?_
  rintro e w1 ⟨rfl, hx⟩
  go_wp2_with fail
  go_ret3
  exact ⟨rfl, hx⟩
theorem tl1_len (c : UInt8) (l : List UInt8) : (tl1 c l).length = l.length - (hd1 c l).length - 1 := by
  rw [← tl1_drop, List.length_drop]; omega
/-- a file's lines -/
def linesF : Nat → List UInt8 → List (List UInt8)
  | 0, _ => []
  | _ + 1, [] => []
  | f + 1, x :: r => hd1 10 (x :: r) :: linesF f (tl1 10 (x :: r))
def linesL (l : List UInt8) : List (List UInt8) := linesF l.length l
theorem linesF_fuel : ∀ (f g : Nat) (l : List UInt8), l.length ≤ f → l.length ≤ g → linesF f l = linesF g l
  | 0, 0, _, _, _ => rfl
  | 0, g + 1, [], _, _ => rfl
  | f + 1, 0, [], _, _ => rfl
  | f + 1, g + 1, [], _, _ => rfl
  | f + 1, g + 1, x :: r, h, h' => by
    unfold linesF
    have := tl1_len 10 (x :: r)
    rw [List.length_cons] at h h' this
    rw [linesF_fuel f g _ (by omega) (by omega)]
theorem linesL_cons {l : List UInt8} (h : l ≠ []) : linesL l = hd1 10 l :: linesL (tl1 10 l) := by
  cases l with
  | nil => exact absurd rfl h
  | cons x r =>
    have := tl1_len 10 (x :: r)
    unfold linesL
    rw [List.length_cons] at this ⊢
    show hd1 10 (x :: r) :: linesF r.length (tl1 10 (x :: r)) = _
    rw [linesF_fuel r.length (tl1 10 (x :: r)).length _ (by omega) (Nat.le_refl _)]
theorem linesL_nil : linesL [] = [] := rfl
abbrev LN := Nat × List UInt8
def numF : Nat → List (List UInt8) → List LN
  | _, [] => []
  | n, x :: r => (n, x) :: numF (n + 1) r
theorem numF_len : ∀ (n : Nat) (l : List (List UInt8)), (numF n l).length = l.length
  | _, [] => rfl
  | n, _ :: r => by simp [numF, numF_len (n + 1) r]
theorem linesL_len : ∀ (n : Nat) (l : List UInt8), l.length ≤ n → (linesL l).length ≤ l.length
  | 0, [], _ => Nat.le_refl _
  | n + 1, [], _ => Nat.le_refl _
  | n + 1, x :: r, h => by
    rw [linesL_cons (by simp)]
    have h1 := tl1_len 10 (x :: r)
    have h2 := linesL_len n (tl1 10 (x :: r)) (by simp only [List.length_cons] at *; omega)
    simp only [List.length_cons] at *
    omega
/-- a line with its number, of some length at most -/
abbrev LNb := { x : LN // x.2.length ≤ 1000000 }
def encLN (x : LN) : Array Value := #[.int .i64 (x.1 : Int), .string (str x.2)]
def encB (x : UInt8) : List Value := [.int .u8 (x.toNat : Int)]
theorem encB_len (x : UInt8) : (encB x).length = 1 := rfl
theorem encB_one (s : UInt8) : ∀ u ∈ encB s, u.oneCell' = true := by intro u hu; simp [encB] at hu; subst hu; rfl
theorem conv_rd {w : World} {v : Value} {l : List UInt8} (h : Rd w 1 encB v l) : (convert 22 9 v).run Try.prog w = .ok (.string (str l)) w := by
  obtain ⟨a, c, rfl, h1, h2, h3⟩ := h
  cases a with
  | none =>
    have hc := h2 rfl
    have hl : l = [] := List.eq_nil_of_length_eq_zero (by omega)
    subst hl
    rw [run_convert_bytes_string w _ _ _ _ _ _ Try.underlying22 Try.underlying5 Try.underlying9]
    rfl
  | some a =>
    by_cases h0 : l = []
    · subst h0
      exact run_convert_bytes_back w _ _ _ a c [] Try.underlying22 Try.underlying5 Try.underlying9 (fun j hj => by cases hj)
    · refine run_convert_bytes_back w _ _ _ a c l Try.underlying22 Try.underlying5 Try.underlying9 (fun j hj => ?_)
      obtain ⟨b, o, e, hat⟩ := h3 j hj
      simp only [Option.some.injEq] at e
      subst e
      have h5 := hat 0 (by simp [encB])
      have e5 : (⟨b, o, none⟩ : Addr).add j = ⟨b, o + j * 1 + 0, none⟩ := by
        unfold Addr.add; split <;> simp_all
      rw [e5]
      simpa [encB] using h5
set_option maxRecDepth 100000 in
set_option maxHeartbeats 1000000 in
theorem lines1_in (l Bs n₀ : Nat) (v : Value) (bs : List UInt8) (hl : bs.length ≤ 1000000) (J Jx : List LNb → World → Prop) (W : World) (hn₀ : n₀ ≤ W.heap.size)
    (hv : Rd W 1 encB v bs) (hJa : ∀ p A B, J p A → Ext A B → J p B)
    (hY : ∀ (pre : List LNb) (x : LNb) W, J pre W → pre.length < (linesL bs).length → YieldAt Fence.wide (3 - 1) Try.prog l (encLN x.1) W fun e W' =>
      (e = .returned (.bool true) ∧ J (pre ++ [x]) W' ∧ Below n₀ W W') ∨ (e = .returned (.bool false) ∧ Jx (pre ++ [x]) W'))
    (hBs : W.cell? ⟨Bs, 0, none⟩ = some v) (h0 : J [] W) :
    CallsIn Fence.wide 3 Try.prog 70 #[.func (.yield l) #[] #[], .pointer (some ⟨Bs, 0, none⟩)] W fun e W' => (∃ v, e = .returned v) ∧
      ((∃ ys : List LNb, ys.map Subtype.val = numF 1 (linesL bs) ∧ J ys W') ∨ (∃ pre : List LNb, pre.map Subtype.val <+: numF 1 (linesL bs) ∧ Jx pre W')) := by
  have hcv := conv_rd hv
  clear hv
  refine callsIn_of_wp Try.func70 rfl trivial ?_ rfl
  simp only [Try.ntmps70, List.size_toArray, List.length_cons, List.length_nil, Nat.reduceAdd, Nat.reduceSub, Array.replicate_succ, Array.replicate_zero, List.push_toArray, List.append_toArray, List.nil_append, List.cons_append]
  gi_wp2
  gi_loopw [3, 4] (fun u i wr => ∃ (pre : List LNb) (t : ByteArray), u = .string t ∧ i = .int .i64 ((pre.length : Int) + 1) ∧ t.size ≤ bs.length ∧ numF 1 (linesL bs) = pre.map Subtype.val ++ numF (pre.length + 1) (linesL (bytes t)) ∧ J pre wr ∧ Below n₀ W wr) (fun u _ _ => strLen u)
  case atStart => exact ⟨[], str bs, rfl, rfl, Nat.le_refl _, rfl, h0, Below.refl _ _⟩
  case round =>
    obtain ⟨pre, t, rfl, rfl, hts, heq, hJs, hnx⟩ := hrel
    have htl : t.toList = bytes t := ByteArray.toList_eq t
    by_cases hp : bytes t = []
    · have he : (!t.toList.isEmpty) = false := by rw [htl, hp]; rfl
      rw [hp, linesL_nil] at heq
      have HE := Lib.hid heq
      clear heq htl hp hcv
      gi_wp2
      go_end0
      exact ⟨⟨_, rfl⟩, .inl ⟨pre, by rw [HE.out]; simp [numF], hJs⟩⟩
    · have he : (!t.toList.isEmpty) = true := by rw [htl]; cases hb : bytes t with
        | nil => exact absurd hb hp
        | cons x r => rfl
      have hcons := linesL_cons hp
      rw [hcons] at heq
      have hlt : pre.length < (linesL bs).length := by
        have := congrArg List.length heq
        rw [numF_len, List.length_append, numF_len, List.length_cons, List.length_map] at this
        omega
      have hsz := tl1_len 10 (bytes t)
      have hpos : 0 < t.size := by
        rcases Nat.eq_zero_or_pos t.size with h | h
        · exact absurd (List.eq_nil_of_length_eq_zero (by rw [bytes_len]; exact h)) hp
        · exact h
      rw [bytes_len] at hsz
      have hxl : ((pre.length + 1, hd1 10 (bytes t)) : LN).2.length ≤ 1000000 := by
        have h1 := hd1_len 10 (bytes t)
        rw [bytes_len] at h1
        show (hd1 10 (bytes t)).length ≤ 1000000
        omega
      obtain ⟨x, hx⟩ : ∃ x : LNb, x.1 = (pre.length + 1, hd1 10 (bytes t)) := ⟨⟨_, hxl⟩, rfl⟩
      have heq2 : numF 1 (linesL bs) = (pre ++ [x]).map Subtype.val ++ numF ((pre ++ [x]).length + 1) (linesL (bytes (str (tl1 10 (bytes t))))) := by
        rw [heq, List.map_append, List.append_assoc, List.length_append]
        simp only [List.map_cons, List.map_nil, hx]
        rfl
      have Hhx := Lib.hid hx
      clear hx
      clear hxl
      have hC := fun W => Cut_calls t 10 (by unfold maxLen at *; omega) W
      unfold cutT at hC
      have hll := linesL_len bs.length bs (Nat.le_refl _)
      have hb1 : pre.length ≤ 1000000 := by omega
      have HE := Lib.hid heq2
      have HS := Lib.hid hsz
      clear heq htl hcons heq2 hsz hcv
      have HhC := Lib.hid hC
      clear hC
      gi_wp2_with (refine ⟨trivial, ?_⟩; gi_at_call 71; refine (callsIn_wide.2 (HhC.out _)).mono ?_; rintro e w1 ⟨rfl, hx1⟩; obtain ⟨fn, tmps, assign, body, hy, hR⟩ := hY pre x w1 (hJa _ _ _ hJs hx1) hlt; have HX1 := Lib.hid hx1; clear hx1; unfold encLN at hy; rw [Hhx.out] at hy; simp only [Int.natCast_add, Int.natCast_one] at hy)
      refine hR.mono ?_
      rintro e W3 (⟨rfl, hJ3, hk3⟩ | ⟨rfl, hJx3⟩)
      · gi_wp2
        go_roundw
        case rel => exact ⟨_, _, rfl, by simp, by rw [str_size, HS.out]; omega, HE.out, hJ3, (hnx.trans (HX1.out.mono (Nat.le_trans hn₀ hnx.size))).trans hk3⟩
        case measure => show (str (tl1 10 (bytes t))).size < t.size; rw [str_size, HS.out]; omega
      · gi_wp2
        refine bodyPost_ret (results_none rfl _ _ _) rfl ?_
        exact ⟨⟨_, rfl⟩, .inr ⟨_, ⟨_, HE.out.symm⟩, hJx3⟩⟩
theorem lines_calls (a : Option Addr) (n c : Nat) (w : World) :
    Calls Try.prog 51 #[.slice a n c] w fun e w' => e = .returned (.func (.func 70) #[] #[.pointer (some ⟨w.heap.size, 0, none⟩)]) ∧ w.alloc (.cells #[.slice a n c] 22) = w' := by
  go_enter Try.func51, Try.ntmps51
  go_wp2
  go_ret
  exact ⟨rfl, rfl⟩
theorem lines_stops (Bs n₀ : Nat) (v : Value) (bs : List UInt8) (hl : bs.length ≤ 1000000) (w : World) (hn₀ : n₀ ≤ w.heap.size)
    (hc : w.cell? ⟨Bs, 0, none⟩ = some v) (hI : Rd w 1 encB v bs) :
    SeqStopsK Fence.wide 3 Try.prog 70 #[.pointer (some ⟨Bs, 0, none⟩)] (fun x : LNb => #[.int .i64 (x.1.1 : Int), .string (str x.1.2)]) (Below n₀) (fun ys => ys.map Subtype.val = numF 1 (linesL bs)) (fun pre => pre.map Subtype.val <+: numF 1 (linesL bs)) (linesL bs).length w := fun l J Jx W hW hJ _ hY h0 => by
  have hE : Ext w W := hW
  exact lines1_in l Bs n₀ v bs hl J Jx W (Nat.le_trans hn₀ hE.size) (hI.ext hE) (fun p A B h hx => hJ p A B none h ⟨hx.os, hx.tape, hx.output, hx.size, fun k hk _ => hx.block hk⟩ (fun r e => by cases e)) hY (hE.cell hc) h0
end L12
end Go.Proofs.Ytkmbahpjioopdaa
