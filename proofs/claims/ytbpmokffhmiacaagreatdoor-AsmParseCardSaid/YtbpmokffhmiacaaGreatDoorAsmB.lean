/- Layer 7, plain: bytes; lines and texts of programs; which can be written. -/
import Derived.Lib.ItoaNum
import Derived.Test.YtbpmokffhmiacaaGreatDoorAsmA
namespace Go.Proofs.YtbpmokffhmiacaaGreatDoor
open Go.RowKit V
namespace L07
def bytes (s : ByteArray) : List UInt8 := s.data.toList
def str (l : List UInt8) : ByteArray := ⟨l.toArray⟩
theorem bytes_len (s : ByteArray) : (bytes s).length = s.size := rfl
theorem str_size (l : List UInt8) : (str l).size = l.length := rfl
theorem bytes_inj {s t : ByteArray} (h : bytes s = bytes t) : s = t := by
  cases s; cases t; simp only [bytes] at h; congr; exact Array.toList_inj.1 h
theorem bytes_str (l : List UInt8) : bytes (str l) = l := by simp [bytes, str]
theorem str_bytes (s : ByteArray) : str (bytes s) = s := bytes_inj (bytes_str _)
theorem str_app (a b : List UInt8) : str a ++ str b = str (a ++ b) := bytes_inj (by simp [bytes, str])
abbrev dec (n : Nat) : List UInt8 := Lib.decDigits n
theorem dec_len (k : Nat) : ∀ n, n < 10 ^ (k + 1) → (dec n).length ≤ k + 1 := by
  induction k with
  | zero => intro n h; unfold dec; rw [Lib.decDigits, dif_pos (by omega)]; simp
  | succ k ih =>
    intro n h
    unfold dec
    rw [Lib.decDigits]
    split
    · simp
    · have := ih (n / 10) (by rw [Nat.pow_succ] at h; omega)
      rw [List.length_append, List.length_singleton]; unfold dec at this; omega
theorem dec_20 (n : Nat) (h : n < 1000000000000000000) : (dec n).length ≤ 18 := dec_len 17 n (by omega)
theorem dec_ne (n : Nat) : dec n ≠ [] := by
  unfold dec
  rw [Lib.decDigits]
  split <;> simp
/-- a label's word, ahead of it a blank -/
def lab (n : Nat) : List UInt8 := 76 :: dec n
def kpart (i : In) : List UInt8 := if kU i.c = true then 32 :: dec i.k else []
def lparts (l : List Nat) : List UInt8 := l.flatMap (fun n => 32 :: lab n)
/-- an instruction's line -/
def lineL (i : In) (at' : Nat) : List UInt8 := (entry i.c).nm ++ (kpart i ++ lparts (leadsL i at'))
def lineA (i : In) (at' : Int) : List UInt8 := if plainI i = true ∧ 0 ≤ at' then lineL i at'.toNat else []
theorem leads_len (i : In) (p : Nat) : (leadsL i p).length ≤ 2 := by unfold leadsL; (repeat' split) <;> simp
theorem entry_nm_len (c : Nat) : (entry c).nm.length ≤ 6 := by
  rcases entry_of c with ⟨e, he, -, h, -⟩ | ⟨-, h, -⟩
  · rw [h]; exact (names_full e he).2.1
  · rw [h]; decide
theorem plain_known {i : In} (h : plainI i = true) : known i.c = true := by
  unfold plainI at h
  simp only [Bool.and_eq_true] at h
  exact h.1.1
theorem known_ne {c : Nat} (h : known c = true) : (entry c).nm ≠ [] := by
  rw [known_name] at h
  exact of_decide_eq_true h
/-- do an instruction's jumps lead to places that are there? -/
def okAt (p : List In) (j : Nat) : Bool := match p[j]? with
  | some i => (leadsL i j).all (fun n => decide (n < p.length))
  | none => true
def canL (p : List In) : Bool := decide (p.length ≤ 4096) && (p.all plainI && (List.range p.length).all (okAt p))
def ledAt (p : List In) (n j : Nat) : Bool := match p[j]? with
  | some i => (leadsL i j).contains n
  | none => false
def ledB (p : List In) (n : Nat) : Bool := (List.range p.length).any (ledAt p n)
/-- only what stands ahead leads to a place -/
theorem led_up (p : List In) (n : Nat) (hn : n ≤ p.length) : ledB p n = (List.range n).any (ledAt p n) := by
  rw [Bool.eq_iff_iff, ledB, List.any_eq_true, List.any_eq_true]
  constructor
  · rintro ⟨j, hj, h⟩
    refine ⟨j, ?_, h⟩
    unfold ledAt at h
    cases hp : p[j]? with
    | none => rw [hp] at h; cases h
    | some i =>
      rw [hp] at h
      have := leads_up (List.contains_iff_mem.1 h)
      exact List.mem_range.2 this
  · rintro ⟨j, hj, h⟩
    exact ⟨j, List.mem_range.2 (by have := List.mem_range.1 hj; omega), h⟩
def headL (p : List In) (j : Nat) : List UInt8 := if ledB p j = true then 76 :: (dec j ++ [58, 10]) else []
def pieceL (p : List In) (j : Nat) : List UInt8 := match p[j]? with
  | some i => headL p j ++ (lineL i j ++ [10])
  | none => []
def textK (p : List In) (k : Nat) : List UInt8 := (List.range k).flatMap (pieceL p)
def textL (p : List In) : List UInt8 := textK p p.length
theorem textK_succ (p : List In) (k : Nat) : textK p (k + 1) = textK p k ++ pieceL p k := by
  unfold textK
  rw [List.range_succ, List.flatMap_append]
  simp
/-- an instruction's numbers are in their kinds' bounds -/
structure OkN (i : In) : Prop where
  c : i.c < 65536
  jt : i.jt < 256
  jf : i.jf < 256
  k : i.k < 4294967296
theorem leads_bd {i : In} (h : OkN i) {p n : Nat} (hn : n ∈ leadsL i p) : n ≤ p + 4294967296 := by
  obtain ⟨-, h2, h3, h4⟩ := h
  unfold leadsL at hn
  split at hn
  · simp at hn; omega
  · split at hn
    · simp at hn; omega
    · cases hn
theorem lparts_len {l : List Nat} (h : ∀ n ∈ l, n < 1000000000000000000) : (lparts l).length ≤ 20 * l.length := by
  induction l with
  | nil => exact Nat.zero_le _
  | cons x r ih =>
    have h1 := dec_20 x (h x (by simp))
    have h2 := ih (fun n hn => h n (by simp [hn]))
    unfold lparts at h2 ⊢
    rw [List.flatMap_cons, List.length_append, List.length_cons, lab, List.length_cons]
    rw [List.length_cons]; omega
theorem line_len {i : In} (h : OkN i) {p : Nat} (hp : p ≤ 100000000000000000) : (lineL i p).length ≤ 70 := by
  have h1 := entry_nm_len i.c
  have h2 : (kpart i).length ≤ 19 := by
    unfold kpart
    split
    · have := dec_20 i.k (by have := h.k; omega)
      rw [List.length_cons]; omega
    · simp
  have h3 := lparts_len (l := leadsL i p) (fun n hn => by have := leads_bd h hn; omega)
  have h4 := leads_len i p
  unfold lineL
  rw [List.length_append, List.length_append]; omega
theorem head_len (p : List In) {j : Nat} (hj : j ≤ 100000000000000000) : (headL p j).length ≤ 21 := by
  unfold headL
  split
  · have := dec_20 j (by omega)
    rw [List.length_cons, List.length_append]; simp; omega
  · simp
theorem piece_len {p : List In} (h : ∀ i ∈ p, OkN i) {j : Nat} (hj : j ≤ 100000000000000000) : (pieceL p j).length ≤ 92 := by
  unfold pieceL
  cases hp : p[j]? with
  | none => simp
  | some i =>
    have h1 := head_len p hj
    have h2 := line_len (h i (List.mem_of_getElem? hp)) hj
    simp only [List.length_append, List.length_singleton]; omega
theorem textK_len {p : List In} (h : ∀ i ∈ p, OkN i) (k : Nat) (hk : k ≤ 100000) : (textK p k).length ≤ 92 * k := by
  induction k with
  | zero => exact Nat.le_refl _
  | succ k ih =>
    have h1 := ih (by omega)
    have h2 := piece_len h (j := k) (by omega)
    rw [textK_succ, List.length_append]; omega
end L07
end Go.Proofs.YtbpmokffhmiacaaGreatDoor
