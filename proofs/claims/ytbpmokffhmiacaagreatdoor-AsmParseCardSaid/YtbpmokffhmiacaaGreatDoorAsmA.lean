/- Layer 7, plain: the codes, what fields they use, where they lead, their lines and texts. (The tables are printed by wip/tools/mkasma.py.) -/
import Derived.Test.YtbpmokffhmiacaaGreatDoorApp
namespace Go.Proofs.YtbpmokffhmiacaaGreatDoor
open Go.RowKit V
namespace L07
structure En where
  c : Nat
  nm : List UInt8
  cl : Nat
  deriving DecidableEq
/-- an instruction -/
structure In where
  c : Nat
  jt : Nat
  jf : Nat
  k : Nat
  deriving DecidableEq
def tabI : List En := [⟨32, [108, 100, 97, 98, 115], 1⟩, ⟨128, [108, 100, 108, 101, 110], 1⟩, ⟨0, [108, 100, 105], 1⟩, ⟨96, [108, 100, 109], 1⟩, ⟨129, [108, 100, 120, 108, 101, 110], 1⟩, ⟨1, [108, 100, 120, 105], 1⟩, ⟨97, [108, 100, 120, 109], 1⟩, ⟨2, [115, 116], 2⟩, ⟨3, [115, 116, 120], 2⟩, ⟨4, [97, 100, 100], 3⟩, ⟨20, [115, 117, 98], 3⟩, ⟨36, [109, 117, 108], 3⟩, ⟨52, [100, 105, 118], 3⟩, ⟨68, [111, 114], 3⟩, ⟨84, [97, 110, 100], 3⟩, ⟨100, [108, 115, 104], 3⟩, ⟨116, [114, 115, 104], 3⟩, ⟨164, [120, 111, 114], 3⟩, ⟨12, [97, 100, 100, 120], 3⟩, ⟨28, [115, 117, 98, 120], 3⟩, ⟨44, [109, 117, 108, 120], 3⟩, ⟨60, [100, 105, 118, 120], 3⟩, ⟨76, [111, 114, 120], 3⟩, ⟨92, [97, 110, 100, 120], 3⟩, ⟨108, [108, 115, 104, 120], 3⟩, ⟨124, [114, 115, 104, 120], 3⟩, ⟨172, [120, 111, 114, 120], 3⟩, ⟨132, [110, 101, 103], 3⟩, ⟨5, [106, 97], 4⟩, ⟨21, [106, 101, 113], 4⟩, ⟨37, [106, 103, 116], 4⟩, ⟨53, [106, 103, 101], 4⟩, ⟨69, [106, 115, 101, 116], 4⟩, ⟨29, [106, 101, 113, 120], 4⟩, ⟨45, [106, 103, 116, 120], 4⟩, ⟨61, [106, 103, 101, 120], 4⟩, ⟨77, [106, 115, 101, 116, 120], 4⟩, ⟨6, [114, 101, 116], 5⟩, ⟨22, [114, 101, 116, 97], 5⟩, ⟨7, [116, 97, 120], 6⟩, ⟨135, [116, 120, 97], 6⟩]
def tabR : List En := [⟨32, [108, 100, 97, 98, 115], 1⟩, ⟨128, [108, 100, 108, 101, 110], 1⟩, ⟨0, [108, 100, 105], 1⟩, ⟨96, [108, 100, 109], 1⟩, ⟨129, [108, 100, 120, 108, 101, 110], 1⟩, ⟨1, [108, 100, 120, 105], 1⟩, ⟨97, [108, 100, 120, 109], 1⟩, ⟨2, [115, 116], 2⟩, ⟨3, [115, 116, 120], 2⟩, ⟨132, [110, 101, 103], 3⟩, ⟨5, [106, 97], 4⟩, ⟨6, [114, 101, 116], 5⟩, ⟨22, [114, 101, 116, 97], 5⟩, ⟨7, [116, 97, 120], 6⟩, ⟨135, [116, 120, 97], 6⟩, ⟨4, [97, 100, 100], 3⟩, ⟨12, [97, 100, 100, 120], 3⟩, ⟨20, [115, 117, 98], 3⟩, ⟨28, [115, 117, 98, 120], 3⟩, ⟨36, [109, 117, 108], 3⟩, ⟨44, [109, 117, 108, 120], 3⟩, ⟨52, [100, 105, 118], 3⟩, ⟨60, [100, 105, 118, 120], 3⟩, ⟨68, [111, 114], 3⟩, ⟨76, [111, 114, 120], 3⟩, ⟨84, [97, 110, 100], 3⟩, ⟨92, [97, 110, 100, 120], 3⟩, ⟨100, [108, 115, 104], 3⟩, ⟨108, [108, 115, 104, 120], 3⟩, ⟨116, [114, 115, 104], 3⟩, ⟨124, [114, 115, 104, 120], 3⟩, ⟨164, [120, 111, 114], 3⟩, ⟨172, [120, 111, 114, 120], 3⟩, ⟨21, [106, 101, 113], 4⟩, ⟨29, [106, 101, 113, 120], 4⟩, ⟨37, [106, 103, 116], 4⟩, ⟨45, [106, 103, 116, 120], 4⟩, ⟨53, [106, 103, 101], 4⟩, ⟨61, [106, 103, 101, 120], 4⟩, ⟨69, [106, 115, 101, 116], 4⟩, ⟨77, [106, 115, 101, 116, 120], 4⟩]
def none7 : En := ⟨0, [], 0⟩
def entry (c : Nat) : En := (tabI.find? (fun e => e.c == c)).getD none7
def known (c : Nat) : Bool := (tabI.find? (fun e => e.c == c)).isSome
def clsW (c : Nat) : Nat := (entry c).cl
/-- does a code take X? -/
def wx (c : Nat) : Bool := known c && ((clsW c == 3 || clsW c == 4) && (c &&& 8 != 0))
def kU (c : Nat) : Bool :=
  if clsW c = 1 then c != 128 && c != 129 else if clsW c = 2 then true else if clsW c = 3 then c != 132 && !wx c
  else if clsW c = 4 then c != 5 && !wx c else if clsW c = 5 then c == 6 else false
def oneU (c : Nat) : Bool := clsW c == 4 && c == 5
def twoU (c : Nat) : Bool := clsW c == 4 && c != 5
def plainI (i : In) : Bool := known i.c && (kU i.c || (oneU i.c || i.k == 0)) && (twoU i.c || (i.jt == 0 && i.jf == 0))
def leadsL (i : In) (p : Nat) : List Nat := if oneU i.c = true then [p + 1 + i.k] else if twoU i.c = true then [p + 1 + i.jt, p + 1 + i.jf] else []
theorem leads_up {i : In} {p n : Nat} (h : n ∈ leadsL i p) : p < n := by
  unfold leadsL at h
  split at h
  · simp at h; omega
  · split at h
    · simp at h; omega
    · cases h
theorem find_mem {l : List En} {c : Nat} {e : En} (h : l.find? (fun e => e.c == c) = some e) : e ∈ l ∧ e.c = c :=
  ⟨List.mem_of_find?_eq_some h, by have := List.find?_some h; simpa using this⟩
theorem entry_of (c : Nat) : (∃ e ∈ tabI, e.c = c ∧ entry c = e ∧ known c = true) ∨ ((∀ e ∈ tabI, e.c ≠ c) ∧ entry c = none7 ∧ known c = false) := by
  unfold entry known
  cases h : tabI.find? (fun e => e.c == c) with
  | none => exact .inr ⟨fun e he => by have := List.find?_eq_none.1 h e he; simpa using this, rfl, rfl⟩
  | some e => exact .inl ⟨e, (find_mem h).1, (find_mem h).2, rfl, rfl⟩
/-- the reference's entry is the same -/
theorem refT_of : ∀ e ∈ tabI, tabR.find? (fun x => x.c == e.c) = some e := by decide +kernel
theorem refT_back : ∀ e ∈ tabR, e ∈ tabI := by decide +kernel
theorem ref_entry (c : Nat) : (tabR.find? (fun e => e.c == c)).getD none7 = entry c := by
  rcases entry_of c with ⟨e, he, rfl, h, -⟩ | ⟨hn, h, -⟩
  · rw [h, refT_of e he]; rfl
  · rw [h, List.find?_eq_none.2 (fun e he => by have := hn e (refT_back e he); simpa using this)]; rfl
theorem names_full : ∀ e ∈ tabI, e.nm ≠ [] ∧ e.nm.length ≤ 6 ∧ 1 ≤ e.cl ∧ e.cl ≤ 6 ∧ e.c < 65536 := by decide +kernel
theorem known_name (c : Nat) : known c = decide ((entry c).nm ≠ []) := by
  rcases entry_of c with ⟨e, he, rfl, h, k⟩ | ⟨-, h, k⟩
  · rw [h, k, decide_eq_true (names_full e he).1]
  · rw [h, k]; rfl
/-- X by the name's last letter -/
def wxR (c : Nat) : Bool := ((entry c).cl == 3 || (entry c).cl == 4) && ((entry c).nm.getLast? == some 120)
theorem wx_of : ∀ e ∈ tabI, ((e.cl == 3 || e.cl == 4) && (e.nm.getLast? == some 120)) = ((e.cl == 3 || e.cl == 4) && (e.c &&& 8 != 0)) := by decide +kernel
theorem wxR_eq (c : Nat) : wxR c = wx c := by
  unfold wxR wx clsW
  rcases entry_of c with ⟨e, he, rfl, h, k⟩ | ⟨-, h, k⟩
  · rw [h, k, wx_of e he]; rfl
  · rw [h, k]; rfl
/-- which fields a code uses, by the reference -/
def shapeR (c : Nat) : Nat :=
  if (entry c).nm = [108, 100, 108, 101, 110] ∨ (entry c).nm = [108, 100, 120, 108, 101, 110] ∨ (entry c).nm = [110, 101, 103] ∨ (entry c).nm = [114, 101, 116, 97] then 0
  else if (entry c).nm = [106, 97] then 2
  else if (entry c).cl = 1 ∨ (entry c).cl = 2 ∨ (entry c).cl = 5 then 1
  else if (entry c).cl = 3 then (if wxR c = true then 0 else 1)
  else if (entry c).cl = 4 then (if wxR c = true then 4 else 3) else 0
def shape (c : Nat) : Nat := if oneU c = true then 2 else if twoU c = true then (if kU c = true then 3 else 4) else if kU c = true then 1 else 0
theorem shape_all : ∀ e ∈ tabI, shapeR e.c = shape e.c := by decide +kernel
theorem shape_eq (c : Nat) : shapeR c = shape c := by
  rcases entry_of c with ⟨e, he, rfl, h, k⟩ | ⟨-, h, k⟩
  · exact shape_all e he
  · unfold shapeR shape oneU twoU kU clsW
    rw [h]; rfl
theorem shape_le (c : Nat) : shape c ≤ 4 := by unfold shape; (repeat' split) <;> omega
theorem uses_all : ∀ e ∈ tabI, kU e.c = (shape e.c == 1 || shape e.c == 3) ∧ oneU e.c = (shape e.c == 2) ∧ twoU e.c = (2 < shape e.c : Bool) := by decide +kernel
theorem uses_eq (c : Nat) : kU c = (shape c == 1 || shape c == 3) ∧ oneU c = (shape c == 2) ∧ twoU c = (2 < shape c : Bool) := by
  rcases entry_of c with ⟨e, he, rfl, h, k⟩ | ⟨-, h, k⟩
  · exact uses_all e he
  · unfold shape oneU twoU kU clsW
    rw [h]; exact ⟨rfl, rfl, rfl⟩
end L07
end Go.Proofs.YtbpmokffhmiacaaGreatDoor
