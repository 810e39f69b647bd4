import Derived.Test.YtkmhfjnjfghnjaaMp0
/- Layer 20, the plain functions and the walks of Only, Data, name, Known, Less and of the reference's: each call returns what the plain function says; no old memory turns. -/
namespace Go.Proofs.Ytkmhfjnjfghnjaa
open Go.RowKit V
namespace L20
/-- the names of the actions, by their number without the data -/
def nm (k : Nat) : List UInt8 :=
  if k = 32768 then [107, 105, 108, 108] else if k = 0 then [107, 105, 108, 108, 116, 104, 114, 101, 97, 100] else if k = 3 then [116, 114, 97, 112]
  else if k = 5 then [101, 114, 114, 110, 111] else if k = 32704 then [110, 111, 116, 105, 102, 121] else if k = 32752 then [116, 114, 97, 99, 101]
  else if k = 32764 then [108, 111, 103] else if k = 32767 then [97, 108, 108, 111, 119] else []
def rk (k : Nat) : Int :=
  if k = 32768 then 0 else if k = 0 then 1 else if k = 3 then 2 else if k = 5 then 3 else if k = 32704 then 4 else if k = 32752 then 5
  else if k = 32764 then 6 else if k = 32767 then 7 else -1
/-- is an action known? -/
def kn (a : Nat) : Bool := decide (0 ≤ rk (a / 65536))
def sg (a : Nat) : Int := if 32768 ≤ a / 65536 then (a / 65536 : Nat) - 65536 else (a / 65536 : Nat)
def less (a b : Nat) : Bool := decide (sg a < sg b)
theorem nm_isEmpty (k : Nat) : (nm k).isEmpty = !decide (0 ≤ rk k) := by
  unfold nm rk; (repeat' split) <;> rfl
theorem andNot16 (a : Nat) (h : a < 4294967296) : bits .andNot .u32 (a : Int) 65535 = ((a / 65536 * 65536 : Nat) : Int) := by
  rw [u32_andNot _ _ (by omega) (by omega) (by decide) (by decide)]
  have e : (4294967295 - Int.toNat 65535) = 4294901760 := by decide
  have h1 := nat_hi32_16 a
  rw [e, Int.toNat_natCast, h1, Nat.mod_eq_of_lt h]
theorem and16 (a : Nat) (h : a < 4294967296) : bits .and .u32 (a : Int) 65535 = ((a % 65536 : Nat) : Int) := by
  rw [u32_and _ _ (by omega) (by omega) (by decide) (by decide)]
  have h1 := nat_mask16 a
  rw [Int.toNat_natCast, show Int.toNat 65535 = 65535 from rfl, h1]
def codes : List Nat := [2147483648, 0, 196608, 327680, 2143289344, 2146435072, 2147221504, 2147418112]
def nms : List (List UInt8) := [[107, 105, 108, 108], [107, 105, 108, 108, 116, 104, 114, 101, 97, 100], [116, 114, 97, 112], [101, 114, 114, 110, 111],
  [110, 111, 116, 105, 102, 121], [116, 114, 97, 99, 101], [108, 111, 103], [97, 108, 108, 111, 119]]
def namesV : Array Value := #[.int .u32 2147483648, .string ⟨#[107, 105, 108, 108]⟩, .int .u32 0, .string ⟨#[107, 105, 108, 108, 116, 104, 114, 101, 97, 100]⟩,
  .int .u32 196608, .string ⟨#[116, 114, 97, 112]⟩, .int .u32 327680, .string ⟨#[101, 114, 114, 110, 111]⟩, .int .u32 2143289344, .string ⟨#[110, 111, 116, 105, 102, 121]⟩,
  .int .u32 2146435072, .string ⟨#[116, 114, 97, 99, 101]⟩, .int .u32 2147221504, .string ⟨#[108, 111, 103]⟩, .int .u32 2147418112, .string ⟨#[97, 108, 108, 111, 119]⟩]
theorem lt8 (i : Nat) (h : i < 8) : i = 0 ∨ i = 1 ∨ i = 2 ∨ i = 3 ∨ i = 4 ∨ i = 5 ∨ i = 6 ∨ i = 7 := by omega
theorem nm_hit (i a : Nat) (h : i < 8) (e : codes.getD i 0 = a / 65536 * 65536) : nm (a / 65536) = nms.getD i [] := by
  rcases lt8 i h with rfl | rfl | rfl | rfl | rfl | rfl | rfl | rfl <;> simp [codes] at e
  · rw [show a / 65536 = 32768 by omega]; rfl
  · rw [show a / 65536 = 0 by omega]; rfl
  · rw [show a / 65536 = 3 by omega]; rfl
  · rw [show a / 65536 = 5 by omega]; rfl
  · rw [show a / 65536 = 32704 by omega]; rfl
  · rw [show a / 65536 = 32752 by omega]; rfl
  · rw [show a / 65536 = 32764 by omega]; rfl
  · rw [show a / 65536 = 32767 by omega]; rfl
theorem nm_miss (a : Nat) (e : ∀ i, i < 8 → codes.getD i 0 ≠ a / 65536 * 65536) : nm (a / 65536) = [] := by
  have e0 := e 0 (by omega); have e1 := e 1 (by omega); have e2 := e 2 (by omega); have e3 := e 3 (by omega)
  have e4 := e 4 (by omega); have e5 := e 5 (by omega); have e6 := e 6 (by omega); have e7 := e 7 (by omega)
  simp [codes] at e0 e1 e2 e3 e4 e5 e6 e7
  unfold nm
  rw [if_neg (by omega), if_neg (by omega), if_neg (by omega), if_neg (by omega), if_neg (by omega), if_neg (by omega), if_neg (by omega), if_neg (by omega)]
end L20
end Go.Proofs.Ytkmhfjnjfghnjaa

