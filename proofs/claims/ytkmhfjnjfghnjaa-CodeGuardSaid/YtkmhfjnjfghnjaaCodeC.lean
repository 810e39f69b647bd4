/- Layer 25: rows as plain data; which may be; the walks of asks and of the closure that asks whether a place is there. -/
import Derived.Test.YtkmhfjnjfghnjaaCodeA
import Derived.Deep.DeepCutAuto
namespace Go.Proofs.Ytkmhfjnjfghnjaa
open Go.RowKit V
namespace L25
structure Sy where
  c : Nat
  k : Nat
  th : Int
  el : Int
structure OkY (s : Sy) : Prop where
  c : s.c < 65536
  k : s.k < 4294967296
  t1 : -9223372036854775808 ≤ s.th
  t2 : s.th ≤ 9223372036854775807
  e1 : -9223372036854775808 ≤ s.el
  e2 : s.el ≤ 9223372036854775807
def encY (s : Sy) : List Value := [.int .u16 (s.c : Int), .int .u32 (s.k : Int), .int .i64 s.th, .int .i64 s.el]
theorem encY_len (s : Sy) : (encY s).length = 4 := rfl
theorem encY_one (s : Sy) : ∀ u ∈ encY s, u.oneCell' = true := by
  intro u hu; simp [encY] at hu; rcases hu with rfl | rfl | rfl | rfl <;> rfl
theorem rdY_cell {w : World} {v : Value} {xs : List Sy} (h : Rd w 4 encY v xs) : ∃ a c, v = .slice a xs.length c ∧ xs.length ≤ c ∧ ∀ i, (hi : i < xs.length) → ∃ b o, a = some ⟨b, o, none⟩ ∧
    w.cell? ⟨b, o + i * 4, none⟩ = some (.int .u16 (xs[i].c : Int)) ∧ w.cell? ⟨b, o + i * 4 + 1, none⟩ = some (.int .u32 (xs[i].k : Int)) ∧ w.cell? ⟨b, o + i * 4 + 2, none⟩ = some (.int .i64 xs[i].th) ∧
    w.cell? ⟨b, o + i * 4 + 3, none⟩ = some (.int .i64 xs[i].el) := by
  obtain ⟨a, c, h1, h2, h3, h4⟩ := h
  refine ⟨a, c, h1, h2, fun i hi => ?_⟩
  obtain ⟨b, o, e, k⟩ := h4 i hi
  exact ⟨b, o, e, k 0 (by simp [encY]), k 1 (by simp [encY]), k 2 (by simp [encY]), k 3 (by simp [encY])⟩
def asksB (c : Nat) : Bool := (c == 21) || ((c == 37) || ((c == 53) || (c == 69)))
def there (len i : Nat) (n : Int) : Bool := decide ((i : Int) < n) && decide (n < (len : Int))
def none_ (s : Sy) : Bool := (s.th == 0) && (s.el == 0)
def may1 (len i : Nat) (s : Sy) : Bool :=
  if s.c = 32 then none_ s && okW s.k
  else if s.c = 84 ∨ s.c = 6 then none_ s
  else if s.c = 5 then (s.k == 0) && ((s.el == 0) && there len i s.th)
  else asksB s.c && (there len i s.th && there len i s.el)
def mayL (len : Nat) : List Sy → Nat → Bool
  | [], _ => true
  | n :: r, i => may1 len i n && mayL len r (i + 1)
def lastc (l : List Sy) : Nat := match l[l.length - 1]? with
  | some s => s.c
  | none => 0
def mayA (l : List Sy) : Bool := decide (0 < l.length) && (decide (l.length ≤ 131072) && ((lastc l == 6) && mayL l.length l 0))
theorem mayL_step {t : List Sy} {k : Nat} (len : Nat) (h : k < t.length) : mayL len (t.drop k) k = (may1 len k t[k] && mayL len (t.drop (k + 1)) (k + 1)) := by
  rw [List.drop_eq_getElem_cons h]; rfl
theorem mayL_end (len : Nat) (t : List Sy) (i : Nat) : mayL len (t.drop t.length) i = true := by rw [List.drop_length]; rfl
theorem mayL_get : ∀ {r : List Sy} {len i j : Nat}, mayL len r i = true → ∀ (h : j < r.length), may1 len (i + j) r[j] = true
  | n :: r, len, i, 0, hm, _ => by simp only [mayL, Bool.and_eq_true] at hm; exact hm.1
  | n :: r, len, i, j + 1, hm, h => by
    simp only [mayL, Bool.and_eq_true] at hm
    have := mayL_get hm.2 (j := j) (by simpa using h)
    simpa [Nat.add_assoc, Nat.add_comm 1 j] using this
theorem mayA_get {l : List Sy} (h : mayA l = true) {j : Nat} (hj : j < l.length) : may1 l.length j l[j] = true := by
  unfold mayA at h
  simp only [Bool.and_eq_true] at h
  have := mayL_get h.2.2.2 hj
  rwa [Nat.zero_add] at this
theorem lastc_get {l : List Sy} (h : 0 < l.length) : lastc l = (l[l.length - 1]'(by omega)).c := by
  unfold lastc; rw [List.getElem?_eq_getElem (by omega)]
theorem mayA_pos {l : List Sy} (h : mayA l = true) : 0 < l.length := by unfold mayA at h; simp at h; exact h.1
theorem mayA_last {l : List Sy} (h : mayA l = true) : (l[l.length - 1]'(by have := mayA_pos h; omega)).c = 6 := by
  have hp := mayA_pos h
  rw [← lastc_get hp]
  unfold mayA at h; simp at h; exact h.2.2.1
set_option maxHeartbeats 400000 in
theorem asks_calls (c : Nat) (w : World) : Calls Try.prog 93 #[.int .u16 (c : Int)] w fun e w' => e = .returned (.bool (asksB c)) ∧ Ext w w' := by
  have e1 : ((c : Int) == 21) = (c == 21) := by rw [Bool.eq_iff_iff]; simp; omega
  have e2 : ((c : Int) == 37) = (c == 37) := by rw [Bool.eq_iff_iff]; simp; omega
  have e3 : ((c : Int) == 53) = (c == 53) := by rw [Bool.eq_iff_iff]; simp; omega
  have e4 : ((c : Int) == 69) = (c == 69) := by rw [Bool.eq_iff_iff]; simp; omega
  unfold asksB
  generalize (c == 21) = b1 at *
  generalize (c == 37) = b2 at *
  generalize (c == 53) = b3 at *
  generalize (c == 69) = b4 at *
  cases b1
  · cases b2
    · cases b3
      · go_enter Try.func93, Try.ntmps93
        go_wp2
        go_ret
        exact ⟨by simp, Ext.refl _⟩
      · go_enter Try.func93, Try.ntmps93
        go_wp2
        go_ret
        exact ⟨rfl, Ext.refl _⟩
    · go_enter Try.func93, Try.ntmps93
      go_wp2
      go_ret
      exact ⟨rfl, Ext.refl _⟩
  · go_enter Try.func93, Try.ntmps93
    go_wp2
    go_ret
    exact ⟨rfl, Ext.refl _⟩
theorem there_calls (n : Int) (len i B C : Nat) (w : World) (hB : w.cell? ⟨B, 0, none⟩ = some (.int .i64 (i : Int))) (hC : w.cell? ⟨C, 0, none⟩ = some (.int .i64 (len : Int))) :
    Calls Try.prog 92 #[.int .i64 n, .pointer (some ⟨B, 0, none⟩), .pointer (some ⟨C, 0, none⟩)] w fun e w' => e = .returned (.bool (there len i n)) ∧ Ext w w' := by
  unfold there
  cases h : decide ((i : Int) < n)
  all_goals
    go_enter Try.func92, Try.ntmps92
    go_wp2
    go_ret
    exact ⟨by simp, Ext.refl _⟩
end L25
end Go.Proofs.Ytkmhfjnjfghnjaa
