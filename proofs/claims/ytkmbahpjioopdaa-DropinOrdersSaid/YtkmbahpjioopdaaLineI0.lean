/- Layer 12: a string's bytes; lines compared. -/
import Derived.Test.YtkmbahpjioopdaaLineE
import Derived.Laws.StructEq
namespace Go.Proofs.Ytkmbahpjioopdaa
open Go.RowKit V
namespace L12
theorem conv_str (w : World) (s : ByteArray) : (convert 9 22 (.string s)).run Try.prog w = .ok (.slice (some ⟨w.heap.size, 0, none⟩) s.size (grownCap w s.size 0 5))
      (w.drew.alloc (.cells (bytesRow s (grownCap w s.size 0 5)) 5 ((bytesRow s (grownCap w s.size 0 5)).size, (bytesRow s (grownCap w s.size 0 5)).size + 1))) :=
  run_bytes_of_string w _ _ _ s Try.underlying9 Try.underlying22 Try.underlying5
theorem rd_bytes (w : World) (s : ByteArray) (cap : Nat) (hc : s.size ≤ cap) (fr : Nat × Nat) : Rd (w.alloc (.cells (bytesRow s cap) 5 fr)) 1 encB (.slice (some ⟨w.heap.size, 0, none⟩) s.size cap) (bytes s) := by
  refine ⟨_, cap, by rw [bytes_len], by rw [bytes_len]; exact hc, (fun e => by cases e), fun i hi => ⟨w.heap.size, 0, rfl, fun j hj => ?_⟩⟩
  have hj0 : j = 0 := by simp [encB] at hj; exact hj
  subst hj0
  have hi' : i < s.data.size := by rw [bytes_len] at hi; exact hi
  rw [show 0 + i * 1 + 0 = i by omega, World.cell?_alloc_mark, bytesRow_at s cap i hi']
  simp [encB, bytes]
def sameN (s t : LN) : Bool := (s.1 == t.1) && (s.2 == t.2)
theorem sameN_iff (s t : LN) : sameN s t = true ↔ s = t := by
  obtain ⟨a, b⟩ := s
  obtain ⟨c, d⟩ := t
  simp [sameN]
theorem hgN : Try.prog.eqGuardType Try.prog.depth 90 = false := by kernel_rfl
theorem run_equalN (s t : LN) (w : World) : (Op.equalIn 10000 90 (.agg #[.int .i64 (s.1 : Int), .string (str s.2)])
    (.agg #[.int .i64 (t.1 : Int), .string (str t.2)])).run Try.prog w = .ok (sameN s t) w := by
  simp [go_sem]
  by_cases h1 : s.1 = t.1 <;> by_cases h2 : s.2 = t.2 <;> simp [sameN, h1, h2, Int.ofNat_inj]
theorem run_neqN (s t : LN) (w : World) : (binOp .neq 90 (.agg #[.int .i64 (s.1 : Int), .string (str s.2)])
    (.agg #[.int .i64 (t.1 : Int), .string (str t.2)])).run Try.prog w = .ok (.bool (!sameN s t)) w := by
  rw [run_neq_struct, run_equalN]; rfl
theorem rdN_cell {w : World} {v : Value} {xs : List LN} (h : Rd w 2 encN v xs) : ∃ a c, v = .slice a xs.length c ∧ xs.length ≤ c ∧ ∀ i, (hi : i < xs.length) → ∃ b o, a = some ⟨b, o, none⟩ ∧ w.cell? ⟨b, o + i * 2, none⟩ = some (.int .i64 ((xs[i]).1 : Int)) ∧ w.cell? ⟨b, o + i * 2 + 1, none⟩ = some (.string (str (xs[i]).2)) := by
  obtain ⟨a, c, h1, h2, h3, h4⟩ := h
  refine ⟨a, c, h1, h2, fun i hi => ?_⟩
  obtain ⟨b, o, e, k⟩ := h4 i hi
  have k0 := k 0 (by simp [encN])
  have k1 := k 1 (by simp [encN])
  exact ⟨b, o, e, by simpa [encN] using k0, by simpa [encN] using k1⟩
def isA (l : List UInt8) (ys : List LN) : Bool := decide ((splitA l).2 = 0 ∧ (splitA l).1 = ys)
theorem splitA_err (l : List UInt8) : (splitA l).2 = 0 ∨ (splitA l).2 = 3 ∨ (splitA l).2 = 4 := by
  unfold splitA; split
  · exact .inr (.inl rfl)
  split
  · exact .inr (.inr rfl)
  · exact .inl rfl
theorem stS_len : ∀ (pre : List LN) (st : St), (pre.foldl stepS st).1.length ≤ st.1.length + pre.length
  | [], _ => Nat.le_refl _
  | x :: r, st => by
    rw [List.foldl_cons]
    have h := stS_len r (stepS st x)
    have h2 : (stepS st x).1.length ≤ st.1.length + 1 := by
      unfold stepS
      split
      · omega
      split
      · dsimp only; omega
      · exact endL_len _ _ _
    rw [List.length_cons]; omega
theorem splitA_len (l : List UInt8) : (splitA l).1.length ≤ 1001 := by
  unfold splitA; split
  · simp
  split
  · simp
  · dsimp only
    unfold splitL
    have := stS_len (numF 1 (linesL l)) ([], 0, [])
    rw [numF_len] at this
    have h2 := endL_len (stS (numF 1 (linesL l))).2.1 (stS (numF 1 (linesL l))).2.2 (stS (numF 1 (linesL l))).1
    unfold stS at *
    simp only [List.length_nil] at this
    omega
end L12
end Go.Proofs.Ytkmbahpjioopdaa
