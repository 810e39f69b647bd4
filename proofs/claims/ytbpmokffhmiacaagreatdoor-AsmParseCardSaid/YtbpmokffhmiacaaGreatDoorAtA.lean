/- Layer 7: what strconv and strings do of the words of a line; number, place. -/
import Derived.Test.YtbpmokffhmiacaaGreatDoorAsmT
import Derived.Test.YtbpmokffhmiacaaGreatDoorAsmY
namespace Go.Proofs.YtbpmokffhmiacaaGreatDoor
open Go.RowKit Go.Shelf Go.Sort V
attribute [local go_sem] Oper.semAt_some
namespace L07
/-- the table, the errors and the number that the library reads -/
structure Tb (W : World) : Prop where
  tab : Tab W
  es : ∃ tp p, W.var? Tryz.prog "strconv.ErrSyntax" = some #[.iface tp p]
  er : ∃ tp p, W.var? Tryz.prog "strconv.ErrRange" = some #[.iface tp p]
  mx : ∃ m, W.cell? ⟨0, 0, none⟩ = some (.int .i64 m)
theorem Tb.ext {w w' : World} (h : Tb w) (hx : Ext w w') : Tb w' :=
  ⟨h.tab.ext hx, h.es.imp fun _ h => h.imp fun _ h => Go.Joins.var_stays (g := 1) (by kernel_rfl) h hx (Nat.le_refl _),
    h.er.imp fun _ h => h.imp fun _ h => Go.Joins.var_stays (g := 2) (by kernel_rfl) h hx (Nat.le_refl _), h.mx.imp fun _ h => hx.cell h⟩
theorem grown_bytes (w : World) (s : ByteArray) : Ext w (Lib.bytesWorld w 5 s) := Lib.bytesWorld_below w _ s
theorem ParseUint_calls (s : ByteArray) (hs : s.size ≤ 1000000) (w : World) (ht : Tb w) :
    Calls Tryz.prog 42 #[.string s, .int .i64 10, .int .i64 32] w fun e w' => ∃ x ev, e = .returned (.tuple #[.int .u64 x, ev]) ∧ ((∃ u, numW (bytes s) = some u ∧ x = (u : Int) ∧ u < 4294967296 ∧ ev = .nilIface) ∨ (numW (bytes s) = none ∧ ∃ t p, ev = .iface t p)) ∧ Ext w w' := by
  obtain ⟨-, ⟨tp, p, hv⟩, ⟨tp2, p2, hv2⟩, -⟩ := ht
  unfold numW
  rcases h : Lib.parseUintB 32 (bytes s) with u | _ | _
  · refine (Tryz.strconv_ParseUint_10_at32_ok s (by omega) u h w).mono ?_
    have hu := Lib.parseUintB_le h
    rintro e w' ⟨rfl, rfl | rfl⟩
    · exact ⟨_, _, rfl, .inl ⟨u, rfl, rfl, by omega, rfl⟩, Ext.refl _⟩
    · exact ⟨_, _, rfl, .inl ⟨u, rfl, rfl, by omega, rfl⟩, grown_bytes _ _⟩
  · refine (Any.strconv_ParseUint_10_at32_syntax_var Tryz.laysPu14 s (by omega) h tp p w hv).mono ?_
    rintro e w' ⟨N, rfl, -, -, hb⟩
    exact ⟨_, _, rfl, .inr ⟨rfl, _, _, rfl⟩, hb⟩
  · refine (Any.strconv_ParseUint_10_at32_range_var Tryz.laysPu14 s (by omega) h tp2 p2 w hv2).mono ?_
    rintro e w' ⟨N, rfl, -, -, hb⟩
    exact ⟨_, _, rfl, .inr ⟨rfl, _, _, rfl⟩, hb⟩
theorem Atoi_calls (s : ByteArray) (hs : s.size ≤ 1000000) (w : World) (ht : Tb w) :
    Calls Tryz.prog 44 #[.string s] w fun e w' => ∃ x ev, e = .returned (.tuple #[.int .i64 x, ev]) ∧ ((intW (bytes s) = some x ∧ (-9223372036854775808 ≤ x ∧ x ≤ 9223372036854775807) ∧ ev = .nilIface) ∨ (intW (bytes s) = none ∧ ∃ t p, ev = .iface t p)) ∧ Ext w w' := by
  obtain ⟨-, ⟨tp, p, hv⟩, ⟨tp2, p2, hv2⟩, -⟩ := ht
  unfold intW
  rcases h : Lib.atoiAll (bytes s) with u | _ | _
  · refine (Tryz.strconv_Atoi_ok s (by omega) u h w).mono ?_
    have hu := Lib.atoiAll_bounds h
    rintro e w' ⟨rfl, rfl | ⟨t, rfl⟩⟩
    · exact ⟨_, _, rfl, .inl ⟨rfl, hu, rfl⟩, Ext.refl _⟩
    · exact ⟨_, _, rfl, .inl ⟨rfl, hu, rfl⟩, grown_bytes _ _⟩
  · refine (Any.strconv_Atoi_syntax_var Tryz.laysC172 s (by omega) h tp p w hv).mono ?_
    rintro e w' ⟨N, rfl, -, -, hb⟩
    exact ⟨_, _, rfl, .inr ⟨rfl, _, _, rfl⟩, hb⟩
  · refine (Any.strconv_Atoi_range_var Tryz.laysC172 s (by omega) h tp2 p2 w hv2).mono ?_
    rintro e w' ⟨N, rfl, -, -, hb⟩
    exact ⟨_, _, rfl, .inr ⟨rfl, _, _, rfl⟩, hb⟩
theorem split_words (l : List UInt8) : Lib.splitB ⟨#[32]⟩ 0 (Lib.countB (str l) ⟨#[32]⟩) (str l) = (wordsS l).map str := by
  have h := Lib.splitB_data ⟨#[32]⟩ 0 (Lib.countB (str l) ⟨#[32]⟩) (str l)
  have hs : (wordsS l) = (Lib.splitB ⟨#[32]⟩ 0 (Lib.countB (str l) ⟨#[32]⟩) (str l)).map bytes := h.symm
  rw [hs, List.map_map]
  have : str ∘ bytes = id := by funext s; exact str_bytes s
  rw [this, List.map_id]
theorem words_len (l : List UInt8) : Lib.countB (str l) ⟨#[32]⟩ + 1 = (wordsS l).length := by
  have h := Lib.splitB_all ⟨#[32]⟩ (by decide) 0 _ (str l) rfl
  rw [split_words, List.length_map] at h
  exact h.symm
/-- a slice of words: where it lies -/
def Ws (w : World) (v : Value) (ws : List (List UInt8)) : Prop := Rd w 1 encS v ws
theorem Split_calls (l : List UInt8) (hl : l.length ≤ 1000000) (w : World) (ht : Tb w) :
    Calls Tryz.prog 24 #[.string (str l), .string ⟨#[32]⟩] w fun e w' => ∃ v, e = .returned v ∧ Rd w' 1 encS v (wordsS l) ∧ Ext w w' := by
  obtain ⟨m, hm⟩ := ht.mx
  refine (Tryz.strings_Split (str l) ⟨#[32]⟩ m w (by rw [str_size]; omega) hm (by decide)).mono ?_
  rintro e w' ⟨rfl, rfl⟩
  rw [split_words, words_len]
  refine ⟨_, rfl, ?_, (Ext.refl _).alloc _⟩
  have h := rd_lit encS_len w (wordsS l) 9 w.heap.size rfl
  have e : ((wordsS l).map str).map Value.string = (wordsS l).flatMap encS := by
    rw [List.map_map]
    induction wordsS l with
    | nil => rfl
    | cons x r ih => rw [List.map_cons, List.flatMap_cons, ih]; rfl
  rw [e]
  exact h
theorem rdS_cell {w : World} {v : Value} {xs : List (List UInt8)} (h : Rd w 1 encS v xs) : ∃ a c, v = .slice a xs.length c ∧ xs.length ≤ c ∧ ∀ i, (hi : i < xs.length) → ∃ b o, a = some ⟨b, o, none⟩ ∧ w.cell? ⟨b, o + i, none⟩ = some (.string (str xs[i])) := by
  obtain ⟨a, c, h1, h2, h3, h4⟩ := h
  refine ⟨a, c, h1, h2, fun i hi => ?_⟩
  obtain ⟨b, o, e, k⟩ := h4 i hi
  have := k 0 (by simp [encS])
  simp only [Nat.mul_one, Nat.add_zero] at this
  exact ⟨b, o, e, this⟩
/-- the words behind the first -/
theorem rd_tail {w : World} {b o c : Nat} {x : List UInt8} {r : List (List UInt8)} (h : Rd w 1 encS (.slice (some ⟨b, o, none⟩) (x :: r).length c) (x :: r)) :
    ∃ A, (∀ W, (Instr.sliceAt 54 (.slice (some ⟨b, o, none⟩) (x :: r).length c) (some (.int .i64 1)) none none).run Tryz.prog W = .ok (.slice A r.length (c - 1)) W) ∧ Rd w 1 encS (.slice A r.length (c - 1)) r := by
  have hc : (x :: r).length ≤ c := by obtain ⟨a, c', e, h1, -⟩ := h; simp only [Value.slice.injEq] at e; omega
  obtain ⟨A, h1, h2, h3⟩ := run_slice_from (P := Tryz.prog) (n := 1) Tryz.underlying54 (by kernel_rfl) (by kernel_rfl) (some ⟨b, o, none⟩) (x :: r).length c 1 (by simp)
  refine ⟨A, fun W => ?_, ?_⟩
  · have := h1 1 rfl W
    simpa using this
  · have := h.drop (k := 1) (by simp) (a' := A) (c' := c - 1) (fun hlt => h2 (by omega)) (fun e => by have := h3 e; cases this) (by omega)
    simpa using this
end L07
end Go.Proofs.YtbpmokffhmiacaaGreatDoor
