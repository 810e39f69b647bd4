/- Layer 13: strings.IndexRune and ContainsAny at texts that aren't ASCII. -/
import Derived.Laws.Runes
import Derived.Laws.RangeAny
import Derived.Deep.LoopGhost
import Derived.BigQuiet
import Derived.WalkMore
import Derived.Test.YtkmbahpjioopdaaLineE
namespace Go.Proofs.Ytkmbahpjioopdaa
open Go.RowKit Go.Shelf V
attribute [local go_sem] Oper.semAt_some Option.isSome_some run_convert_int_string
namespace L12

theorem valid_eq (r : Int) : Lib.validRune r = Utf8.valid r := by
  unfold Lib.validRune Utf8.valid
  rw [Bool.eq_iff_iff]
  simp only [decide_eq_true_eq, Bool.or_eq_true, Bool.and_eq_true]
  omega
def asciiL (l : List UInt8) : Prop := ∀ b ∈ l, b.toNat < 128
theorem idxByte_high {l : List UInt8} (h : asciiL l) {c : UInt8} (hc : 128 ≤ c.toNat) : Lib.indexByte l c = -1 := by
  rw [idx_hd1, if_neg]
  intro hh
  rw [List.contains_iff_mem] at hh
  have := h c hh
  omega
theorem ascii_ext {s : ByteArray} (h : asciiL (bytes s)) (a b : Nat) : asciiL (bytes (s.extract a b)) := by
  intro x hx
  rw [bytes_ext] at hx
  exact h x (List.mem_of_mem_drop (List.mem_of_mem_take hx))
theorem ascii_get {s : ByteArray} (h : asciiL (bytes s)) (i : Nat) (hi : i < s.size) : (s[i]'hi).toNat < 128 := by
  rw [bytes_get]; exact h _ (List.getElem_mem _)
set_option maxRecDepth 100000 in
set_option maxHeartbeats 2000000 in
theorem idxRune_high (s : ByteArray) (_hs : s.size ≤ 1000000) (ha : asciiL (bytes s)) (r : Int) (h0 : 128 ≤ r) (h1 : r ≤ 2147483647) (w : World) :
    Calls Try.prog 86 #[.string s, .int .i32 r] w fun e w' => e = .returned (.int .i64 (-1)) ∧ Ext w w' := by
  have g0 : (0 : Int) ≤ r := by omega
  have g1 : ¬ r < 128 := by omega
  have hV := fun W => Try.utf8_ValidRune r W
  rw [valid_eq] at hV
  by_cases hE : r = 65533
  · subst hE
    clear hV
    have Hha := Lib.hid ha
    clear ha
    go_enter Try.func86, Try.ntmps86
    go_wp2_with fail
    go_loopg [5, 6] s.size (fun g _ _ wx => ∃ i : Nat, i + g = s.size ∧ wx = w.iter s i)
    case atStart => exact ⟨0, by omega, rfl⟩
    case round =>
      obtain ⟨i, hig, rfl⟩ := hrel
      cases gk with
      | zero =>
        obtain rfl : i = s.size := by omega
        have hnx := run_next_end (P := Try.prog) w s s.size
        go_wp2_with fail
        go_ret
        exact ⟨rfl, (Ext.refl w).alloc _⟩
      | succ g =>
        have hi : i < s.size := by omega
        have hx128 := ascii_get Hha.out i hi
        have hnx := fun ty => run_next_ascii (P := Try.prog) w s i ty hi hx128
        generalize s[i]'hi = x at *
        have hne : ((x.toNat : Int) == 65533) = false := by rw [beq_eq_false_iff_ne]; omega
        go_wp2_with fail
        go_roundg g
        case measure => omega
        case rel => exact ⟨i + 1, by omega, rfl⟩
  · have hEb : (r == 65533) = false := by rw [beq_eq_false_iff_ne]; exact hE
    cases hv : Utf8.valid r
    · rw [hv] at hV
      have HhV := Lib.hid hV
      clear hV
      clear ha
      go_enter Try.func86, Try.ntmps86
      go_wp2_with fail
      refine (HhV.out _).mono ?_
      rintro e w1 ⟨rfl, rfl⟩
      go_wp2_with fail
      go_ret
      exact ⟨rfl, Ext.refl _⟩
    · rw [hv] at hV
      obtain ⟨t1, t2, t3⟩ := encode_facts r hv h0
      generalize het : Utf8.encode r = t at *
      obtain ⟨k, hk⟩ : ∃ k, t.size = k + 1 := ⟨t.size - 1, by omega⟩
      have hks : t.size - 1 = k := by omega
      have hkz : (t.size : Int) - 1 = (k : Int) := by omega
      have hkw : IntKind.i64.wrap ((t.size : Int) - 1) = (k : Int) := by rw [hkz]; exact IntWalk.i64_in _ (by omega)
      have hkt : k < t.size := by omega
      have hy : 128 ≤ (t[k]'hkt).toNat := by have := t3 (by omega); simpa only [hks] using this
      clear t3 hkz
      by_cases hi : k < s.size
      · have hx := ascii_get ha k hi
        have hB := fun W => Try.strings_IndexByte (s.extract (k + 1) s.size) ((t[k]'hkt).toNat : Int) W
        rw [show (((t[k]'hkt).toNat : Int)).toNat.toUInt8 = t[k]'hkt from by simp, idxByte_high (ascii_ext ha _ _) hy] at hB
        have hne : (((s[k]'hi).toNat : Int) == ((t[k]'hkt).toNat : Int)) = false := by rw [beq_eq_false_iff_ne]; omega
        have hw1 : IntKind.i64.wrap ((k : Int) + 1) = (k : Int) + 1 := IntWalk.i64_in _ (by omega)
        have hk0 : (0 : Int) ≤ (k : Int) + 1 := by omega
        have hk1 : ((k : Int) + 1).toNat = k + 1 := by omega
        have hk2 : (k : Int) + 1 ≤ (s.size : Int) := by omega
        have hk3 : (k : Int) < (s.size : Int) := by omega
        have hk4 : (k : Int) < (t.size : Int) := by omega
        have HhB := Lib.hid hB
        clear hB
        have HhV := Lib.hid hV
        clear hV
        have Hha := Lib.hid ha
        clear ha
        have Hhk := Lib.hid hk
        clear hk
        clear hks t1 t2 g1
        go_enter Try.func86, Try.ntmps86
        go_wp2_with fail
        refine (HhV.out _).mono ?_
        rintro e w1 ⟨rfl, rfl⟩
        go_wp2_with fail
        go_step3
        go_wp2_with fail
        go_loopw [9, 10, 11, 12] (fun u9 u10 u11 u12 wr => u9 = .int .i64 (k : Int) ∧ u10 = .int .i64 0 ∧ w1 = wr) (fun _ _ _ _ _ => 0)
        case atStart => exact ⟨rfl, rfl, rfl⟩
        case round =>
          obtain ⟨rfl, rfl, rfl⟩ := hrel
          go_wp2_with fail
          go_step3
          go_wp2_with (go_quiet (fail))
          have HX := Lib.hid ((Ext.refl w1).drewN nq)
          generalize w1.drewN nq = W at HX ⊢
          go_wp2_with (go_quiet ((go_at_call 93; exact Calls.quiet_of_same (HhB.out _))))
          rw [Exit.noGoto_ret]
          go_wp2_with fail
          rw [Exit.noGoto_ret]
          go_wp2_with fail
          go_ret
          exact ⟨rfl, HX.out.drewN _⟩
      · have hk3 : ¬ ((k : Int) < (s.size : Int)) := by omega
        have HhV := Lib.hid hV
        clear hV
        have Hha := Lib.hid ha
        clear ha
        have Hhk := Lib.hid hk
        clear hk
        clear hks t1 t2 g1
        go_enter Try.func86, Try.ntmps86
        go_wp2_with fail
        refine (HhV.out _).mono ?_
        rintro e w1 ⟨rfl, rfl⟩
        go_wp2_with fail
        go_step3
        go_wp2_with fail
        go_loopw [9, 10, 11, 12] (fun u9 u10 u11 u12 wr => u9 = .int .i64 (k : Int) ∧ u10 = .int .i64 0 ∧ w1 = wr) (fun _ _ _ _ _ => 0)
        case atStart => exact ⟨rfl, rfl, rfl⟩
        case round =>
          obtain ⟨rfl, rfl, rfl⟩ := hrel
          go_wp2_with fail
          rw [Exit.noGoto_ret]
          go_wp2_with fail
          go_ret
          exact ⟨rfl, Ext.refl _⟩
end L12
end Go.Proofs.Ytkmbahpjioopdaa
