/- Layer 20: the walk of the law ActionOrders. -/
import Derived.Test.YtjgglocabjpmeaaDoorActY
namespace Go.Proofs.YtjgglocabjpmeaaDoor
open Go.RowKit Go.Shelf Go.Sort V
attribute [local go_sem] Oper.semAt_some
namespace L20
set_option maxRecDepth 100000 in
set_option maxHeartbeats 4000000 in
theorem ActionOrders_calls (a b c : Nat) (ha : a < 4294967296) (hb : b < 4294967296) (hc : c < 4294967296) (w : World) (ht : Tab w) :
    Calls Tryd.prog 7 #[.int .u32 (a : Int), .int .u32 (b : Int), .int .u32 (c : Int)] w fun e w' => e = .returned (.bool true) ∧ Ext w w' := by
  have hA := fun W (h : Tab W) => awake20_calls W h
  have h0 := fun W => Less_calls a a ha ha W
  have h1 := fun W => Less_calls a b ha hb W
  have h2 := fun W => Less_calls b a hb ha W
  have h3 := fun W => Only_calls a ha W
  have h4 := fun W => Only_calls b hb W
  have h5 := fun W => Less_calls b c hb hc W
  have h6 := fun W => Less_calls a c ha hc W
  have e0 : less a a = false := decide_eq_false (Int.lt_irrefl _)
  rw [e0] at h0
  have key : (less a b = true ∧ less b a = false ∧ (((a / 65536 * 65536 : Nat) : Int) == ((b / 65536 * 65536 : Nat) : Int)) = false) ∨ (less a b = false ∧ less b a = true ∧ (((a / 65536 * 65536 : Nat) : Int) == ((b / 65536 * 65536 : Nat) : Int)) = false) ∨
      (less a b = false ∧ less b a = false ∧ ((a / 65536 * 65536 : Nat) : Int) = ((b / 65536 * 65536 : Nat) : Int)) := by
    have hs := sg_only a b ha hb
    unfold less
    rcases Int.lt_trichotomy (sg a) (sg b) with h | h | h
    · exact .inl ⟨decide_eq_true h, decide_eq_false (by omega), by rw [beq_eq_false_iff_ne]; intro e; have := hs.2 (by omega); omega⟩
    · exact .inr (.inr ⟨decide_eq_false (by omega), decide_eq_false (by omega), by rw [hs.1 h]⟩)
    · exact .inr (.inl ⟨decide_eq_false (by omega), decide_eq_true h, by rw [beq_eq_false_iff_ne]; intro e; have := hs.2 (by omega); omega⟩)
  have tr : less a b = true → less b c = true → less a c = true := fun x y => by
    have h1 : sg a < sg b := of_decide_eq_true x
    have h2 : sg b < sg c := of_decide_eq_true y
    exact decide_eq_true (by omega)
  obtain ⟨p, hp⟩ : ∃ p, p = less a b := ⟨_, rfl⟩
  obtain ⟨q, hq⟩ : ∃ q, q = less b a := ⟨_, rfl⟩
  obtain ⟨r, hr⟩ : ∃ r, r = less b c := ⟨_, rfl⟩
  obtain ⟨s, hs⟩ : ∃ s, s = less a c := ⟨_, rfl⟩
  obtain ⟨x, hx⟩ : ∃ x : Int, x = ((a / 65536 * 65536 : Nat) : Int) := ⟨_, rfl⟩
  obtain ⟨y, hy⟩ : ∃ y : Int, y = ((b / 65536 * 65536 : Nat) : Int) := ⟨_, rfl⟩
  rw [← hp] at h1 tr
  rw [← hq] at h2
  rw [← hr] at h5 tr
  rw [← hs] at h6 tr
  rw [← hx] at h3
  rw [← hy] at h4
  rw [← hp, ← hq, ← hx, ← hy] at key
  clear hp hq hr hs hx hy
  clear ha hb hc e0
  have HT := Lib.hid ht
  clear ht
  have HhA := Lib.hid hA
  clear hA
  have Hh0 := Lib.hid h0
  clear h0
  have Hh1 := Lib.hid h1
  clear h1
  have Hh2 := Lib.hid h2
  clear h2
  have Hh3 := Lib.hid h3
  clear h3
  have Hh4 := Lib.hid h4
  clear h4
  have Hh5 := Lib.hid h5
  clear h5
  have Hh6 := Lib.hid h6
  clear h6
  have Htr := Lib.hid tr
  clear tr
  rcases key with ⟨rfl, rfl, hxy⟩ | ⟨rfl, rfl, hxy⟩ | ⟨rfl, rfl, rfl⟩
  · have hxn : (x != y) = true := by rw [bne, hxy]; rfl
    go_enter Tryd.func7, Tryd.ntmps7
    go_wp2_with fail
    refine (HhA.out _ HT.out).mono ?_
    rintro _ w1 ⟨rfl, hx1⟩
    have HX1 := Lib.hid hx1
    clear hx1
    go_wp2_with fail
    refine (Hh0.out _).mono ?_
    rintro _ _ ⟨rfl, rfl⟩
    go_wp2_with fail
    refine (Hh1.out _).mono ?_
    rintro _ _ ⟨rfl, rfl⟩
    go_wp2_with fail
    refine (Hh2.out _).mono ?_
    rintro _ _ ⟨rfl, rfl⟩
    go_wp2_with fail
    refine (Hh1.out _).mono ?_
    rintro _ _ ⟨rfl, rfl⟩
    go_wp2_with fail
    refine (Hh3.out _).mono ?_
    rintro _ _ ⟨rfl, rfl⟩
    go_wp2_with fail
    refine (Hh4.out _).mono ?_
    rintro _ _ ⟨rfl, rfl⟩
    go_wp2_with fail
    refine (Hh1.out _).mono ?_
    rintro _ _ ⟨rfl, rfl⟩
    go_wp2_with fail
    refine (Hh5.out _).mono ?_
    rintro _ _ ⟨rfl, rfl⟩
    cases r
    · go_wp2_with fail
      go_ret
      exact ⟨rfl, HX1.out⟩
    · obtain rfl := Htr.out (by trivial) (by trivial)
      go_wp2_with fail
      refine (Hh6.out _).mono ?_
      rintro _ _ ⟨rfl, rfl⟩
      go_wp2_with fail
      go_ret
      exact ⟨rfl, HX1.out⟩
  · have hxn : (x != y) = true := by rw [bne, hxy]; rfl
    go_enter Tryd.func7, Tryd.ntmps7
    go_wp2_with fail
    refine (HhA.out _ HT.out).mono ?_
    rintro _ w1 ⟨rfl, hx1⟩
    have HX1 := Lib.hid hx1
    clear hx1
    go_wp2_with fail
    refine (Hh0.out _).mono ?_
    rintro _ _ ⟨rfl, rfl⟩
    go_wp2_with fail
    refine (Hh1.out _).mono ?_
    rintro _ _ ⟨rfl, rfl⟩
    go_wp2_with fail
    refine (Hh1.out _).mono ?_
    rintro _ _ ⟨rfl, rfl⟩
    go_wp2_with fail
    refine (Hh2.out _).mono ?_
    rintro _ _ ⟨rfl, rfl⟩
    go_wp2_with fail
    refine (Hh3.out _).mono ?_
    rintro _ _ ⟨rfl, rfl⟩
    go_wp2_with fail
    refine (Hh4.out _).mono ?_
    rintro _ _ ⟨rfl, rfl⟩
    go_wp2_with fail
    refine (Hh1.out _).mono ?_
    rintro _ _ ⟨rfl, rfl⟩
    go_wp2_with fail
    go_ret
    exact ⟨rfl, HX1.out⟩
  · go_enter Tryd.func7, Tryd.ntmps7
    go_wp2_with fail
    refine (HhA.out _ HT.out).mono ?_
    rintro _ w1 ⟨rfl, hx1⟩
    have HX1 := Lib.hid hx1
    clear hx1
    go_wp2_with fail
    refine (Hh0.out _).mono ?_
    rintro _ _ ⟨rfl, rfl⟩
    go_wp2_with fail
    refine (Hh1.out _).mono ?_
    rintro _ _ ⟨rfl, rfl⟩
    go_wp2_with fail
    refine (Hh1.out _).mono ?_
    rintro _ _ ⟨rfl, rfl⟩
    go_wp2_with fail
    refine (Hh2.out _).mono ?_
    rintro _ _ ⟨rfl, rfl⟩
    go_wp2_with fail
    refine (Hh3.out _).mono ?_
    rintro _ _ ⟨rfl, rfl⟩
    go_wp2_with fail
    refine (Hh4.out _).mono ?_
    rintro _ _ ⟨rfl, rfl⟩
    go_wp2_with fail
    refine (Hh1.out _).mono ?_
    rintro _ _ ⟨rfl, rfl⟩
    go_wp2_with fail
    go_ret
    exact ⟨rfl, HX1.out⟩
end L20
end Go.Proofs.YtjgglocabjpmeaaDoor
