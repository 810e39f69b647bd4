import Derived.Test.YtkmhfjnjfghnjaaMp3
/- Layer 25: the walk of May. -/
namespace Go.Proofs.Ytkmhfjnjfghnjaa
open Go.RowKit V
namespace L25
theorem mayA_short {l : List Sy} (h : ¬ 0 < l.length) : mayA l = false := by unfold mayA; simp; omega
theorem mayA_long {l : List Sy} (h : 131072 < l.length) : mayA l = false := by unfold mayA; simp; omega
theorem mayA_lastc {l : List Sy} (h : (lastc l == 6) = false) : mayA l = false := by unfold mayA; rw [h]; simp
theorem mayA_mid {l : List Sy} (h1 : 0 < l.length) (h2 : l.length ≤ 131072) (h3 : (lastc l == 6) = true) : mayA l = mayL l.length l 0 := by unfold mayA; rw [h3]; simp [h1, h2]
set_option maxRecDepth 100000 in
set_option maxHeartbeats 400000 in
theorem May_calls (hOne : ∀ (s : Sy) (i len : Nat) (w : World), Calls Try.prog 61 #[.agg #[.int .u16 (s.c : Int), .int .u32 (s.k : Int), .int .i64 s.th, .int .i64 s.el], .int .i64 (i : Int), .int .i64 (len : Int)] w fun e w' => e = .returned (.bool (may1 len i s)) ∧ Ext w w')
    (v : Value) (xs : List Sy) (hl : xs.length ≤ 1000000) (w : World) (hv : Rd w 4 encY v xs) :
    Calls Try.prog 34 #[v] w fun e w' => e = .returned (.bool (mayA xs)) ∧ Ext w w' := by
  obtain ⟨a, c, rfl, hac, hca⟩ := rdY_cell hv
  clear hv
  have HhOne := Lib.hid hOne
  clear hOne
  by_cases p1 : 0 < xs.length
  case neg =>
    have hA := mayA_short p1
    have d1 : decide ((xs.length : Int) < 1) = true := decide_eq_true (by omega)
    have d1' : decide (xs.length < 1) = true := decide_eq_true (by omega)
    rw [hA]
    have HhA := Lib.hid hA
    clear hA
    have Hp1 := Lib.hid p1
    clear p1
    clear hca
    go_enter Try.func34, Try.ntmps34
    go_wp2
    go_ret
    exact ⟨rfl, Ext.refl _⟩
  have d1 : decide ((xs.length : Int) < 1) = false := decide_eq_false (by omega)
  have d1' : decide (xs.length < 1) = false := decide_eq_false (by omega)
  by_cases p2 : 131072 < xs.length
  · have hA := mayA_long p2
    have d2 : decide (131072 < (xs.length : Int)) = true := decide_eq_true (by omega)
    have d2' : decide (131072 < xs.length) = true := decide_eq_true (by omega)
    rw [hA]
    have HhA := Lib.hid hA
    clear hA
    have Hp1 := Lib.hid p1
    clear p1
    have Hp2 := Lib.hid p2
    clear p2
    clear hca
    go_enter Try.func34, Try.ntmps34
    go_wp2
    go_ret
    exact ⟨rfl, Ext.refl _⟩
  have d2 : decide (131072 < (xs.length : Int)) = false := decide_eq_false (by omega)
  have d2' : decide (131072 < xs.length) = false := decide_eq_false (by omega)
  obtain ⟨b, o, rfl, l1, -⟩ := hca (xs.length - 1) (by omega)
  rw [← lastc_get p1] at l1
  have hmid := fun h => mayA_mid p1 (by omega) h
  have hlst := mayA_lastc (l := xs)
  obtain ⟨n, hn⟩ : ∃ n : Nat, xs.length = n + 1 := ⟨xs.length - 1, by omega⟩
  have hs1 : (xs.length : Int) - 1 = (n : Int) := by omega
  have hn1 : xs.length - 1 = n := by omega
  rw [hn1] at l1
  have hnl : n < xs.length := by omega
  cases q : (lastc xs == 6)
  · have hA := hlst q
    have dq : ((lastc xs : Int) != 6) = true := by simp at q; simp; omega
    rw [hA]
    generalize lastc xs = lc at *
    have HhA := Lib.hid hA
    clear hA
    have Hp1 := Lib.hid p1
    clear p1
    have Hp2 := Lib.hid p2
    clear p2
    have Hhmid := Lib.hid hmid
    clear hmid
    have Hhlst := Lib.hid hlst
    clear hlst
    have Hq := Lib.hid q
    clear q
    have Hhn := Lib.hid hn
    clear hn
    have Hhn1 := Lib.hid hn1
    clear hn1
    clear hca
    go_enter Try.func34, Try.ntmps34
    go_wp2
    go_ret
    exact ⟨rfl, Ext.refl _⟩
  have hA := hmid q
  have dq : ((lastc xs : Int) != 6) = false := by simp at q; simp; omega
  rw [hA]
  have hca2 : ∀ i, (hi : i < xs.length) → w.cell? ⟨b, o + i * 4, none⟩ = some (.int .u16 (xs[i].c : Int)) ∧ w.cell? ⟨b, o + i * 4 + 1, none⟩ = some (.int .u32 (xs[i].k : Int)) ∧ w.cell? ⟨b, o + i * 4 + 2, none⟩ = some (.int .i64 xs[i].th) ∧ w.cell? ⟨b, o + i * 4 + 3, none⟩ = some (.int .i64 xs[i].el) := by
    intro i hi
    obtain ⟨b2, o2, e, h⟩ := hca i hi
    simp only [Option.some.injEq, Addr.mk.injEq] at e
    obtain ⟨rfl, rfl, -⟩ := e
    exact h
  generalize lastc xs = lc at *
  have HhA := Lib.hid hA
  clear hA
  have Hp1 := Lib.hid p1
  clear p1
  have Hp2 := Lib.hid p2
  clear p2
  have Hhmid := Lib.hid hmid
  clear hmid
  have Hhlst := Lib.hid hlst
  clear hlst
  have Hq := Lib.hid q
  clear q
  have Hhn := Lib.hid hn
  clear hn
  have Hhn1 := Lib.hid hn1
  clear hn1
  have Hhca2 := Lib.hid hca2
  clear hca2
  clear hca
  go_enter Try.func34, Try.ntmps34
  go_wp2
  go_loopw [25] (fun i wr => ∃ k : Nat, k ≤ xs.length ∧ i = .int .i64 k ∧ Ext w wr ∧ mayL xs.length xs 0 = mayL xs.length (xs.drop k) k) (fun i _ => xs.length - (intOf i).toNat)
  case atStart => exact ⟨0, by omega, rfl, Ext.refl _, rfl⟩
  case round =>
    obtain ⟨k, hk, rfl, hx, heq⟩ := hrel
    have HX := Lib.hid hx
    by_cases hlt : k < xs.length
    · obtain ⟨h1, h2, h3, h4⟩ := Hhca2.out k hlt
      replace h1 := hx.cell h1; replace h2 := hx.cell h2; replace h3 := hx.cell h3; replace h4 := hx.cell h4
      rw [mayL_step _ hlt] at heq
      have hO := fun W => HhOne.out xs[k] k xs.length W
      clear hx
      generalize xs[k] = s at *
      cases hm : may1 xs.length k s
      all_goals
        rw [hm] at hO heq
        have HhO := Lib.hid hO
        clear hO
        have Hheq := Lib.hid heq
        clear heq
        have Hhm := Lib.hid hm
        clear hm
        go_wp2_with fail
        refine (HhO.out _).mono ?_
        rintro e w2 ⟨rfl, hx2⟩
        go_wp2_with fail
      · go_ret
        exact ⟨by rw [Hheq.out]; rfl, (HX.out.alloc _).trans hx2⟩
      · first
          | (go_roundw
             case rel => exact ⟨k + 1, by omega, by go_num, (HX.out.alloc _).trans hx2, by rw [Hheq.out]; rfl⟩
             case measure => simp [intOf]; omega)
          | exact ⟨⟨k + 1, by omega, by go_num, (HX.out.alloc _).trans hx2, by rw [Hheq.out]; rfl⟩, by simp [intOf]; omega⟩
    · obtain rfl : k = xs.length := by omega
      rw [mayL_end] at heq
      have Hheq := Lib.hid heq
      clear heq
      clear hx
      go_wp2
      go_ret
      exact ⟨by rw [Hheq.out]; rfl, HX.out⟩
end L25
end Go.Proofs.Ytkmhfjnjfghnjaa

