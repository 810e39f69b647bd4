/- Layer 10: the walk of the law NamesFlags. -/
import Derived.Test.YtojlpocpcakcbaaDoorNameH
import Derived.Test.YtojlpocpcakcbaaDoorNameI
namespace Go.Proofs.YtojlpocpcakcbaaDoor
open Go.RowKit Go.Shelf Go.Sort V
attribute [local go_sem] Oper.semAt_some
namespace L10
def orN (L : List Nat) : Nat := L.foldl (fun n x => n ||| x) 0
theorem flL_sub (all : Nat) : ∀ l : List Nm, (flL all l).Sublist (l.map (·.2))
  | [] => List.Sublist.refl _
  | x :: r => by
    have ih := flL_sub all r
    show ((if all &&& x.2 ≠ 0 then [x.2] else []) ++ flL all r).Sublist (x.2 :: r.map (·.2))
    split
    · exact ih.cons_cons _
    · exact ih.cons _
theorem flL_or (all : Nat) : ∀ (l : List Nm) (acc : Nat), (∀ x ∈ l, ∃ k, x.2 = 2 ^ k) → (flL all l).foldl (fun n x => n ||| x) (all &&& acc) = all &&& l.foldl (fun n x => n ||| x.2) acc
  | [], acc, _ => rfl
  | x :: r, acc, h => by
    obtain ⟨k, hk⟩ := h x List.mem_cons_self
    have e : all &&& (acc ||| x.2) = if all &&& x.2 ≠ 0 then (all &&& acc) ||| x.2 else all &&& acc := by
      rw [Nat.and_or_distrib_left]
      split
      · rename_i hne
        have hb : all / 2 ^ k % 2 = 1 := (and_pow2 all k).2 (by rw [← hk]; exact hne)
        have hself : all &&& 2 ^ k = 2 ^ k := Nat.eq_of_testBit_eq (fun j => by
          rw [Nat.testBit_and, Nat.testBit_two_pow]
          by_cases hj : k = j
          · subst hj
            rw [Nat.testBit_eq_decide_div_mod_eq, hb]
            simp
          · simp [hj])
        rw [hk, hself]
      · rename_i hne
        have : all &&& x.2 = 0 := by simpa using hne
        rw [this, Nat.or_zero]
    show ((if all &&& x.2 ≠ 0 then [x.2] else []) ++ flL all r).foldl (fun n x => n ||| x) (all &&& acc) = all &&& r.foldl (fun n x => n ||| x.2) (acc ||| x.2)
    rw [← flL_or all r (acc ||| x.2) (fun y hy => h y (List.mem_cons_of_mem _ hy)), e, List.foldl_append]
    split <;> rfl
theorem flL_orN (all : Nat) : orN (flL all spT) = all &&& orL spT := by
  have h := flL_or all spT 0 sp_pow
  rw [Nat.and_zero] at h
  exact h
theorem sp_good : ∀ m ∈ spT.map (·.2), m ≠ 0 ∧ m &&& (m - 1) = 0 ∧ ofL spT m ≠ [] ∧ m < 18446744073709551616 := by decide +kernel
theorem sp_pair : (spT.map (·.2)).Pairwise (· < ·) := by decide
theorem fl_all8 : (flL (orL spT) spT).length = 8 := by decide
theorem orL_sp : orL spT < 18446744073709551616 := by decide
theorem flL_good (all : Nat) (i : Nat) (h : i < (flL all spT).length) : (flL all spT)[i] ≠ 0 ∧ (flL all spT)[i] &&& ((flL all spT)[i] - 1) = 0 ∧ ofL spT (flL all spT)[i] ≠ [] ∧ (flL all spT)[i] < 18446744073709551616 :=
  sp_good _ ((flL_sub all spT).subset (List.getElem_mem h))
theorem flL_rise (all : Nat) (i : Nat) (h' : i - 1 < (flL all spT).length) (h : i < (flL all spT).length) (h0 : 0 < i) : (flL all spT)[i - 1] < (flL all spT)[i] :=
  List.pairwise_iff_getElem.1 (sp_pair.sublist (flL_sub all spT)) (i - 1) i h' h (by omega)
theorem orN_lt (L : List Nat) (h : ∀ x ∈ L, x < 18446744073709551616) : ∀ acc, acc < 18446744073709551616 → L.foldl (fun n x => n ||| x) acc < 18446744073709551616 := by
  induction L with
  | nil => exact fun acc h => h
  | cons x r ih =>
    intro acc ha
    rw [List.foldl_cons]
    exact ih (fun y hy => h y (List.mem_cons_of_mem _ hy)) _ (Nat.or_lt_two_pow (n := 64) ha (h x List.mem_cons_self))
set_option maxRecDepth 100000 in
set_option maxHeartbeats 4000000 in
theorem NamesFlags_calls (all : Nat) (ha : all < 18446744073709551616) (w : World) (ht : Tab w) : Calls Tryd.prog 5 #[.int .u64 (all : Int)] w fun e w' => e = .returned (.bool true) ∧ Ext w w' := by
  have hF := fun W => Flags_calls all ha W
  have hS := fun W => Spaces_calls W
  have hF8 := fun W => Flags_calls (orL spT) orL_sp W
  have h8 := fl_all8
  have hos := orL_sp
  have hSN := fun m W => SpaceName_calls m W
  have hA := fun W (h : Tab W) => awake10_calls W h
  have hor := flL_orN all
  have hgd := flL_good all
  have hri := flL_rise all
  have hL8 : (flL all spT).length ≤ 8 := by
    have := (flL_sub all spT).length_le
    rw [List.length_map, spT_len] at this; exact this
  have hof := str_emp
  generalize flL (orL spT) spT = Z at *
  generalize orL spT = os at *
  generalize flL all spT = L at *
  have hlt64 : ∀ i, orN (L.take i) < 18446744073709551616 := fun i => orN_lt _ (fun x hx => by
    obtain ⟨j, hj, rfl⟩ := List.getElem_of_mem (List.mem_of_mem_take hx)
    exact (hgd j hj).2.2.2) 0 (by decide)
  have hsn : ∀ i (h : i < L.length), orN (L.take (i + 1)) = orN (L.take i) ||| L[i] := fun i h => by
    unfold orN
    rw [List.take_succ_eq_append_getElem h, List.foldl_append]; rfl
  have Hht := Lib.hid ht
  clear ht
  have HhF := Lib.hid hF
  clear hF
  have HhS := Lib.hid hS
  clear hS
  have HhF8 := Lib.hid hF8
  clear hF8
  have HhSN := Lib.hid hSN
  clear hSN
  have HhA := Lib.hid hA
  clear hA
  have Hhor := Lib.hid hor
  clear hor
  have Hhgd := Lib.hid hgd
  clear hgd
  have Hhri := Lib.hid hri
  clear hri
  have Hhlt64 := Lib.hid hlt64
  clear hlt64
  have Hhsn := Lib.hid hsn
  clear hsn
  have Hhof := Lib.hid hof
  clear hof
  have Hh8 := Lib.hid h8
  clear h8
  go_enter Tryd.func5, Tryd.ntmps5
  go_wp2_with fail
  refine (HhF.out _).mono ?_
  rintro e w1 ⟨v1, rfl, hx1, ho1⟩
  obtain ⟨a1, c1, rfl, -, hc1⟩ := rd64_cell (rd_of_own enc64_len ho1)
  have HX1 := Lib.hid hx1
  have Hhc1 := Lib.hid hc1
  clear hc1
  clear hx1 ho1
  go_wp2_with fail
  go_loopw [4, 5] (fun us ui wr => ∃ i : Nat, i ≤ L.length ∧ ui = .int .i64 (i : Int) ∧ us = .int .u64 (orN (L.take i) : Nat) ∧ Ext w1 wr) (fun _ ui _ => L.length - (intOf ui).toNat)
  case atStart => exact ⟨0, by omega, rfl, rfl, Ext.refl _⟩
  case round =>
    obtain ⟨i, hi, rfl, rfl, hx⟩ := hrel
    have HX := Lib.hid hx
    by_cases hlt : i < L.length
    · obtain ⟨b, o, rfl, d0⟩ := Hhc1.out i hlt
      replace d0 := hx.cell d0
      have hz : (i : Int) < (L.length : Int) := by omega
      have hwi : IntKind.i64.wrap ((i : Int) + 1) = (i : Int) + 1 := IntWalk.i64_in _ (by omega)
      obtain ⟨g1, g2, g3, g4⟩ := Hhgd.out i hlt
      have hsb := Hhof.out (ofL spT L[i])
      rw [decide_eq_false g3] at hsb
      have hsc := HhSN.out L[i]
      have hq := Hhlt64.out i
      have hnx := Hhsn.out i hlt
      have hrise : ∀ h0 : 0 < i, L[i - 1]'(by omega) < L[i] := fun h0 => Hhri.out i (by omega) hlt h0
      have hprev : ∀ h0 : 0 < i, wr.cell? ⟨b, o + (i - 1), none⟩ = some (.int .u64 ((L[i - 1]'(by omega) : Nat) : Int)) := fun h0 => by
        obtain ⟨b', o', e, d⟩ := Hhc1.out (i - 1) (by omega)
        simp only [Option.some.injEq, Addr.mk.injEq, and_true] at e
        obtain ⟨rfl, rfl⟩ := e
        exact hx.cell d
      generalize L[i] = m at *
      generalize str (ofL spT m) = sp at *
      obtain ⟨q, hqq⟩ : ∃ q, q = orN (L.take i) := ⟨_, rfl⟩
      rw [← hqq] at hq hnx ⊢
      have hband : bits .and .u64 (m : Int) ((m : Int) - 1) = 0 := by
        have h := bits_and_u64_nat m (m - 1) g4 (by omega)
        rw [g2] at h
        rw [show ((m : Int) - 1) = ((m - 1 : Nat) : Int) by omega]
        exact h
      have hbor := bits_or_u64_nat q m hq g4
      have hm0 : ((m : Int) == 0) = false := by simp; omega
      have hwm : IntKind.u64.wrap ((m : Int) - 1) = (m : Int) - 1 := by simp [IntKind.wrap, IntKind.signed, IntKind.bits]; omega
      have Hhsc := Lib.hid hsc
      clear hsc
      have Hhnx := Lib.hid hnx
      clear hnx
      clear hx hqq g1 g2 g3
      by_cases h0 : 0 < i
      · have k1 : decide (0 < i) = true := decide_eq_true h0
        have k2 : decide ((0 : Int) < (i : Int)) = true := decide_eq_true (by omega)
        have hwp : IntKind.i64.wrap ((i : Int) - 1) = ((i - 1 : Nat) : Int) := by
          rw [show ((i - 1 : Nat) : Int) = (i : Int) - 1 by omega]
          exact IntWalk.i64_in _ (by omega)
        have hzp : ((i - 1 : Nat) : Int) < (L.length : Int) := by omega
        have hr := hrise h0
        have hp := hprev h0
        generalize L[i - 1]'(by omega) = pv at *
        have k3 : decide ((m : Int) ≤ (pv : Int)) = false := decide_eq_false (by omega)
        have k4 : decide (m ≤ pv) = false := decide_eq_false (by omega)
        clear hrise hprev
        go_wp2_with fail
        refine (Hhsc.out _).mono ?_
        rintro e w2 ⟨rfl, hx2⟩
        have HX2 := Lib.hid (HX.out.trans hx2)
        clear hx2
        go_wp2_with fail
        go_roundw
        case rel => exact ⟨i + 1, by omega, by go_num, by rw [Hhnx.out], HX2.out⟩
        case measure => simp [intOf]; omega
      · obtain rfl : i = 0 := by omega
        rw [Nat.add_zero] at d0
        clear hrise hprev
        go_wp2_with fail
        refine (Hhsc.out _).mono ?_
        rintro e w2 ⟨rfl, hx2⟩
        have HX2 := Lib.hid (HX.out.trans hx2)
        clear hx2
        go_wp2_with fail
        go_roundw
        case rel => exact ⟨1, by omega, by go_num, by rw [Hhnx.out], HX2.out⟩
        case measure => simp [intOf]; omega
    · obtain rfl : i = L.length := by omega
      rw [List.take_length, Hhor.out]
      have hba := bits_and_u64_nat all os ha hos
      have hs8 := Hh8.out
      obtain ⟨g, hg⟩ : ∃ g, g = all &&& os := ⟨_, rfl⟩
      rw [← hg] at hba ⊢
      have Hhg := Lib.hid hg
      clear hg
      clear hx
      go_wp2_with fail
      refine (HhS.out _).mono ?_
      rintro e w2 ⟨rfl, hx2⟩
      go_wp2_with fail
      refine (HhS.out _).mono ?_
      rintro e w3 ⟨rfl, hx3⟩
      go_wp2_with fail
      refine (HhF8.out _).mono ?_
      rintro e w4 ⟨v4, rfl, hx4, ho4⟩
      obtain ⟨a4, c4, rfl⟩ := own_form ho4
      have HX4 := Lib.hid ((HX1.out.trans HX.out).trans (hx2.trans (hx3.trans hx4)))
      clear hx2 hx3 hx4 ho4
      go_wp2_with fail
      refine (HhA.out _ (Hht.out.ext HX4.out)).mono ?_
      rintro e w5 ⟨rfl, hx5⟩
      go_wp2_with fail
      go_ret
      exact ⟨rfl, HX4.out.trans hx5⟩
end L10
end Go.Proofs.YtojlpocpcakcbaaDoor
