/- Layer 12: the walk of the law LinesRise. -/
import Derived.Test.YteheegkdcphapaaLineK
import Derived.Test.YteheegkdcphapaaLineM
import Derived.Deep.DeepCutAuto
namespace Go.Proofs.Yteheegkdcphapaa
open Go.RowKit V
namespace L12
theorem rises_get {k : Nat} : ∀ {xs : List LN} {last i : Nat} (h : i < xs.length), Rises k last xs → (if i = 0 then last else (xs[i - 1]?.map Prod.fst).getD 0) < (xs[i]).1 ∧ (xs[i]).1 ≤ k
  | x :: r, last, 0, _, h => ⟨h.1, h.2.1⟩
  | x :: r, last, i + 1, hi, h => by
    have := rises_get (xs := r) (last := x.1) (i := i) (by simpa using hi) h.2.2
    rw [if_neg (by omega)]
    cases i with
    | zero => exact this
    | succ j => exact this
def lastOf (xs : List LN) (i : Nat) : Nat := if i = 0 then 0 else (xs[i - 1]?.map Prod.fst).getD 0
theorem lastOf_succ {xs : List LN} {i : Nat} (h : i < xs.length) : lastOf xs (i + 1) = (xs[i]).1 := by
  unfold lastOf
  rw [if_neg (by omega), Nat.add_sub_cancel, List.getElem?_eq_getElem h]; rfl
set_option maxRecDepth 100000 in
set_option maxHeartbeats 4000000 in
theorem LinesRise_calls (v : Value) (bs : List UInt8) (hnl : bs.length ≤ maxLen) (w : World) (hv : Rd w 1 encB v bs) :
    Calls Try.prog 5 #[v] w fun e w' => e = .returned (.bool true) ∧ Ext w w' := by
  have HV := Lib.hid hv
  obtain ⟨a, c, rfl, hac, -⟩ := rdB_cell hv
  clear hv
  unfold maxLen at hnl
  have hA := fun W => awake_calls W
  have HhA := Lib.hid hA
  clear hA
  by_cases hlen : 5000 < bs.length
  · have h1 : decide (5000 < bs.length) = true := decide_eq_true hlen
    have h1' : decide ((5000 : Int) < (bs.length : Int)) = true := decide_eq_true (by omega)
    have Hhlen := Lib.hid hlen
    clear hlen
    go_enter Try.func5, Try.ntmps5
    go_wp2_with fail
    refine (HhA.out _).mono ?_
    rintro e w1 ⟨rfl, hx⟩
    go_wp2_with fail
    go_ret
    exact ⟨rfl, hx⟩
  have h1 : decide (5000 < bs.length) = false := decide_eq_false hlen
  have h1' : decide ((5000 : Int) < (bs.length : Int)) = false := decide_eq_false (by omega)
  have hSp := fun u W (h : Rd W 1 encB u bs) => Split_calls u bs (by omega) W h
  have hCn := fun u W (h : Rd W 1 encB u bs) => Count_calls u bs (by omega) W h
  have hll := linesL_len bs.length bs (Nat.le_refl _)
  by_cases hfull : 1000 < (linesL bs).length
  · have hsA : splitA bs = ([], 4) := by unfold splitA; rw [if_neg (by omega), if_pos hfull]
    rw [hsA] at hSp
    have h2 : decide (1000 < (linesL bs).length) = true := decide_eq_true hfull
    have h2' : decide ((1000 : Int) < ((linesL bs).length : Int)) = true := decide_eq_true (by omega)
    generalize (linesL bs).length = n at *
    have HhSp := Lib.hid hSp
    clear hSp
    have HhCn := Lib.hid hCn
    clear hCn
    have HhsA := Lib.hid hsA
    clear hsA
    go_enter Try.func5, Try.ntmps5
    go_wp2_with fail
    refine (HhSp.out _ _ HV.out).mono ?_
    rintro e w1 ⟨u, rfl, hx, ho⟩
    obtain ⟨au, cu, rfl⟩ := own_form ho
    have HX1 := Lib.hid hx
    clear hx ho
    go_wp2_with fail
    refine (HhCn.out _ _ (HV.out.ext HX1.out)).mono ?_
    rintro e w2 ⟨rfl, hx2⟩
    have HX2 := Lib.hid (HX1.out.trans hx2)
    clear hx2
    go_wp2_with fail
    refine (HhA.out _).mono ?_
    rintro e w3 ⟨rfl, hx3⟩
    go_wp2_with fail
    go_ret
    exact ⟨rfl, HX2.out.trans hx3⟩
  have hsA : splitA bs = (splitL bs, 0) := by unfold splitA; rw [if_neg (by omega), if_neg hfull]
  rw [hsA] at hSp
  dsimp only at hSp
  obtain ⟨hri, hgo⟩ := splitL_good bs
  have hsl := splitA_len bs
  rw [hsA] at hsl
  dsimp only at hsl
  have hget := fun i (h : i < (splitL bs).length) => rises_get h hri
  have hgt := fun i (h : i < (splitL bs).length) => hgo _ (List.getElem_mem h)
  have htb : ∀ i (h : i < (splitL bs).length), ((splitL bs)[i]'h).2.length ≤ 100000000 := fun i h => Nat.le_trans (splitL_tb bs _ (List.getElem_mem h)) (Nat.le_trans (Nat.mul_le_mul (show (linesL bs).length ≤ 1000 by omega) (show bs.length + 1 ≤ 5001 by omega)) (by decide))
  generalize splitL bs = zs at *
  generalize (linesL bs).length = n at *
  clear hri hgo
  have HhSp := Lib.hid hSp
  clear hSp
  have HhCn := Lib.hid hCn
  clear hCn
  have HhsA := Lib.hid hsA
  clear hsA
  have Hhget := Lib.hid hget
  clear hget
  have Hhtb := Lib.hid htb
  clear htb
  have Hhgt := Lib.hid hgt
  clear hgt
  go_enter Try.func5, Try.ntmps5
  go_wp2_with fail
  refine (HhSp.out _ _ HV.out).mono ?_
  rintro e w1 ⟨u, rfl, hx, ho⟩
  obtain ⟨au, cu, rfl, hacu, hcu⟩ := rdN_cell (rd_of_own encN_len ho)
  have HX1 := Lib.hid hx
  have HCU := Lib.hid hcu
  clear hx ho hcu
  go_wp2_with fail
  refine (HhCn.out _ _ (HV.out.ext HX1.out)).mono ?_
  rintro e w2 ⟨rfl, hx2⟩
  have HX12 := Lib.hid hx2
  have HX2 := Lib.hid (HX1.out.trans hx2)
  clear hx2
  go_wp2_with fail
  go_loopw [6, 7] (fun lv iv wr => ∃ i : Nat, i ≤ zs.length ∧ iv = .int .i64 i ∧ lv = .int .i64 (lastOf zs i : Nat) ∧ Ext w2 wr) (fun _ iv _ => zs.length - (intOf iv).toNat)
  case atStart => exact ⟨0, by omega, rfl, rfl, Ext.refl _⟩
  case round =>
    obtain ⟨i, hi, rfl, rfl, hx⟩ := hrel
    have HX := Lib.hid hx
    by_cases hlt : i < zs.length
    · obtain ⟨b, o, rfl, d0, d1⟩ := HCU.out i hlt
      have D0 := Lib.hid ((HX12.out.trans hx).cell d0)
      have D1 := Lib.hid ((HX12.out.trans hx).cell d1)
      have hg := Hhget.out i hlt
      have hls := lastOf_succ hlt
      have hgl : lastOf zs i < (zs[i]'hlt).1 ∧ (zs[i]'hlt).1 ≤ n := hg
      obtain ⟨hg1, hg2⟩ := hgl
      obtain ⟨hq1, hq2, hq3⟩ := Hhgt.out i hlt
      obtain ⟨t, ht⟩ : ∃ t, t = str (zs[i]'hlt).2 := ⟨_, rfl⟩
      have hbt : bytes t = (zs[i]'hlt).2 := by rw [ht]
      rw [← ht] at D1
      rw [← hbt] at hq1 hq2 hq3
      have hT : t.size ≤ maxLen → ∀ W, Calls Try.prog 17 #[.string t] W fun e w' => e = .returned (.string t) ∧ w' = W := fun hs W => (Trim_calls t hs W).mono fun e w' h => ⟨by rw [h.1, hq2, str_bytes], h.2.symm⟩
      have hsz : t.size ≤ 100000000 := by rw [← bytes_len, hbt]; exact Hhtb.out i hlt
      replace hT := hT (by unfold maxLen; omega)
      have hn1 : t.toList.isEmpty = false := by
        rw [ByteArray.toList_eq]
        show (bytes t).isEmpty = false
        cases hb : bytes t with
        | nil => exact absurd hb hq1
        | cons x r => rfl
      have hn2 : (t.toList == []) = false := by
        rw [ByteArray.toList_eq]
        show (bytes t == []) = false
        cases hb : bytes t with
        | nil => exact absurd hb hq1
        | cons x r => rfl
      have hno : ∀ k (h : k < t.size), (((t[k]'h).toNat : Int) == 10) = false := fun k h => by
        rw [beq_eq_false_iff_ne]
        intro e
        apply hq3
        have : t[k]'h = 10 := by
          rw [← UInt8.toNat_inj]
          show (t[k]'h).toNat = 10
          omega
        rw [← this, bytes_get]
        exact List.getElem_mem _
      clear hx d0 d1 hg ht hbt hq1 hq2 hq3
      generalize (zs[i]'hlt).1 = zn at *
      generalize lastOf zs i = la at *
      have f1 : decide (zn ≤ la) = false := decide_eq_false (by omega)
      have f1' : decide ((zn : Int) ≤ (la : Int)) = false := decide_eq_false (by omega)
      have f2 : decide (n < zn) = false := decide_eq_false (by omega)
      have f2' : decide ((n : Int) < (zn : Int)) = false := decide_eq_false (by omega)
      have Hhno := Lib.hid hno
      clear hno
      have Hhls := Lib.hid hls
      clear hls
      have HT := Lib.hid hT
      have d0 := D0.out
      have d1 := D1.out
      go_wp2_with (go_quiet ((go_at_call 17; exact Calls.quiet_of_same (HT.out _))))
      go_loopw [8] (fun kv wx => ∃ k : Nat, k ≤ t.size ∧ kv = .int .i64 k ∧ Ext wr wx) (fun kv _ => t.size - (intOf kv).toNat)
      case atStart => exact ⟨0, by omega, rfl, by repeat (first | exact Ext.refl _ | apply Ext.drewN)⟩
      case round =>
        obtain ⟨k, hk, rfl, hxx⟩ := hrel
        clear d0 d1
        have HXX := Lib.hid hxx
        have d0 := hxx.cell D0.out
        have d1 := hxx.cell D1.out
        clear hxx
        by_cases hkl : k < t.size
        · have hno := Hhno.out k hkl
          go_wp2_with fail
          first
            | (go_roundw
               case rel => exact ⟨k + 1, by omega, by go_num, HXX.out⟩
               case measure => simp [intOf]; omega)
            | exact ⟨⟨k + 1, by omega, by go_num, HXX.out⟩, by simp [intOf]; omega⟩
        · obtain rfl : k = t.size := by omega
          go_wp2_with fail
          first
            | (go_roundw
               case rel => exact ⟨i + 1, by omega, by go_num, by rw [Hhls.out], HX.out.trans HXX.out⟩
               case measure => simp [intOf]; omega)
            | exact ⟨⟨i + 1, by omega, by go_num, by rw [Hhls.out], HX.out.trans HXX.out⟩, by simp [intOf]; omega⟩
    · obtain rfl : i = zs.length := by omega
      clear hx
      go_wp2_with fail
      refine (HhA.out _).mono ?_
      rintro e w11 ⟨rfl, hx11⟩
      go_wp2_with fail
      go_ret
      exact ⟨rfl, (HX2.out.trans HX.out).trans hx11⟩
end L12
end Go.Proofs.Yteheegkdcphapaa
