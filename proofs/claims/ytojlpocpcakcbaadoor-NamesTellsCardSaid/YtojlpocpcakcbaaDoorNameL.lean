/- Layer 10: the walk of the law NamesTells. -/
import Derived.Test.YtojlpocpcakcbaaDoorNameG
import Derived.Test.YtojlpocpcakcbaaDoorNameH
import Derived.Test.YtojlpocpcakcbaaDoorNameI
namespace Go.Proofs.YtojlpocpcakcbaaDoor
open Go.RowKit Go.Shelf Go.Sort V
attribute [local go_sem] Oper.semAt_some
namespace L10
theorem flL_len (all : Nat) : ∀ l : List Nm, (flL all l).length ≤ l.length
  | [] => Nat.le_refl _
  | x :: r => by
    have := flL_len all r
    show ((if all &&& x.2 ≠ 0 then [x.2] else []) ++ flL all r).length ≤ r.length + 1
    rw [List.length_append]
    split <;> simp <;> omega
set_option maxRecDepth 100000 in
set_option maxHeartbeats 4000000 in
theorem NamesTells_calls (n fl : Nat) (hn : n < 4294967296) (hfl : fl < 18446744073709551616) (w : World) (ht : Tab w) : Calls Tryd.prog 6 #[.int .u32 (n : Int), .int .u64 (fl : Int)] w fun e w' => e = .returned (.bool true) ∧ Ext w w' := by
  have hF := fun W => Flags_calls fl hfl W
  have hrF := fun W => rFlags_calls fl hfl W
  have hS := fun W => Spaces_calls W
  have hrA := fun W => rAll_calls W
  have hE := fun W (h : Tab W) => ErrnoName_calls n hn W h
  have hrE := fun W => rErrnoName_calls n hn W
  have hFN := fun W => FamilyName_calls n W
  have hSN := fun W => SpaceName_calls fl W
  have hrFa := fun W => rFamilies_calls W
  have hrSp := fun W => rSpaces_calls W
  have hf1 := fun v W (h : Rd W 2 encQ v famT) => rName_calls famT v n W h (by decide)
  have hf2 := fun v W (h : Rd W 2 encQ v spT) => rName_calls spT v fl W h (by decide)
  have hA := fun W (h : Tab W) => awake10_calls W h
  have hlen := flL_len fl spT
  rw [spT_len] at hlen
  have hwn : IntKind.u64.wrap (n : Int) = (n : Int) := by simp [IntKind.wrap, IntKind.signed, IntKind.bits]; omega
  generalize flL fl spT = L at *
  generalize orL spT = os at *
  generalize str (enL n) = s1 at *
  generalize str (ofL famT n) = s2 at *
  generalize str (ofL spT fl) = s3 at *
  have Hht := Lib.hid ht
  clear ht
  have HhF := Lib.hid hF
  clear hF
  have HhrF := Lib.hid hrF
  clear hrF
  have HhS := Lib.hid hS
  clear hS
  have HhrA := Lib.hid hrA
  clear hrA
  have HhE := Lib.hid hE
  clear hE
  have HhrE := Lib.hid hrE
  clear hrE
  have HhFN := Lib.hid hFN
  clear hFN
  have HhSN := Lib.hid hSN
  clear hSN
  have HhrFa := Lib.hid hrFa
  clear hrFa
  have HhrSp := Lib.hid hrSp
  clear hrSp
  have Hhf1 := Lib.hid hf1
  clear hf1
  have Hhf2 := Lib.hid hf2
  clear hf2
  have HhA := Lib.hid hA
  clear hA
  go_enter Tryd.func6, Tryd.ntmps6
  go_wp2_with fail
  refine (HhF.out _).mono ?_
  rintro e w1 ⟨v1, rfl, hx1, ho1⟩
  obtain ⟨a1, c1, rfl, -, hc1⟩ := rd64_cell (rd_of_own enc64_len ho1)
  go_wp2_with fail
  refine (HhrF.out _).mono ?_
  rintro e w2 ⟨v2, rfl, hx2, ho2⟩
  obtain ⟨a2, c2, rfl, -, hc2⟩ := rd64_cell (rd_of_own enc64_len ho2)
  have HX2 := Lib.hid (hx1.trans hx2)
  have HX12 := Lib.hid hx2
  have Hhc1 := Lib.hid hc1
  clear hc1
  have Hhc2 := Lib.hid hc2
  clear hc2
  clear hx1 hx2 ho1 ho2
  go_wp2_with fail
  refine (HhS.out _).mono ?_
  rintro e w3 ⟨rfl, hx3⟩
  go_wp2_with fail
  refine (HhrA.out _).mono ?_
  rintro e w4 ⟨rfl, hx4⟩
  have HX4 := Lib.hid (HX2.out.trans (hx3.trans hx4))
  have HX24 := Lib.hid (hx3.trans hx4)
  clear hx3 hx4
  go_wp2_with fail
  go_loopw [7] (fun iv wx => ∃ j : Nat, j ≤ L.length ∧ iv = .int .i64 j ∧ Ext w4 wx) (fun i _ => L.length - (intOf i).toNat)
  case atStart => exact ⟨0, by omega, rfl, Ext.refl _⟩
  case round =>
    obtain ⟨j, hj, rfl, hx⟩ := hrel
    have HXj := Lib.hid hx
    by_cases hlt : j < L.length
    · obtain ⟨b1, o1, rfl, d0⟩ := Hhc1.out j hlt
      obtain ⟨b2, o2, rfl, g0⟩ := Hhc2.out j hlt
      replace d0 := ((HX12.out.trans HX24.out).trans hx).cell d0
      replace g0 := (HX24.out.trans hx).cell g0
      generalize L[j]'hlt = x at *
      have hz : (j : Int) < (L.length : Int) := by omega
      clear hx
      go_wp2_with (go_quiet (fail))
      go_roundw
      case rel => exact ⟨j + 1, by omega, by go_num, by repeat (first | exact HXj.out | apply Ext.drewN)⟩
      case measure => simp [intOf]; omega
    · obtain rfl : j = L.length := by omega
      have HX4 := Lib.hid (HX4.out.trans hx)
      clear hx
      go_wp2_with fail
      refine (HhE.out _ (Hht.out.ext HX4.out)).mono ?_
      rintro e w5 ⟨rfl, hx5⟩
      go_wp2_with fail
      refine (HhrE.out _).mono ?_
      rintro e w6 ⟨rfl, hx6⟩
      go_wp2_with fail
      refine (HhFN.out _).mono ?_
      rintro e w7 ⟨rfl, hx7⟩
      have HX7 := Lib.hid (HX4.out.trans (hx5.trans (hx6.trans hx7)))
      clear hx5 hx6 hx7
      go_wp2_with fail
      refine (HhrFa.out _).mono ?_
      rintro e w8 ⟨a8, c8, rfl, hx8, hr8⟩
      go_wp2_with fail
      refine (Hhf1.out _ _ hr8).mono ?_
      rintro e w9 ⟨rfl, hx9⟩
      have HX9 := Lib.hid (HX7.out.trans (hx8.trans hx9))
      clear hx8 hx9 hr8
      go_wp2_with fail
      refine (HhSN.out _).mono ?_
      rintro e w10 ⟨rfl, hx10⟩
      go_wp2_with fail
      refine (HhrSp.out _).mono ?_
      rintro e w11 ⟨a11, c11, rfl, hx11, hr11⟩
      go_wp2_with fail
      refine (Hhf2.out _ _ hr11).mono ?_
      rintro e w12 ⟨rfl, hx12⟩
      have HX12' := Lib.hid (HX9.out.trans (hx10.trans (hx11.trans hx12)))
      clear hx10 hx11 hx12 hr11
      go_wp2_with fail
      refine (HhA.out _ (Hht.out.ext HX12'.out)).mono ?_
      rintro e w13 ⟨rfl, hx13⟩
      go_wp2_with fail
      go_ret
      exact ⟨rfl, HX12'.out.trans hx13⟩
end L10
end Go.Proofs.YtojlpocpcakcbaaDoor
