/- Layer 12: the walk of the law LinesSplits. -/
import Derived.Test.YteheegkdcphapaaLineH
import Derived.Test.YteheegkdcphapaaLineK
namespace Go.Proofs.Yteheegkdcphapaa
open Go.RowKit V
namespace L12
theorem infoB : (Try.prog.info? 5).map (fun i => (i.zero, i.size, i.bytes)) = some (some (.int .u8 0), 1, 1) := by kernel_rfl
def moreN (m : Int) : Nat := ((m % 18446744073709551616) % 70000).toNat
theorem moreN_lt (m : Int) : moreN m < 70000 := by unfold moreN; omega
set_option maxRecDepth 100000 in
set_option maxHeartbeats 4000000 in
theorem LinesSplits_calls (v : Value) (bs : List UInt8) (hnl : bs.length ≤ maxLen) (m : Int) (x : UInt8) (w : World) (hv : Rd w 1 encB v bs) :
    Calls Try.prog 3 #[v, .int .i64 m, .int .u8 (x.toNat : Int)] w fun e w' => e = .returned (.bool true) ∧ Ext w w' := by
  have HV := Lib.hid hv
  obtain ⟨a, c, rfl, hac, -⟩ := rdB_cell hv
  clear hv
  unfold maxLen at hnl
  have hA := fun W => awake_calls W
  have HhA := Lib.hid hA
  clear hA
  by_cases hlen : 70000 < bs.length
  · have h1 : decide (70000 < bs.length) = true := decide_eq_true hlen
    have h1' : decide ((70000 : Int) < (bs.length : Int)) = true := decide_eq_true (by omega)
    have Hhlen := Lib.hid hlen
    clear hlen
    go_enter Try.func3, Try.ntmps3
    go_wp2_with fail
    go_ret
    exact ⟨rfl, Ext.refl _⟩
  have h1 : decide (70000 < bs.length) = false := decide_eq_false hlen
  have h1' : decide ((70000 : Int) < (bs.length : Int)) = false := decide_eq_false (by omega)
  obtain ⟨q, hq⟩ : ∃ q : Nat, (q : Int) = m % 18446744073709551616 := ⟨(m % 18446744073709551616).toNat, by omega⟩
  have hw1 : IntKind.u64.wrap m = (q : Int) := by rw [hq]; simp [IntKind.wrap, IntKind.signed, IntKind.bits]
  have hqb : q < 18446744073709551616 := by omega
  have hk : moreN m = q % 70000 := by unfold moreN; omega
  have hkl := moreN_lt m
  have Hhq := Lib.hid hq
  clear hq
  have Hhk := Lib.hid hk
  clear hk
  have HB0 := Lib.hid (own_lit encB_len w ([] : List UInt8) 5 w.heap.size w.heap.size rfl (Nat.le_refl _) (by unfold maxLen; simp))
  go_enter Try.func3, Try.ntmps3
  go_wp2_with (at_builtin
               refine wpList_app_rd rfl (.tmp 17) (.tmp 18) _ rfl Try.underlying22 infoB rfl (by decide) encB_len encB_one w _ _ [] bs rfl rfl HB0.out (HV.out.ext ((Ext.refl w).alloc _)) (by simp; omega) (by decide) ((Ext.refl w).alloc _) ?_
               intro au5 cu5 w5 ho5 hx5
               have HO5 := Lib.hid ho5
               have HX5 := Lib.hid hx5
               clear ho5 hx5)
  rw [show ((q : Int) % 70000) = ((moreN m : Nat) : Int) by rw [Hhk.out]; rfl]
  generalize moreN m = k at *
  go_loopw [7, 8] (fun u iv wr => ∃ (j : Nat) (L : List UInt8) (au : Option Addr) (cu : Nat), iv = .int .i64 j ∧ L.length + j ≤ 140000 ∧ u = .slice au L.length cu ∧ wr.ownsRow w.heap.size 5 1 (.slice au L.length cu) L.length (L.flatMap encB) ∧ Ext w wr) (fun _ i _ => (intOf i).toNat)
  case atStart => exact ⟨k, bs, au5, cu5, rfl, by omega, by simp, by simpa using HO5.out, HX5.out⟩
  case round =>
    obtain ⟨j, L, au, cu, rfl, hj, rfl, ho, hx⟩ := hrel
    have HO := Lib.hid ho
    have HX := Lib.hid hx
    clear ho hx
    by_cases hp : 0 < j
    · go_wp2_with (at_builtin
                   refine wpList_app_rd rfl (.tmp 28) (.tmp 30) _ rfl Try.underlying22 infoB rfl (by decide) encB_len encB_one w _ _ L [x] rfl rfl (World.ownsRow.alloc HO.out _) (rd_lit encB_len wr [x] _ _ rfl) (by simp; omega) (by decide) (HX.out.alloc _) ?_
                   intro au6 cu6 w6 ho6 hx6
                   have HO6 := Lib.hid ho6
                   have HX6 := Lib.hid hx6
                   clear ho6 hx6)
      go_roundw
      case rel => exact ⟨j - 1, L ++ [x], au6, cu6, by simp; omega, by simp; omega, by simp, by simpa using HO6.out, HX6.out⟩
      case measure => simp [intOf]; omega
    · obtain rfl : j = 0 := by omega
      have HB1 := Lib.hid (own_lit encB_len wr ([] : List UInt8) 5 wr.heap.size wr.heap.size rfl (Nat.le_refl _) (by unfold maxLen; simp))
      have HRL := Lib.hid (rd_of_own encB_len HO.out)
      have hSp := fun u W (h : Rd W 1 encB u L) => Split_calls u L (by omega) W h
      have hrS := fun u W (h : Rd W 1 encB u L) => rSplit_calls u L (by omega) W h
      have hCn := fun u W (h : Rd W 1 encB u L) => Count_calls u L (by omega) W h
      have hrL := fun u W (h : Rd W 1 encB u L) => rLines_calls u L (by omega) W h
      have hzl := splitA_len L
      obtain ⟨zs, hzs⟩ : ∃ zs, zs = (splitA L).1 := ⟨_, rfl⟩
      obtain ⟨er, her⟩ : ∃ er, er = (splitA L).2 := ⟨_, rfl⟩
      rw [← hzs, ← her] at hSp hrS
      rw [← hzs] at hzl
      have Hhzs := Lib.hid hzs
      clear hzs
      have Hher := Lib.hid her
      clear her
      have HhSp := Lib.hid hSp
      clear hSp
      have HhrS := Lib.hid hrS
      clear hrS
      have HhCn := Lib.hid hCn
      clear hCn
      have HhrL := Lib.hid hrL
      clear hrL
      go_wp2_with (at_builtin
                   refine wpList_app_rd rfl (.tmp 32) (.tmp 33) _ rfl Try.underlying22 infoB rfl (by decide) encB_len encB_one wr _ _ [] L rfl rfl HB1.out (HRL.out.ext ((Ext.refl wr).alloc _)) (by simp; omega) (by decide) ((Ext.refl wr).alloc _) ?_
                   intro au6 cu6 w6 ho6 hx6
                   have HR6 := Lib.hid (rd_of_own (n := 1) (enc := encB) (xs := L) encB_len (by simpa using ho6))
                   have HRI := Lib.hid (HRL.out.ext hx6)
                   have HX6 := Lib.hid (HX.out.trans hx6)
                   clear ho6 hx6)
      refine (HhSp.out _ _ HRI.out).mono ?_
      rintro e w7 ⟨u1, rfl, hx7, ho7⟩
      obtain ⟨a1, c1, rfl, hac1, hc1⟩ := rdN_cell (rd_of_own encN_len ho7)
      have HC1 := Lib.hid hc1
      have HX7 := Lib.hid (HX6.out.trans hx7)
      have HR7 := Lib.hid (HR6.out.ext hx7)
      have HI7 := Lib.hid (HRI.out.ext hx7)
      clear hx7 ho7 hc1
      go_wp2_with fail
      refine (HhrS.out _ _ HR7.out).mono ?_
      rintro e w8 ⟨u2, rfl, hx8, ho8⟩
      obtain ⟨a2, c2, rfl, hac2, hc2⟩ := rdN_cell (rd_of_own encN_len ho8)
      have HC2 := Lib.hid hc2
      have HX78 := Lib.hid hx8
      have HX8 := Lib.hid (HX7.out.trans hx8)
      have HR8 := Lib.hid (HR7.out.ext hx8)
      have HI8 := Lib.hid (HI7.out.ext hx8)
      have hcv1 := conv_rd HR8.out
      have hcv2 := conv_rd HI8.out
      clear hx8 ho8 hc2
      go_wp2_with fail
      refine (HhCn.out _ _ HI8.out).mono ?_
      rintro e w9 ⟨rfl, hx9⟩
      have HX89 := Lib.hid hx9
      have HX9 := Lib.hid (HX8.out.trans hx9)
      have HR9 := Lib.hid (HR8.out.ext hx9)
      clear hx9 hcv1 hcv2
      go_wp2_with fail
      refine (HhrL.out _ _ HR9.out).mono ?_
      rintro e w10 ⟨u3, rfl, hx10, ho10⟩
      obtain ⟨a3, c3, rfl⟩ := own_form ho10
      have HX10 := Lib.hid (HX9.out.trans hx10)
      have HXa := Lib.hid (HX78.out.trans (HX89.out.trans hx10))
      have HXb := Lib.hid (HX89.out.trans hx10)
      clear hx10 ho10
      go_wp2_with fail
      go_loopw [13] (fun iv wx => ∃ j : Nat, j ≤ zs.length ∧ iv = .int .i64 j ∧ Ext w10 wx) (fun i _ => zs.length - (intOf i).toNat)
      case atStart => exact ⟨0, by omega, rfl, Ext.refl _⟩
      case round =>
        obtain ⟨j, hj, rfl, hx⟩ := hrel
        have HX := Lib.hid hx
        by_cases hlt : j < zs.length
        · obtain ⟨b1, o1, rfl, d0, d1⟩ := HC1.out j hlt
          obtain ⟨b2, o2, rfl, g0, g1⟩ := HC2.out j hlt
          replace d0 := (HXa.out.trans hx).cell d0; replace d1 := (HXa.out.trans hx).cell d1
          replace g0 := (HXb.out.trans hx).cell g0; replace g1 := (HXb.out.trans hx).cell g1
          clear hx
          generalize zs[j]'hlt = z at *
          obtain ⟨zn, zt⟩ := z
          dsimp only at *
          go_wp2_with (go_quiet (fail))
          go_roundw
          case rel => exact ⟨j + 1, by omega, by go_num, (by repeat (first | exact HX.out | apply Ext.drewN | apply Ext.alloc | apply Ext.drew))⟩
          case measure => simp [intOf]; omega
        · obtain rfl : j = zs.length := by omega
          clear hx
          go_wp2_with fail
          refine (HhA.out _).mono ?_
          rintro e w11 ⟨rfl, hx11⟩
          go_wp2_with fail
          go_ret
          exact ⟨rfl, (HX10.out.trans HX.out).trans hx11⟩
end L12
end Go.Proofs.Yteheegkdcphapaa
