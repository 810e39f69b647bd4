/- Layer 15: the walk of the reference's Read. -/
import Derived.Deep.DeepCutAuto
import Derived.Test.YtojlpocpcakcbaaDoorNameG
import Derived.Test.YtojlpocpcakcbaaDoorValA
namespace Go.Proofs.YtojlpocpcakcbaaDoor
open Go.RowKit Go.Shelf Go.Sort V
attribute [local go_sem] Oper.semAt_some
namespace L10
theorem u8_eq (c k : UInt8) : ((c.toNat : Int) == (k.toNat : Int)) = (c == k) := by
  rw [Bool.eq_iff_iff, beq_iff_eq, beq_iff_eq, ← UInt8.toNat_inj]
  omega
theorem hd1_step {l : List UInt8} {k : Nat} (h : k < l.length) : (l[k] = 58 → (hd1 58 (l.drop k)).length = 0) ∧ (l[k] ≠ 58 → (hd1 58 (l.drop k)).length = (hd1 58 (l.drop (k + 1))).length + 1) := by
  rw [List.drop_eq_getElem_cons h]
  unfold hd1
  constructor
  · intro e
    rw [List.takeWhile_cons_of_neg (p := (· != _)) (by simp [e])]; rfl
  · intro e
    rw [List.takeWhile_cons_of_pos (p := (· != _)) (by simpa using e)]; rfl
theorem hd1_full {c : UInt8} {l : List UInt8} : (hd1 c l).length = l.length ↔ l.contains c = false := by
  constructor
  · intro h
    rw [Bool.eq_false_iff]
    intro hc
    have := hd1_lt hc
    omega
  · intro h
    rw [(hd1_all h).1]
set_option maxRecDepth 100000 in
set_option maxHeartbeats 4000000 in
theorem rRead_calls (s : ByteArray) (hs : s.size ≤ 1000000) (w : World) : Calls Tryd.prog 27 #[.string s] w fun e w' => e = .returned (.tuple #[enV (readL (bytes s)).1, .int .i64 (readL (bytes s)).2]) ∧ Ext w w' := by
  have hE := fun W => rErrno_calls (str (tl1 58 (bytes s))) (by rw [str_size, tl1_len, bytes_len]; omega) W
  rw [bytes_str] at hE
  have hR : readL (bytes s) = if hd1 58 (bytes s) = [] then (([], 0, false), 161) else if (bytes s).contains 58 = false then ((hd1 58 (bytes s), 0, false), 0) else if tl1 58 (bytes s) = [107, 105, 108, 108] then ((hd1 58 (bytes s), 2147483648, true), 0) else if (errnoL (tl1 58 (bytes s))).2 = 0 then ((hd1 58 (bytes s), 327680 ||| (errnoL (tl1 58 (bytes s))).1, true), 0) else (([], 0, false), 160) := rfl
  have hok := errnoL_ok (tl1 58 (bytes s))
  have hki : ((str (tl1 58 (bytes s))).toList == [107, 105, 108, 108]) = decide (tl1 58 (bytes s) = [107, 105, 108, 108]) := by
    rw [Lib.toList_data, show (str (tl1 58 (bytes s))).data.toList = tl1 58 (bytes s) from bytes_str _, Bool.eq_iff_iff, beq_iff_eq, decide_eq_true_iff]
  have hex1 : s.extract 0 (hd1 58 (bytes s)).length = str (hd1 58 (bytes s)) := bytes_inj (by rw [bytes_ext, List.drop_zero, Nat.sub_zero, hd1_take, bytes_str])
  have hex2 : (hd1 58 (bytes s)).length < s.size → s.extract ((hd1 58 (bytes s)).length + 1) s.size = str (tl1 58 (bytes s)) := fun h => bytes_inj (by
    rw [bytes_ext, tl1_drop, List.take_of_length_le (by rw [← tl1_drop, List.length_drop, bytes_len]; omega), bytes_str])
  have hfull := @hd1_full 58 (bytes s)
  have hle := hd1_len 58 (bytes s)
  have hnil : (hd1 58 (bytes s)).length = 0 ↔ hd1 58 (bytes s) = [] := List.length_eq_zero_iff
  have h0 : (hd1 58 (bytes s)).length = 0 + (hd1 58 ((bytes s).drop 0)).length := by rw [List.drop_zero, Nat.zero_add]
  have hend : (hd1 58 ((bytes s).drop s.size)).length = 0 := by rw [List.drop_of_length_le (by rw [bytes_len]; exact Nat.le_refl _)]; rfl
  have hstep := fun k => @hd1_step (bytes s) k
  rw [bytes_len] at hfull hle
  obtain ⟨RR, hRR⟩ : ∃ RR, RR = readL (bytes s) := ⟨_, rfl⟩
  rw [← hRR] at hR ⊢
  generalize errnoL (tl1 58 (bytes s)) = en at *
  obtain ⟨e1, e2⟩ := en
  dsimp only at *
  clear hRR
  obtain ⟨at_, hat⟩ : ∃ at_, at_ = (hd1 58 (bytes s)).length := ⟨_, rfl⟩
  rw [← hat] at hex1 hex2 hfull hle hnil h0
  generalize hd1 58 (bytes s) = nm at *
  generalize tl1 58 (bytes s) = sf at *
  generalize (bytes s).contains 58 = bc at *
  have HF := Lib.hid (And.intro hR (And.intro hok (And.intro hki (And.intro hex1 (And.intro hex2 (And.intro hfull hnil))))))
  have HhE := Lib.hid hE
  clear hE
  have Hh0 := Lib.hid h0
  clear h0
  have Hhend := Lib.hid hend
  clear hend
  have Hhstep := Lib.hid hstep
  clear hstep
  clear hR hok hki hex1 hex2 hfull hnil hat
  go_enter Tryd.func27, Tryd.ntmps27
  go_wp2_with fail
  have hbk := cells_new w [.string ⟨#[]⟩, .int .u32 0, .bool false] 47
  obtain ⟨c0, c1, c2, f0, f1, f2, bl⟩ := blk3 (Ext.refl (w.alloc (.cells #[.string ⟨#[]⟩, .int .u32 0, .bool false] 47)))
  obtain ⟨w1, hw1⟩ : ∃ w1, w1 = w.alloc (.cells #[.string ⟨#[]⟩, .int .u32 0, .bool false] 47) := ⟨_, rfl⟩
  have HX1 : Hid (Ext w w1) := Lib.hid (by rw [hw1]; exact (Ext.refl w).alloc _)
  rw [← hw1] at c0 c1 c2 f0 f1 f2 bl ⊢
  clear hw1 hbk
  go_loopw [4, 5] (fun ua ui wr => ∃ k a : Nat, k ≤ s.size ∧ ui = .int .i64 ((k : Int) - 1) ∧ ua = .int .i64 (a : Int) ∧ a ≤ s.size ∧ a = k + (hd1 58 ((bytes s).drop k)).length ∧ w1 = wr) (fun _ ui _ => (intOf ui + 1).toNat)
  case atStart => exact ⟨s.size, s.size, Nat.le_refl _, rfl, rfl, Nat.le_refl _, by rw [Hhend.out]; rfl, rfl⟩
  case round =>
    obtain ⟨k, a, hk, rfl, rfl, ha, hak, rfl⟩ := hrel
    by_cases hlt : 0 < k
    · have hks : k - 1 < s.size := by omega
      have hk1 : (k : Int) - 1 = ((k - 1 : Nat) : Int) := by omega
      have hd1' : decide ((0 : Int) ≤ (k : Int) - 1) = true := decide_eq_true (by omega)
      have hge : (0 : Int) ≤ ((k - 1 : Nat) : Int) := by omega
      have hltz : ((k - 1 : Nat) : Int) < (s.size : Int) := by omega
      have hwk : IntKind.i64.wrap (((k - 1 : Nat) : Int) - 1) = ((k - 1 : Nat) : Int) - 1 := IntWalk.i64_in _ (by omega)
      have e58 := u8_eq (s[k - 1]'hks) 58
      rw [show (((58 : UInt8).toNat : Nat) : Int) = 58 from rfl] at e58
      obtain ⟨st1, st2⟩ := Hhstep.out (k - 1) (by rw [bytes_len]; exact hks)
      rw [show k - 1 + 1 = k by omega, ← bytes_get s (k - 1) hks] at st2
      rw [← bytes_get s (k - 1) hks] at st1
      rw [hk1]
      have Hhak := Lib.hid hak
      clear hak
      cases hb : s[k - 1]'hks == 58
      · rw [hb] at e58
        have h2 := st2 (by simpa using hb)
        have hfin : a = (k - 1) + (hd1 58 ((bytes s).drop (k - 1))).length := by rw [h2]; have := Hhak.out; omega
        have Hhfin := Lib.hid hfin
        clear hfin
        clear st1 st2 h2 hb hd1' hk1
        go_wp2_with fail
        go_roundw
        case rel => exact ⟨k - 1, a, by omega, rfl, rfl, ha, Hhfin.out, trivial⟩
        case measure => simp [intOf] <;> omega
      · rw [hb] at e58
        have h1 := st1 (by simpa using hb)
        have hfin : k - 1 = (k - 1) + (hd1 58 ((bytes s).drop (k - 1))).length := by rw [h1]; omega
        have Hhfin := Lib.hid hfin
        clear hfin
        clear st1 st2 h1 hb hd1' hk1
        go_wp2_with fail
        go_roundw
        case rel => exact ⟨k - 1, k - 1, by omega, rfl, rfl, by omega, Hhfin.out, trivial⟩
        case measure => simp [intOf] <;> omega
    · obtain rfl : k = 0 := by omega
      have haa : a = at_ := by rw [hak, Hh0.out]
      subst haa
      clear hak hlt
      obtain ⟨hR, hok, hki, hex1, hex2, hfull, hnil⟩ := HF.out
      clear HF
      have haz : (a : Int) ≤ (s.size : Int) := by omega
      have ha0 : (0 : Int) ≤ (a : Int) := by omega
      generalize hnv : str nm = nv at *
      generalize hsv : str sf = sv at *
      have Hhnv := Lib.hid hnv
      clear hnv
      have Hhsv := Lib.hid hsv
      clear hsv
      by_cases hn : nm = []
      · have hz : a = 0 := hnil.2 hn
        have g1 : ((a : Int) == 0) = true := by rw [hz]; rfl
        rw [if_pos hn] at hR
        have hRV : enV RR.1 = .agg #[.string ⟨#[]⟩, .int .u32 0, .bool false] := by rw [hR]; rfl
        have hR2 : RR.2 = 161 := by rw [hR]
        have HRV := Lib.hid hRV
        have HR2 := Lib.hid hR2
        have Hhz := Lib.hid hz
        clear hz
        clear hR hRV hR2 hok hki hex2 hfull hnil hn
        go_upto_region 9 with fail
        obtain ⟨W3, hW3⟩ : ∃ W3, W3 = w1.alloc (.cells #[.string nv, .int .u32 0, .bool false] 47) := ⟨_, rfl⟩
        obtain ⟨z0, z1, z2, -, -, -, -⟩ := blk3 (Ext.refl (w1.alloc (.cells #[.string nv, .int .u32 0, .bool false] 47)))
        have hx13 : Ext w1 W3 := by rw [hW3]; exact (Ext.refl w1).alloc _
        rw [← hW3] at z0 z1 z2 ⊢
        replace c0 := hx13.cell c0
        replace c1 := hx13.cell c1
        replace c2 := hx13.cell c2
        replace f0 := frozen_ext hx13 bl f0
        replace f1 := frozen_ext hx13 bl f1
        replace f2 := frozen_ext hx13 bl f2
        have HX3 := Lib.hid (HX1.out.trans hx13)
        clear hW3 hx13
        go_wp2_with fail
        rw [HRV.out, HR2.out]
        exact read_end Tryd.results27 (by kernel_rfl) ⟨_, Tryd.underlying47⟩ rfl rfl rfl c0 c1 c2 HX3.out (Nat.le_refl _)
      · have hz : a ≠ 0 := fun h => hn (hnil.1 h)
        have g1 : ((a : Int) == 0) = false := by simp; omega
        rw [if_neg hn] at hR
        by_cases hb : bc = false
        · have g2 : ((a : Int) == (s.size : Int)) = true := by rw [hfull.2 hb]; simp
          rw [if_pos hb] at hR
          have hRV : enV RR.1 = .agg #[.string nv, .int .u32 0, .bool false] := by rw [hR]; show Value.agg #[.string (str nm), _, _] = _; rw [Hhnv.out]; rfl
          have hR2 : RR.2 = 0 := by rw [hR]
          have HRV := Lib.hid hRV
          have HR2 := Lib.hid hR2
          clear hR hRV hR2 hok hki hex2 hfull hnil hn hz
          go_upto_region 11 with fail
          obtain ⟨W3, hW3⟩ : ∃ W3, W3 = w1.alloc (.cells #[.string nv, .int .u32 0, .bool false] 47) := ⟨_, rfl⟩
          obtain ⟨z0, z1, z2, -, -, -, -⟩ := blk3 (Ext.refl (w1.alloc (.cells #[.string nv, .int .u32 0, .bool false] 47)))
          have hx13 : Ext w1 W3 := by rw [hW3]; exact (Ext.refl w1).alloc _
          rw [← hW3] at z0 z1 z2 ⊢
          replace c0 := hx13.cell c0
          replace c1 := hx13.cell c1
          replace c2 := hx13.cell c2
          replace f0 := frozen_ext hx13 bl f0
          replace f1 := frozen_ext hx13 bl f1
          replace f2 := frozen_ext hx13 bl f2
          have HX3 := Lib.hid (HX1.out.trans hx13)
          clear hW3 hx13
          go_wp2_with fail
          rw [HRV.out, HR2.out]
          exact read_end Tryd.results27 (by kernel_rfl) ⟨_, Tryd.underlying47⟩ rfl rfl rfl c0 c1 c2 HX3.out (Nat.le_refl _)
        · have hlt : a < s.size := by
            have : a ≠ s.size := fun h => hb (hfull.1 h)
            omega
          have g2 : ((a : Int) == (s.size : Int)) = false := by simp; omega
          have hx2 := hex2 hlt
          have haz1 : (a : Int) + 1 ≤ (s.size : Int) := by omega
          have hwa : IntKind.i64.wrap ((a : Int) + 1) = (a : Int) + 1 := IntWalk.i64_in _ (by omega)
          have hta : ((a : Int) + 1).toNat = a + 1 := by omega
          rw [if_neg hb] at hR
          clear hex2 hfull hnil hn hz hb
          by_cases hk : sf = [107, 105, 108, 108]
          · rw [if_pos hk] at hR
            rw [decide_eq_true hk] at hki
            have hRV : enV RR.1 = .agg #[.string nv, .int .u32 2147483648, .bool true] := by rw [hR]; show Value.agg #[.string (str nm), _, _] = _; rw [Hhnv.out]; rfl
            have hR2 : RR.2 = 0 := by rw [hR]
            have HRV := Lib.hid hRV
            have HR2 := Lib.hid hR2
            clear hR hRV hR2 hok hk
            go_upto_region 15 with fail
            obtain ⟨W3, hW3⟩ : ∃ W3, W3 = w1.alloc (.cells #[.string nv, .int .u32 2147483648, .bool true] 47) := ⟨_, rfl⟩
            obtain ⟨z0, z1, z2, -, -, -, -⟩ := blk3 (Ext.refl (w1.alloc (.cells #[.string nv, .int .u32 2147483648, .bool true] 47)))
            have hx13 : Ext w1 W3 := by rw [hW3]; exact (Ext.refl w1).alloc _
            rw [← hW3] at z0 z1 z2 ⊢
            replace c0 := hx13.cell c0
            replace c1 := hx13.cell c1
            replace c2 := hx13.cell c2
            replace f0 := frozen_ext hx13 bl f0
            replace f1 := frozen_ext hx13 bl f1
            replace f2 := frozen_ext hx13 bl f2
            have HX3 := Lib.hid (HX1.out.trans hx13)
            clear hW3 hx13
            go_wp2_with fail
            rw [HRV.out, HR2.out]
            exact read_end Tryd.results27 (by kernel_rfl) ⟨_, Tryd.underlying47⟩ rfl rfl rfl c0 c1 c2 HX3.out (Nat.le_refl _)
          · rw [if_neg hk] at hR
            rw [decide_eq_false hk] at hki
            clear hk
            rcases hok with ⟨rfl, hle9⟩ | rfl
            · rw [if_pos rfl] at hR
              have hor : 327680 ||| e1 = 327680 + e1 := (Nat.shiftLeft_add_eq_or_of_lt (show e1 < 2 ^ 16 by omega) 5).symm
              have hRV : enV RR.1 = .agg #[.string nv, .int .u32 ((327680 + e1 : Nat) : Int), .bool true] := by rw [hR]; show Value.agg #[.string (str nm), .int .u32 ((327680 ||| e1 : Nat) : Int), _] = _; rw [Hhnv.out, hor]
              have hR2 : RR.2 = 0 := by rw [hR]
              have HRV := Lib.hid hRV
              have HR2 := Lib.hid hR2
              have hwo : IntKind.u32.wrap (327680 + (e1 : Int)) = 327680 + (e1 : Int) := by simp [IntKind.wrap, IntKind.signed, IntKind.bits]; omega
              clear hR hRV hR2 hor
              go_wp2_with fail
              refine (HhE.out _).mono ?_
              rintro e w3 ⟨rfl, hx3⟩
              have HM := Lib.hid (fun W hW => mid3 (v := .int .u32 ((327680 + e1 : Nat) : Int)) hx3 HX1.out bl c0 c1 c2 f0 f1 f2 W hW)
              obtain ⟨k0, k1, k2, l0, l1, l2, bl2⟩ := blk3 hx3
              clear hx3 c0 c1 c2 f0 f1 f2
              go_upto_region 20 with fail
              obtain ⟨W3, hW3⟩ : ∃ W3, W3 = w3.setCell ⟨w1.heap.size, 1, none⟩ (.int .u32 ((327680 + e1 : Nat) : Int)) := ⟨_, rfl⟩
              change Code.wp _ _ _ _ (w3.setCell ⟨w1.heap.size, 1, none⟩ (.int .u32 ((327680 + e1 : Nat) : Int)))
              rw [← hW3]
              obtain ⟨⟨m0, m1, m2⟩, ⟨c0, c1, c2, f0, f1, f2⟩, hx⟩ := HM.out W3 hW3
              have HX3 := Lib.hid hx
              clear hW3 hx k0 k1 k2 l0 l1 l2 bl2
              go_wp2_with fail
              rw [HRV.out, HR2.out]
              exact read_end Tryd.results27 (by kernel_rfl) ⟨_, Tryd.underlying47⟩ rfl rfl rfl c0 c1 c2 HX3.out (Nat.le_refl _)
            · rw [if_neg (by simp)] at hR
              have hRV : enV RR.1 = .agg #[.string ⟨#[]⟩, .int .u32 0, .bool false] := by rw [hR]; rfl
              have hR2 : RR.2 = 160 := by rw [hR]
              have HRV := Lib.hid hRV
              have HR2 := Lib.hid hR2
              clear hR hRV hR2
              go_wp2_with fail
              refine (HhE.out _).mono ?_
              rintro e w3 ⟨rfl, hx3⟩
              have hx13 : Ext w1 w3 := ((Ext.refl w1).alloc _).trans hx3
              replace c0 := hx13.cell c0
              replace c1 := hx13.cell c1
              replace c2 := hx13.cell c2
              replace f0 := frozen_ext hx13 bl f0
              replace f1 := frozen_ext hx13 bl f1
              replace f2 := frozen_ext hx13 bl f2
              have HX3 := Lib.hid (HX1.out.trans hx13)
              clear hx3 hx13
              go_wp2_with fail
              rw [HRV.out, HR2.out]
              exact read_end Tryd.results27 (by kernel_rfl) ⟨_, Tryd.underlying47⟩ rfl rfl rfl c0 c1 c2 HX3.out (Nat.le_refl _)
end L10
end Go.Proofs.YtojlpocpcakcbaaDoor
