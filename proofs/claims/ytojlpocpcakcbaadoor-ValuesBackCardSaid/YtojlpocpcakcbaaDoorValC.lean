/- Layer 15: the walks of Text and of the reference's Text. -/
import Derived.Deep.DeepCutAuto
import Derived.Test.YtojlpocpcakcbaaDoorNameG
import Derived.Test.YtojlpocpcakcbaaDoorNameN
import Derived.Test.YtojlpocpcakcbaaDoorValA
namespace Go.Proofs.YtojlpocpcakcbaaDoor
open Go.RowKit Go.Shelf Go.Sort V
attribute [local go_sem] Oper.semAt_some
namespace L10
def textL (x : En) : List UInt8 :=
  if x.2.2 = false then x.1 else if x.2.1 = 2147483648 then x.1 ++ [58, 107, 105, 108, 108] else if x.2.1 / 65536 = 5 then x.1 ++ [58] ++ enL (x.2.1 % 65536) else x.1 ++ [58]
theorem hi_and (a : Nat) (h : a < 4294967296) : a &&& 4294901760 = a / 65536 * 65536 := by
  refine Nat.eq_of_testBit_eq fun i => ?_
  rw [Nat.testBit_and, show (4294901760 : Nat) = 65535 <<< 16 by decide, Nat.testBit_shiftLeft, show (65535 : Nat) = 2 ^ 16 - 1 by decide, Nat.testBit_two_pow_sub_one, show a / 65536 * 65536 = (a >>> 16) <<< 16 by rw [Nat.shiftRight_eq_div_pow, Nat.shiftLeft_eq], Nat.testBit_shiftLeft, Nat.testBit_shiftRight]
  by_cases h1 : 16 ≤ i
  · by_cases h2 : i < 32
    · simp [h1, show i - 16 < 16 by omega, show 16 + (i - 16) = i by omega]
    · have : a.testBit i = false := Nat.testBit_lt_two_pow (Nat.lt_of_lt_of_le (show a < 2 ^ 32 from h) (Nat.pow_le_pow_right (Nat.succ_pos 1) (Nat.le_of_not_lt h2)))
      simp [this, h1, show 16 + (i - 16) = i by omega]
  · simp [h1]
theorem and_hi (a : Nat) (h : a < 4294967296) : bits .and .u32 (a : Int) 4294901760 = ((a / 65536 * 65536 : Nat) : Int) := by
  rw [← hi_and a h]
  exact u32_and_nat a 4294901760 h (by omega)
theorem and_lo (a : Nat) (h : a < 4294967296) : bits .and .u32 (a : Int) 65535 = ((a % 65536 : Nat) : Int) := by
  have : a &&& 65535 = a % 65536 := Nat.and_two_pow_sub_one_eq_mod a 16
  rw [← this]
  exact u32_and_nat a 65535 h (by omega)
set_option maxRecDepth 100000 in
set_option maxHeartbeats 4000000 in
theorem Text_calls (x : En) (hx : x.1.length ≤ 1000000) (ha : x.2.1 < 4294967296) (w : World) (ht : Tab w) :
    Calls Tryd.prog 29 #[enV x] w fun e w' => e = .returned (.string (str (textL x))) ∧ Ext w w' := by
  obtain ⟨nm, a, hs⟩ := x
  dsimp only at hx ha
  have hE := fun W (h : Tab W) => ErrnoName_calls (a % 65536) (by omega) W h
  have hen := enL_len (a % 65536)
  have htx : textL (nm, a, hs) = if hs = false then nm else if a = 2147483648 then nm ++ [58, 107, 105, 108, 108] else if a / 65536 = 5 then nm ++ [58] ++ enL (a % 65536) else nm ++ [58] := rfl
  rw [htx]
  clear htx
  generalize enL (a % 65536) = en at *
  obtain ⟨res, hres⟩ : ∃ res, res = str (if hs = false then nm else if a = 2147483648 then nm ++ [58, 107, 105, 108, 108] else if a / 65536 = 5 then nm ++ [58] ++ en else nm ++ [58]) := ⟨_, rfl⟩
  rw [← hres]
  have hah := and_hi a ha
  have hal := and_lo a ha
  have hnl : (str nm).size ≤ 1000000 := by rw [str_size]; exact hx
  have hel : (str en).size ≤ 1000000 := by rw [str_size]; omega
  have s1 : str nm ++ (⟨#[58, 107, 105, 108, 108]⟩ : ByteArray) = str (nm ++ [58, 107, 105, 108, 108]) := by rw [← str_app]; rfl
  have s2 : str nm ++ (⟨#[58]⟩ : ByteArray) ++ str en = str (nm ++ [58] ++ en) := by rw [← str_app, ← str_app]; rfl
  have s3 : str nm ++ (⟨#[58]⟩ : ByteArray) = str (nm ++ [58]) := by rw [← str_app]; rfl
  unfold enV
  dsimp only
  have HT := Lib.hid (ht.ext ((Ext.refl w).alloc (.cells #[.string (str nm), .int .u32 (a : Int), .bool hs] 48)))
  have HXA := Lib.hid ((Ext.refl w).alloc (.cells #[.string (str nm), .int .u32 (a : Int), .bool hs] 48))
  have q0 := cells_new w [.string (str nm), .int .u32 (a : Int), .bool hs] 48 0 _ rfl
  have q1 := cells_new w [.string (str nm), .int .u32 (a : Int), .bool hs] 48 1 _ rfl
  have q2 := cells_new w [.string (str nm), .int .u32 (a : Int), .bool hs] 48 2 _ rfl
  have HhE := Lib.hid hE
  clear hE
  have Hs1 := Lib.hid s1
  clear s1
  have Hs2 := Lib.hid s2
  clear s2
  have Hs3 := Lib.hid s3
  clear s3
  clear ht hx hen
  cases hs
  · rw [if_pos rfl] at hres
    have Hhres := Lib.hid hres
    clear hres
    generalize str nm = nv at *
    go_enter Tryd.func29, Tryd.ntmps29
    go_wp2_with fail
    go_ret
    exact ⟨by rw [Hhres.out]; rfl, HXA.out⟩
  · rw [if_neg (by simp)] at hres
    by_cases hk : a = 2147483648
    · rw [if_pos hk, ← Hs1.out] at hres
      have g1 : ((a : Int) == 2147483648) = true := by rw [hk]; rfl
      have Hhres := Lib.hid hres
      clear hres
      clear hk
      generalize str nm = nv at *
      go_enter Tryd.func29, Tryd.ntmps29
      go_wp2_with fail
      go_ret
      exact ⟨by rw [Hhres.out]; rfl, HXA.out⟩
    · rw [if_neg hk] at hres
      have g1 : ((a : Int) == 2147483648) = false := by simp; omega
      clear hk
      by_cases h5 : a / 65536 = 5
      · rw [if_pos h5, ← Hs2.out] at hres
        rw [h5] at hah
        have Hhres := Lib.hid hres
        clear hres
        clear h5
        generalize str nm = nv at *
        generalize str en = ev at *
        obtain ⟨W1, hW1⟩ : ∃ W1, W1 = w.alloc (.cells #[.string nv, .int .u32 (a : Int), .bool true] 48) := ⟨_, rfl⟩
        have HW1 := Lib.hid hW1
        go_enter Tryd.func29, Tryd.ntmps29
        go_upto_region 6 with fail
        change Code.wp _ _ _ _ (w.alloc (.cells #[.string nv, .int .u32 (a : Int), .bool true] 48))
        rw [← HW1.out]
        have q0x : ∀ x : XW W1, x.w.cell? ⟨w.heap.size, 0, none⟩ = some (.string nv) := xwc (by rw [HW1.out]; exact q0)
        have q1x : ∀ x : XW W1, x.w.cell? ⟨w.heap.size, 1, none⟩ = some (.int .u32 (a : Int)) := xwc (by rw [HW1.out]; exact q1)
        have HT2 : Hid (Tab W1) := Lib.hid (by rw [HW1.out]; exact HT.out)
        have HXA2 : Hid (Ext w W1) := Lib.hid (by rw [HW1.out]; exact HXA.out)
        clear q0 q1 q2 hW1
        refine wp_region_kept (by kernel_rfl) (by kernel_rfl) ?_
        repeat (any_goals (first | go_big_quiet_step ((go_at_call 17; exact calls_kept (HhE.out _ (HT2.out.ext (XW.h _))))) | quiet_step ((go_at_call 17; exact calls_kept (HhE.out _ (HT2.out.ext (XW.h _)))))))
        all_goals (refine wpQuiet_nil ?_; intro _ hw9; obtain ⟨xq, hw8⟩ := hw9; subst hw8)
        go_wp2_with fail
        go_ret
        exact ⟨by rw [Hhres.out]; rfl, HXA2.out.trans xq.h⟩
      · rw [if_neg h5, ← Hs3.out] at hres
        have g2 : ((a / 65536 * 65536 : Nat) : Int) = ((a / 65536 * 65536 : Nat) : Int) := rfl
        obtain ⟨g, hg⟩ : ∃ g, g = a / 65536 * 65536 := ⟨_, rfl⟩
        have g3 : ((g : Int) == 327680) = false := by simp; omega
        rw [← hg] at hah
        have Hhres := Lib.hid hres
        clear hres
        clear h5 hg g2
        generalize str nm = nv at *
        go_enter Tryd.func29, Tryd.ntmps29
        go_wp2_with fail
        go_ret
        exact ⟨by rw [Hhres.out]; rfl, HXA.out⟩
set_option maxRecDepth 100000 in
set_option maxHeartbeats 4000000 in
theorem rText_calls (x : En) (hx : x.1.length ≤ 1000000) (ha : x.2.1 < 4294967296) (w : World) :
    Calls Tryd.prog 30 #[enV x] w fun e w' => e = .returned (.string (str (textL x))) ∧ Ext w w' := by
  obtain ⟨nm, a, hs⟩ := x
  dsimp only at hx ha
  have hE := fun W => rErrnoName_calls (a % 65536) (by omega) W
  have hen := enL_len (a % 65536)
  have htx : textL (nm, a, hs) = if hs = false then nm else if a = 2147483648 then nm ++ [58, 107, 105, 108, 108] else if a / 65536 = 5 then nm ++ [58] ++ enL (a % 65536) else nm ++ [58] := rfl
  rw [htx]
  clear htx
  generalize enL (a % 65536) = en at *
  obtain ⟨res, hres⟩ : ∃ res, res = str (if hs = false then nm else if a = 2147483648 then nm ++ [58, 107, 105, 108, 108] else if a / 65536 = 5 then nm ++ [58] ++ en else nm ++ [58]) := ⟨_, rfl⟩
  rw [← hres]
  have hdv : (a : Int) / 65536 = ((a / 65536 : Nat) : Int) := by simp
  have hmd : (a : Int) % 65536 = ((a % 65536 : Nat) : Int) := by simp
  have hnl : (str nm).size ≤ 1000000 := by rw [str_size]; exact hx
  have hel : (str en).size ≤ 1000000 := by rw [str_size]; omega
  have s1 : str nm ++ (⟨#[58, 107, 105, 108, 108]⟩ : ByteArray) = str (nm ++ [58, 107, 105, 108, 108]) := by rw [← str_app]; rfl
  have s2 : str nm ++ (⟨#[58]⟩ : ByteArray) ++ str en = str (nm ++ [58] ++ en) := by rw [← str_app, ← str_app]; rfl
  have s3 : str nm ++ (⟨#[58]⟩ : ByteArray) = str (nm ++ [58]) := by rw [← str_app]; rfl
  unfold enV
  dsimp only
  have HXA := Lib.hid ((Ext.refl w).alloc (.cells #[.string (str nm), .int .u32 (a : Int), .bool hs] 47))
  have q0 := cells_new w [.string (str nm), .int .u32 (a : Int), .bool hs] 47 0 _ rfl
  have q1 := cells_new w [.string (str nm), .int .u32 (a : Int), .bool hs] 47 1 _ rfl
  have q2 := cells_new w [.string (str nm), .int .u32 (a : Int), .bool hs] 47 2 _ rfl
  have HhE := Lib.hid hE
  clear hE
  have Hs1 := Lib.hid s1
  clear s1
  have Hs2 := Lib.hid s2
  clear s2
  have Hs3 := Lib.hid s3
  clear s3
  clear hx hen
  obtain ⟨g, hg⟩ : ∃ g, g = a / 65536 := ⟨_, rfl⟩
  obtain ⟨m, hm⟩ : ∃ m, m = a % 65536 := ⟨_, rfl⟩
  rw [← hg] at hdv hres
  rw [← hm] at hmd HhE
  have Hhg := Lib.hid hg
  clear hg
  have Hhm := Lib.hid hm
  clear hm
  cases hs
  · rw [if_pos rfl] at hres
    have Hhres := Lib.hid hres
    clear hres
    generalize str nm = nv at *
    go_enter Tryd.func30, Tryd.ntmps30
    go_wp2_with fail
    go_ret
    exact ⟨by rw [Hhres.out]; rfl, HXA.out⟩
  · rw [if_neg (by simp)] at hres
    by_cases hk : a = 2147483648
    · rw [if_pos hk, ← Hs1.out] at hres
      have g1 : ((a : Int) == 2147483648) = true := by rw [hk]; rfl
      have Hhres := Lib.hid hres
      clear hres
      clear hk
      generalize str nm = nv at *
      go_enter Tryd.func30, Tryd.ntmps30
      go_wp2_with fail
      go_ret
      exact ⟨by rw [Hhres.out]; rfl, HXA.out⟩
    · rw [if_neg hk] at hres
      have g1 : ((a : Int) == 2147483648) = false := by simp; omega
      clear hk
      by_cases h5 : g = 5
      · rw [if_pos h5, ← Hs2.out] at hres
        have g2 : ((g : Int) == 5) = true := by rw [h5]; rfl
        have Hhres := Lib.hid hres
        clear hres
        clear h5
        generalize str nm = nv at *
        generalize str en = ev at *
        obtain ⟨W1, hW1⟩ : ∃ W1, W1 = w.alloc (.cells #[.string nv, .int .u32 (a : Int), .bool true] 47) := ⟨_, rfl⟩
        have HW1 := Lib.hid hW1
        go_enter Tryd.func30, Tryd.ntmps30
        go_upto_region 6 with fail
        change Code.wp _ _ _ _ (w.alloc (.cells #[.string nv, .int .u32 (a : Int), .bool true] 47))
        rw [← HW1.out]
        have q0x : ∀ x : XW W1, x.w.cell? ⟨w.heap.size, 0, none⟩ = some (.string nv) := xwc (by rw [HW1.out]; exact q0)
        have q1x : ∀ x : XW W1, x.w.cell? ⟨w.heap.size, 1, none⟩ = some (.int .u32 (a : Int)) := xwc (by rw [HW1.out]; exact q1)
        have HXA2 : Hid (Ext w W1) := Lib.hid (by rw [HW1.out]; exact HXA.out)
        clear q0 q1 q2 hW1
        refine wp_region_kept (by kernel_rfl) (by kernel_rfl) ?_
        repeat (any_goals (first | go_big_quiet_step ((go_at_call 24; exact calls_kept (HhE.out _))) | quiet_step ((go_at_call 24; exact calls_kept (HhE.out _)))))
        all_goals (refine wpQuiet_nil ?_; intro _ hw9; obtain ⟨xq, hw8⟩ := hw9; subst hw8)
        go_wp2_with fail
        go_ret
        exact ⟨by rw [Hhres.out]; rfl, HXA2.out.trans xq.h⟩
      · rw [if_neg h5, ← Hs3.out] at hres
        have g2 : ((g : Int) == 5) = false := by simp; omega
        have Hhres := Lib.hid hres
        clear hres
        clear h5
        generalize str nm = nv at *
        go_enter Tryd.func30, Tryd.ntmps30
        go_wp2_with fail
        go_ret
        exact ⟨by rw [Hhres.out]; rfl, HXA.out⟩
end L10
end Go.Proofs.YtojlpocpcakcbaaDoor
