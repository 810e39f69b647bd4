/- Layer 20: plain: what is written is read; the walk of awake. (Printed by wip/tools/mkactu.py.) -/
import Derived.Test.YtjgglocabjpmeaaDoorActT
namespace Go.Proofs.YtjgglocabjpmeaaDoor
open Go.RowKit Go.Shelf Go.Sort V
attribute [local go_sem] Oper.semAt_some
namespace L20
theorem hd1_app {c : UInt8} : ∀ {a : List UInt8} (_ : a.contains c = false) (rest : List UInt8), hd1 c (a ++ c :: rest) = a ∧ tl1 c (a ++ c :: rest) = rest
  | [], _, rest => by
    unfold hd1 tl1
    rw [List.nil_append, List.takeWhile_cons_of_neg (p := (· != _)) (by simp), List.dropWhile_cons_of_neg (p := (· != _)) (by simp)]
    exact ⟨rfl, rfl⟩
  | x :: r, h, rest => by
    rw [List.contains_cons, Bool.or_eq_false_iff] at h
    have hx : (x != c) = true := by have := h.1; simp at this; simp; exact fun e => this e.symm
    obtain ⟨h1, h2⟩ := hd1_app (c := c) (a := r) h.2 rest
    unfold hd1 tl1 at *
    rw [List.cons_append, List.takeWhile_cons_of_pos (p := (· != _)) hx, List.dropWhile_cons_of_pos (p := (· != _)) hx, h1, h2]
    exact ⟨rfl, rfl⟩
/-- a row of digits read on from a number -/
def valF (acc : Nat) (l : List UInt8) : Nat := l.foldl (fun a c => a * 10 + (c.toNat - 48)) acc
def isD (c : UInt8) : Bool := decide (48 ≤ c.toNat ∧ c.toNat ≤ 57)
theorem valF_ge : ∀ (l : List UInt8) (acc : Nat), acc ≤ valF acc l
  | [], _ => Nat.le_refl _
  | c :: r, acc => Nat.le_trans (by omega) (valF_ge r (acc * 10 + (c.toNat - 48)))
theorem parse_val {M : Nat} (hM : M ≤ 65535) : ∀ (l : List UInt8) (acc : Nat), l.all isD = true → valF acc l ≤ M → Lib.parseUintM M acc l = .ok (valF acc l)
  | [], _, _, _ => rfl
  | c :: r, acc, ha, hv => by
    rw [List.all_cons, Bool.and_eq_true] at ha
    have hc := of_decide_eq_true ha.1
    have h1 := valF_ge r (acc * 10 + (c.toNat - 48))
    have hv' : valF (acc * 10 + (c.toNat - 48)) r ≤ M := hv
    unfold Lib.parseUintM
    rw [if_pos hc, if_neg (by omega), if_neg (by omega)]
    exact parse_val hM r _ ha.2 hv'
theorem dig_one (n : Nat) (h : n < 10) : (UInt8.ofNat (48 + n)).toNat = 48 + n := by rw [UInt8.toNat_ofNat']; omega
theorem dec_val : ∀ n : Nat, (Lib.decDigits n).all isD = true ∧ valF 0 (Lib.decDigits n) = n := by
  intro n
  induction n using Nat.strongRecOn with
  | _ n ih =>
    by_cases h : n < 10
    · rw [dec_one n h]
      refine ⟨?_, ?_⟩
      · simp only [List.all_cons, List.all_nil, Bool.and_true]
        unfold isD
        rw [dig_one n h]
        exact decide_eq_true (by omega)
      · show 0 * 10 + ((UInt8.ofNat (48 + n)).toNat - 48) = n
        rw [dig_one n h]; omega
    · obtain ⟨h1, h2⟩ := ih (n / 10) (by omega)
      have h9 : n % 10 < 10 := Nat.mod_lt _ (by omega)
      rw [dec_more n h]
      refine ⟨?_, ?_⟩
      · rw [List.all_append, h1, Bool.true_and]
        simp only [List.all_cons, List.all_nil, Bool.and_true]
        unfold isD
        rw [dig_one _ h9]
        exact decide_eq_true (by omega)
      · unfold valF at *
        rw [List.foldl_append, h2]
        show n / 10 * 10 + ((UInt8.ofNat (48 + n % 10)).toNat - 48) = n
        rw [dig_one _ h9]; omega
theorem dec_ne (n : Nat) : Lib.decDigits n ≠ [] := by
  by_cases h : n < 10
  · rw [dec_one n h]; exact List.cons_ne_nil _ _
  · rw [dec_more n h]; simp
theorem parsU_dec (d : Nat) (h : d ≤ 65535) : parsU (Lib.decDigits d) = (d, true) := by
  obtain ⟨h1, h2⟩ := dec_val d
  have e : Lib.parseUintB 16 (Lib.decDigits d) = .ok d := by
    unfold Lib.parseUintB
    rw [if_neg (dec_ne d)]
    have := parse_val (M := 2 ^ 16 - 1) (by decide) (Lib.decDigits d) 0 h1 (by rw [h2]; omega)
    rw [h2] at this
    exact this
  unfold parsU
  rw [e]
theorem nms_apart : ∀ i, i < 8 → ∀ j, j < i → nms.getD j [] ≠ nms.getD i [] := by decide
theorem nms_32 : ∀ i, i < 8 → (nms.getD i []).contains 32 = false := by decide
theorem code_of (i q : Nat) (hi : i < 8) (h : rk q = (i : Int)) : codes.getD i 0 = q * 65536 := by
  have hq := rk_nm q
  have key : ∀ q, (∃ j : Nat, j < 8 ∧ rcodes.getD j 0 = q ∧ rk q = (j : Int) ∧ codes.getD j 0 = q * 65536) ∨ rk q = -1 := by
    intro q
    by_cases hh : ∃ j, j < 8 ∧ rcodes.getD j 0 = q
    · obtain ⟨j, hj, rfl⟩ := hh
      exact .inl ⟨j, hj, rfl, rk_hit j _ hj rfl, by rcases lt8 j hj with rfl | rfl | rfl | rfl | rfl | rfl | rfl | rfl <;> rfl⟩
    · exact .inr (rk_miss q fun j hj e => hh ⟨j, hj, e⟩)
  rcases key q with ⟨j, hj, -, h2, h3⟩ | h2
  · obtain rfl : j = i := by omega
    exact h3
  · omega
/-- what is written is read -/
theorem parA_text (a : Nat) (hk : kn a = true) : parA (textA a) = (a, 0) := by
  unfold kn at hk
  have hk := of_decide_eq_true hk
  rcases rk_nm (a / 65536) with ⟨h1, -⟩ | ⟨i, hi, h1, h2, h3, h5⟩
  · omega
  · have hc := code_of i _ hi h1
    have hd : a % 65536 ≤ 65535 := by omega
    obtain ⟨hc1, hc2, hc3⟩ := codes_or i (a % 65536) hi hd
    have hsum : codes.getD i 0 ||| a % 65536 = a := by rw [hc2, hc]; omega
    have h32 := nms_32 i hi
    have hap := nms_apart i hi
    rw [← h2] at h32 hap
    have ht : textA a = if a % 65536 ≠ 0 ∨ a / 65536 = 5 then nm (a / 65536) ++ 32 :: Lib.decDigits (a % 65536) else nm (a / 65536) := by unfold textA; rw [if_neg h3]
    by_cases hb : a % 65536 ≠ 0 ∨ a / 65536 = 5
    · rw [if_pos hb] at ht
      obtain ⟨e1, e2⟩ := hd1_app h32 (Lib.decDigits (a % 65536))
      rw [← ht] at e1 e2
      rw [parA_at hi (fun j hj => by rw [e1]; exact hap j hj) (by rw [e1, h2])]
      unfold tryA
      rw [e2, parsU_dec _ hd, hsum, if_neg]
      intro hh
      rcases hh with hh | hh
      · simp at hh
      · exact hh rfl
    · rw [if_neg hb] at ht
      have h0 : a % 65536 = 0 := by omega
      have hcn : (textA a).contains 32 = false := by rw [ht]; exact h32
      obtain ⟨e1, e2⟩ := hd1_all hcn
      rw [parA_at hi (fun j hj => by rw [e1, ht]; exact hap j hj) (by rw [e1, ht, h2])]
      unfold tryA
      have hx : parsU [] = (0, false) := rfl
      rw [h0] at hsum
      rw [e2, hx, hcn, hsum, if_neg]
      intro hh
      rcases hh with hh | hh
      · simp at hh
      · exact hh rfl
theorem textA_no (a : Nat) (hk : kn a = false) : textA a = [] := by
  unfold kn at hk
  have hk := of_decide_eq_false hk
  rcases rk_nm (a / 65536) with ⟨-, h2⟩ | ⟨i, hi, h1, -⟩
  · unfold textA; rw [if_pos h2]
  · omega
theorem parA_nil : parA [] = (0, 2) := parA_no (s := []) (by decide)
/-- what is read has that text -/
theorem parA_ok (s : List UInt8) : (parA s).1 < 4294967296 ∧ (((parA s).2 = 0 ∧ textA (parA s).1 = s) ∨ parA s = (0, 2)) := by
  unfold parA
  cases hf : (List.range 8).find? fun k => decide (nms.getD k [] = hd1 32 s) with
  | none => exact ⟨by show 0 < 4294967296; omega, .inr rfl⟩
  | some k =>
    have hk : k < 8 := by have := List.mem_of_find?_eq_some hf; simpa using this
    obtain ⟨hc1, hc2, hc3⟩ := codes_or k (parsU (tl1 32 s)).1 hk (parsU_le _)
    have key : tryA s k = (0, 2) ∨ (tryA s k = (codes.getD k 0 ||| (parsU (tl1 32 s)).1, 0) ∧ textA (codes.getD k 0 ||| (parsU (tl1 32 s)).1) = s) := by
      unfold tryA
      split
      · exact .inl rfl
      · rename_i h
        exact .inr ⟨rfl, Classical.not_not.1 fun e => h (.inr e)⟩
    show (tryA s k).1 < 4294967296 ∧ (((tryA s k).2 = 0 ∧ textA (tryA s k).1 = s) ∨ tryA s k = (0, 2))
    rcases key with h | ⟨h, h2⟩
    · rw [h]; exact ⟨by decide, .inr rfl⟩
    · rw [h]; exact ⟨by show codes.getD k 0 ||| _ < _; omega, .inl ⟨rfl, h2⟩⟩
theorem encU_len (x : Nat) : (encU x).length = 1 := rfl
theorem encU_one (x : Nat) : ∀ u ∈ encU x, u.oneCell' = true := by intro u hu; simp [encU] at hu; subst hu; rfl
theorem awT0 : textA 327680 = [101, 114, 114, 110, 111, 32, 48] := by
  show nm 5 ++ 32 :: Lib.decDigits 0 = _
  rw [dec_one 0 (by decide)]
  rfl
theorem awT1 : textA 327693 = [101, 114, 114, 110, 111, 32, 49, 51] := by
  show nm 5 ++ 32 :: Lib.decDigits 13 = _
  rw [dec_more 13 (by decide), show 13 / 10 = 1 from rfl, dec_one 1 (by decide)]
  rfl
theorem awT2 : textA 2147418112 = [97, 108, 108, 111, 119] := rfl
theorem awT3 : textA 196615 = [116, 114, 97, 112, 32, 55] := by
  show nm 3 ++ 32 :: Lib.decDigits 7 = _
  rw [dec_one 7 (by decide)]
  rfl
theorem awT4 : textA 262144 = [] := rfl
theorem awP0 : parA [97, 108, 108, 111, 119, 32, 48] = (0, 2) := by decide +kernel
theorem awP1 : parA [101, 114, 114, 110, 111, 32, 49, 51] = (327693, 0) := by rw [← awT1]; exact parA_text _ (by decide)
theorem awC0 : comb [2147418112, 327693, 2147221504] = 327693 := by decide
theorem awC1 : comb [327693, 327681] = 327681 := by decide
theorem awC2 : comb [] = 2147418112 := by decide
theorem awC3 : comb [0, 2147483648] = 2147483648 := by decide
theorem awL0 : less 2147483648 0 = true := by decide
theorem awL1 : less 327681 327682 = false := by decide
set_option maxRecDepth 100000 in
set_option maxHeartbeats 4000000 in
theorem awake20_calls (w : World) (ht : Tab w) : Calls Tryd.prog 12 #[] w fun e w' => e = .returned (.bool true) ∧ Ext w w' := by
  have hP0 : ∀ W : World, Tab W → Calls Tryd.prog 10 #[.string ⟨#[97, 108, 108, 111, 119, 32, 48]⟩] W fun e w' => e = .returned (.tuple #[.int .u32 0, .int .i64 2]) ∧ Ext W w' := fun W h => by
    have h1 := Parse_calls ⟨#[97, 108, 108, 111, 119, 32, 48]⟩ (by decide) W h
    rw [show bytes ⟨#[97, 108, 108, 111, 119, 32, 48]⟩ = [97, 108, 108, 111, 119, 32, 48] from rfl, awP0] at h1
    exact h1
  have hP1 : ∀ W : World, Tab W → Calls Tryd.prog 10 #[.string ⟨#[101, 114, 114, 110, 111, 32, 49, 51]⟩] W fun e w' => e = .returned (.tuple #[.int .u32 327693, .int .i64 0]) ∧ Ext W w' := fun W h => by
    have h1 := Parse_calls ⟨#[101, 114, 114, 110, 111, 32, 49, 51]⟩ (by decide) W h
    rw [show bytes ⟨#[101, 114, 114, 110, 111, 32, 49, 51]⟩ = [101, 114, 114, 110, 111, 32, 49, 51] from rfl, awP1] at h1
    exact h1
  have hT0 : ∀ W : World, Tab W → Calls Tryd.prog 8 #[.int .u32 327680] W fun e w' => e = .returned (.string ⟨#[101, 114, 114, 110, 111, 32, 48]⟩) ∧ Ext W w' := fun W h => by
    have h1 := Text_calls 327680 (by decide) W h
    rw [awT0] at h1
    exact h1
  have hT1 : ∀ W : World, Tab W → Calls Tryd.prog 8 #[.int .u32 327693] W fun e w' => e = .returned (.string ⟨#[101, 114, 114, 110, 111, 32, 49, 51]⟩) ∧ Ext W w' := fun W h => by
    have h1 := Text_calls 327693 (by decide) W h
    rw [awT1] at h1
    exact h1
  have hT2 : ∀ W : World, Tab W → Calls Tryd.prog 8 #[.int .u32 2147418112] W fun e w' => e = .returned (.string ⟨#[97, 108, 108, 111, 119]⟩) ∧ Ext W w' := fun W h => by
    have h1 := Text_calls 2147418112 (by decide) W h
    rw [awT2] at h1
    exact h1
  have hT3 : ∀ W : World, Tab W → Calls Tryd.prog 8 #[.int .u32 196615] W fun e w' => e = .returned (.string ⟨#[116, 114, 97, 112, 32, 55]⟩) ∧ Ext W w' := fun W h => by
    have h1 := Text_calls 196615 (by decide) W h
    rw [awT3] at h1
    exact h1
  have hT4 : ∀ W : World, Tab W → Calls Tryd.prog 8 #[.int .u32 262144] W fun e w' => e = .returned (.string ⟨#[]⟩) ∧ Ext W w' := fun W h => by
    have h1 := Text_calls 262144 (by decide) W h
    rw [awT4] at h1
    exact h1
  have hC0 : ∀ W : World, Calls Tryd.prog 13 #[.slice (some ⟨W.heap.size, 0, none⟩) 3 3] (W.alloc (.cells #[.int .u32 2147418112, .int .u32 327693, .int .u32 2147221504] 22)) fun e w' => e = .returned (.int .u32 327693) ∧ Ext (W.alloc (.cells #[.int .u32 2147418112, .int .u32 327693, .int .u32 2147221504] 22)) w' := fun W => by
    have h1 := Combine_calls _ [2147418112, 327693, 2147221504] (by decide) (by decide) _ (rd_lit encU_len W [2147418112, 327693, 2147221504] 22 W.heap.size rfl)
    rw [awC0] at h1
    exact h1
  have hC1 : ∀ W : World, Calls Tryd.prog 13 #[.slice (some ⟨W.heap.size, 0, none⟩) 2 2] (W.alloc (.cells #[.int .u32 327693, .int .u32 327681] 22)) fun e w' => e = .returned (.int .u32 327681) ∧ Ext (W.alloc (.cells #[.int .u32 327693, .int .u32 327681] 22)) w' := fun W => by
    have h1 := Combine_calls _ [327693, 327681] (by decide) (by decide) _ (rd_lit encU_len W [327693, 327681] 22 W.heap.size rfl)
    rw [awC1] at h1
    exact h1
  have hC2 : ∀ W : World, Calls Tryd.prog 13 #[.slice none 0 0] W fun e w' => e = .returned (.int .u32 2147418112) ∧ Ext W w' := fun W => by
    have h1 := Combine_calls _ [] (by decide) (by decide) _ (rd_none W 1 encU)
    rw [awC2] at h1
    exact h1
  have hC3 : ∀ W : World, Calls Tryd.prog 13 #[.slice (some ⟨W.heap.size, 0, none⟩) 2 2] (W.alloc (.cells #[.int .u32 0, .int .u32 2147483648] 22)) fun e w' => e = .returned (.int .u32 2147483648) ∧ Ext (W.alloc (.cells #[.int .u32 0, .int .u32 2147483648] 22)) w' := fun W => by
    have h1 := Combine_calls _ [0, 2147483648] (by decide) (by decide) _ (rd_lit encU_len W [0, 2147483648] 22 W.heap.size rfl)
    rw [awC3] at h1
    exact h1
  have hL0 : ∀ W : World, Calls Tryd.prog 14 #[.int .u32 2147483648, .int .u32 0] W fun e w' => e = .returned (.bool true) ∧ W = w' := fun W => by
    have h1 := Less_calls 2147483648 0 (by decide) (by decide) W
    rw [awL0] at h1
    exact h1
  have hL1 : ∀ W : World, Calls Tryd.prog 14 #[.int .u32 327681, .int .u32 327682] W fun e w' => e = .returned (.bool false) ∧ W = w' := fun W => by
    have h1 := Less_calls 327681 327682 (by decide) (by decide) W
    rw [awL1] at h1
    exact h1
  have HhP0 := Lib.hid hP0
  clear hP0
  have HhP1 := Lib.hid hP1
  clear hP1
  have HhC0 := Lib.hid hC0
  clear hC0
  have HhC1 := Lib.hid hC1
  clear hC1
  have HhC2 := Lib.hid hC2
  clear hC2
  have HhC3 := Lib.hid hC3
  clear hC3
  have HhL0 := Lib.hid hL0
  clear hL0
  have HhL1 := Lib.hid hL1
  clear hL1
  have HhT0 := Lib.hid hT0
  clear hT0
  have HhT1 := Lib.hid hT1
  clear hT1
  have HhT2 := Lib.hid hT2
  clear hT2
  have HhT3 := Lib.hid hT3
  clear hT3
  have HhT4 := Lib.hid hT4
  clear hT4
  have HT := Lib.hid ht
  have HX0 := Lib.hid (Ext.refl w)
  clear ht
  go_enter Tryd.func12, Tryd.ntmps12
  go_wp2_with fail
  refine (HhP0.out _ (HT.out.ext HX0.out)).mono ?_
  rintro _ w1 ⟨rfl, hx⟩
  have HX1 := Lib.hid (HX0.out.trans hx)
  clear hx
  go_wp2_with fail
  refine (HhP1.out _ (HT.out.ext HX1.out)).mono ?_
  rintro _ w2 ⟨rfl, hx⟩
  have HX2 := Lib.hid (HX1.out.trans hx)
  clear hx
  go_wp2_with fail
  refine (HhC0.out _).mono ?_
  rintro _ w3 ⟨rfl, hx⟩
  have HX3 := Lib.hid (HX2.out.trans (((Ext.refl _).alloc _).trans hx))
  clear hx
  go_wp2_with fail
  refine (HhC1.out _).mono ?_
  rintro _ w4 ⟨rfl, hx⟩
  have HX4 := Lib.hid (HX3.out.trans (((Ext.refl _).alloc _).trans hx))
  clear hx
  go_wp2_with fail
  refine (HhC2.out _).mono ?_
  rintro _ w5 ⟨rfl, hx⟩
  have HX5 := Lib.hid (HX4.out.trans hx)
  clear hx
  go_wp2_with fail
  refine (HhC3.out _).mono ?_
  rintro _ w6 ⟨rfl, hx⟩
  have HX6 := Lib.hid (HX5.out.trans (((Ext.refl _).alloc _).trans hx))
  clear hx
  go_wp2_with fail
  refine (HhL0.out _).mono ?_
  rintro _ _ ⟨rfl, rfl⟩
  go_wp2_with fail
  refine (HhL1.out _).mono ?_
  rintro _ _ ⟨rfl, rfl⟩
  go_wp2_with fail
  refine (HhT0.out _ (HT.out.ext HX6.out)).mono ?_
  rintro _ w7 ⟨rfl, hx⟩
  have HX7 := Lib.hid (HX6.out.trans hx)
  clear hx
  go_wp2_with fail
  refine (HhT1.out _ (HT.out.ext HX7.out)).mono ?_
  rintro _ w8 ⟨rfl, hx⟩
  have HX8 := Lib.hid (HX7.out.trans hx)
  clear hx
  go_wp2_with fail
  refine (HhT2.out _ (HT.out.ext HX8.out)).mono ?_
  rintro _ w9 ⟨rfl, hx⟩
  have HX9 := Lib.hid (HX8.out.trans hx)
  clear hx
  go_wp2_with fail
  refine (HhT3.out _ (HT.out.ext HX9.out)).mono ?_
  rintro _ w10 ⟨rfl, hx⟩
  have HX10 := Lib.hid (HX9.out.trans hx)
  clear hx
  go_wp2_with fail
  refine (HhT4.out _ (HT.out.ext HX10.out)).mono ?_
  rintro _ w11 ⟨rfl, hx⟩
  have HX11 := Lib.hid (HX10.out.trans hx)
  clear hx
  go_wp2_with fail
  go_ret
  exact ⟨rfl, HX11.out⟩
end L20
end Go.Proofs.YtjgglocabjpmeaaDoor
