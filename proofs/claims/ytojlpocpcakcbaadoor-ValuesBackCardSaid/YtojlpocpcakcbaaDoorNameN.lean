/- Layer 10: the walk of the law NamesBack. (Printed by wip/tools/mknamen.py.) -/
import Derived.Test.YtojlpocpcakcbaaDoorNameI
import Derived.Test.YtojlpocpcakcbaaDoorNameJ
namespace Go.Proofs.YtojlpocpcakcbaaDoor
open Go.RowKit Go.Shelf Go.Sort V
attribute [local go_sem] Oper.semAt_some
namespace L10
theorem err_back : ∀ x ∈ errT, findL errT x.1 160 = (x.2, 0) ∧ x.2 ≤ 4095 ∧ x.1 ≠ [] := by decide +kernel
theorem fam_back : ∀ x ∈ famT, findL famT x.1 180 = (x.2, 0) ∧ ofL famT x.2 = x.1 := by decide +kernel
theorem sp_back : ∀ x ∈ spT, findL spT x.1 181 = (x.2, 0) ∧ ofL spT x.2 = x.1 := by decide +kernel
theorem ofL_mem {l : List Nm} {n : Nat} (h : ofL l n ≠ []) : ∃ x ∈ l, x.2 = n ∧ ofL l n = x.1 := by
  unfold ofL at h ⊢
  cases hf : l.find? (fun x => x.2 == n) with
  | none => rw [hf] at h; exact absurd rfl h
  | some x => exact ⟨x, List.mem_of_find?_eq_some hf, by simpa using List.find?_some hf, rfl⟩
theorem findL_mem {l : List Nm} {s : List UInt8} {no : Int} (hno : no ≠ 0) (h : (findL l s no).2 = 0) : ∃ x ∈ l, x.1 = s ∧ findL l s no = (x.2, 0) := by
  unfold findL at h ⊢
  cases hf : l.find? (fun x => x.1 == s) with
  | none => rw [hf] at h; exact absurd h hno
  | some x => exact ⟨x, List.mem_of_find?_eq_some hf, by simpa using List.find?_some hf, rfl⟩
theorem isD_digit (d : Nat) (h : d < 10) : isD (UInt8.ofNat (48 + d)) = true ∧ (UInt8.ofNat (48 + d)).toNat - 48 = d := by
  have : (UInt8.ofNat (48 + d)).toNat = 48 + d := by rw [UInt8.toNat_ofNat']; omega
  unfold isD
  rw [this]
  exact ⟨by simp; omega, by omega⟩
theorem dec_good : ∀ n : Nat, (Lib.decDigits n).all isD = true ∧ valL (Lib.decDigits n) = n ∧ Lib.decDigits n ≠ [] := by
  intro n
  induction n using Nat.strongRecOn with
  | _ n ih =>
    rw [Lib.decDigits]
    split
    · rename_i h
      obtain ⟨h1, h2⟩ := isD_digit n h
      refine ⟨by simpa using h1, ?_, by simp⟩
      show 10 * 0 + ((UInt8.ofNat (48 + n)).toNat - 48) = n
      omega
    · rename_i h
      obtain ⟨a1, a2, a3⟩ := ih (n / 10) (by omega)
      obtain ⟨h1, h2⟩ := isD_digit (n % 10) (Nat.mod_lt _ (by omega))
      refine ⟨?_, ?_, by simp⟩
      · rw [List.all_append, a1]; simpa using h1
      · rw [valL_snoc, a2, h2]; omega
theorem dec_len4 (n : Nat) (h : n ≤ 4095) : 1 ≤ (Lib.decDigits n).length ∧ (Lib.decDigits n).length ≤ 4 := by
  have key : ∀ (k n : Nat), n < 10 ^ (k + 1) → (Lib.decDigits n).length ≤ k + 1 := by
    intro k
    induction k with
    | zero => intro n h; rw [Lib.decDigits, dif_pos (by omega)]; simp
    | succ k ih =>
      intro n h
      rw [Lib.decDigits]
      split
      · simp
      · have := ih (n / 10) (by rw [Nat.pow_succ] at h; omega)
        rw [List.length_append, List.length_singleton]; omega
  exact ⟨List.length_pos_iff.2 (dec_good n).2.2, key 3 n (by omega)⟩
theorem err_nodig : ∀ x ∈ errT, x.1.all isD = false := by decide +kernel
theorem enL_back (n : Nat) (h : n ≤ 4095) : enL n ≠ [] ∧ errnoL (enL n) = (n, 0) := by
  unfold enL
  by_cases h0 : ofL errT n = []
  · rw [if_pos ⟨h0, h⟩]
    obtain ⟨a1, a2, a3⟩ := dec_good n
    refine ⟨a3, ?_⟩
    have hf : findL errT (Lib.decDigits n) 160 = (0, 160) := by
      unfold findL
      rw [List.find?_eq_none.2]
      intro x hx he
      have := err_nodig x hx
      rw [show x.1 = Lib.decDigits n by simpa using he, a1] at this
      cases this
    unfold errnoL
    rw [hf, if_neg (by simp)]
    unfold numL
    obtain ⟨l1, l2⟩ := dec_len4 n h
    rw [if_pos ⟨a1, l1, l2, by rw [a2]; exact h⟩, a2]
  · rw [if_neg (fun hh => h0 hh.1)]
    obtain ⟨x, hx, hn, he⟩ := ofL_mem h0
    refine ⟨h0, ?_⟩
    rw [he]
    unfold errnoL
    rw [(err_back x hx).1, if_pos rfl, hn]
theorem enL_none (n : Nat) (h : 4095 < n) : enL n = [] := by
  unfold enL
  rw [if_neg (fun hh => by omega)]
  by_cases h0 : ofL errT n = []
  · exact h0
  · obtain ⟨x, hx, hn, -⟩ := ofL_mem h0
    have := (err_back x hx).2.1
    omega
theorem enL_len (n : Nat) : (enL n).length ≤ 1000 := by
  unfold enL
  split
  · rename_i h; have := (dec_len4 n h.2).2; omega
  · by_cases h0 : ofL errT n = []
    · rw [h0]; exact Nat.zero_le _
    · obtain ⟨x, hx, -, he⟩ := ofL_mem h0
      rw [he]
      have : ∀ x ∈ errT, x.1.length ≤ 1000 := by decide
      exact this x hx
theorem findS_lt (s : List UInt8) (no : Int) : (findL spT s no).1 < 18446744073709551616 := by
  have h : ∀ x ∈ spT, x.2 < 18446744073709551616 := by decide
  unfold findL
  split
  · rename_i x hx
    exact h x (List.mem_of_find?_eq_some hx)
  · show 0 < 18446744073709551616; omega
set_option maxRecDepth 100000 in
set_option maxHeartbeats 16000000 in
theorem NamesBack_calls (n fl : Nat) (s : ByteArray) (hn : n < 4294967296) (hfl : fl < 18446744073709551616) (w : World) (ht : Tab w) : Calls Tryd.prog 4 #[.int .u32 (n : Int), .int .u64 (fl : Int), .string s] w fun e w' => e = .returned (.bool true) ∧ Ext w w' := by
  have hA := fun W (h : Tab W) => awake10_calls W h
  by_cases hl : 200 < s.size
  · have h1 : decide (200 < s.size) = true := decide_eq_true hl
    have h2 : decide ((200 : Int) < (s.size : Int)) = true := decide_eq_true (by omega)
    have HT := Lib.hid ht
    clear ht
    have HhA := Lib.hid hA
    clear hA
    go_enter Tryd.func4, Tryd.ntmps4
    go_wp2_with fail
    refine (HhA.out _ HT.out).mono ?_
    rintro e w1 ⟨rfl, hx1⟩
    go_wp2_with fail
    go_ret
    exact ⟨rfl, hx1⟩
  have h1 : decide (200 < s.size) = false := decide_eq_false hl
  have h2 : decide ((200 : Int) < (s.size : Int)) = false := decide_eq_false (by omega)
  have hEN := fun W (h : Tab W) => ErrnoName_calls n hn W h
  have hE := fun W => Errno_calls (str (enL n)) (by rw [str_size]; have := enL_len n; omega) W
  have hFN := fun W => FamilyName_calls n W
  have hF := fun W => Family_calls (str (ofL famT n)) W
  have hSN := fun W => SpaceName_calls fl W
  have hS := fun W => Space_calls (str (ofL spT fl)) W
  have hFs := fun W => Family_calls s W
  have hSs := fun W => Space_calls s W
  have hFA := fun m W => FamilyName_calls m W
  have hSB := fun m W => SpaceName_calls m W
  rw [bytes_str] at hE hF hS
  have c1 : ((str (enL n)).toList.isEmpty = false ∧ decide (n ≤ 4095) = true ∧ decide ((n : Int) ≤ 4095) = true ∧ errnoL (enL n) = (n, 0)) ∨ ((str (enL n)).toList.isEmpty = true ∧ decide (n ≤ 4095) = false ∧ decide ((n : Int) ≤ 4095) = false ∧ errnoL (enL n) = errnoL (enL n)) := by
    rw [str_emp]
    by_cases h9 : n ≤ 4095
    · obtain ⟨b1, b2⟩ := enL_back n h9
      exact .inl ⟨decide_eq_false b1, decide_eq_true h9, decide_eq_true (by omega), b2⟩
    · exact .inr ⟨decide_eq_true (enL_none n (by omega)), decide_eq_false h9, decide_eq_false (by omega), rfl⟩
  have c2 : ((str (ofL famT n)).toList.isEmpty = false ∧ findL famT (ofL famT n) 180 = (n, 0)) ∨ ((str (ofL famT n)).toList.isEmpty = true ∧ findL famT (ofL famT n) 180 = findL famT (ofL famT n) 180) := by
    rw [str_emp]
    by_cases h0 : ofL famT n = []
    · exact .inr ⟨decide_eq_true h0, rfl⟩
    · obtain ⟨x, hx, hn, he⟩ := ofL_mem h0
      exact .inl ⟨decide_eq_false h0, by rw [he, (fam_back x hx).1, hn]⟩
  have c3 : ((str (ofL spT fl)).toList.isEmpty = false ∧ findL spT (ofL spT fl) 181 = (fl, 0)) ∨ ((str (ofL spT fl)).toList.isEmpty = true ∧ findL spT (ofL spT fl) 181 = findL spT (ofL spT fl) 181) := by
    rw [str_emp]
    by_cases h0 : ofL spT fl = []
    · exact .inr ⟨decide_eq_true h0, rfl⟩
    · obtain ⟨x, hx, hn, he⟩ := ofL_mem h0
      exact .inl ⟨decide_eq_false h0, by rw [he, (sp_back x hx).1, hn]⟩
  have c4 : ((findL famT (bytes s) 180).2 = 0 ∧ str (ofL famT (findL famT (bytes s) 180).1) = s) ∨ (findL famT (bytes s) 180).2 = 180 := by
    rcases findL_ok famT (bytes s) 180 with h | h
    · obtain ⟨x, hx, he, hf⟩ := findL_mem (by decide) h
      exact .inl ⟨h, by rw [hf]; show str (ofL famT x.2) = s; rw [(fam_back x hx).2, he, str_bytes]⟩
    · exact .inr h
  have c5 : ((findL spT (bytes s) 181).2 = 0 ∧ str (ofL spT (findL spT (bytes s) 181).1) = s) ∨ (findL spT (bytes s) 181).2 = 181 := by
    rcases findL_ok spT (bytes s) 181 with h | h
    · obtain ⟨x, hx, he, hf⟩ := findL_mem (by decide) h
      exact .inl ⟨h, by rw [hf]; show str (ofL spT x.2) = s; rw [(sp_back x hx).2, he, str_bytes]⟩
    · exact .inr h
  generalize errnoL (enL n) = R1 at *
  generalize findL famT (ofL famT n) 180 = R2 at *
  generalize findL spT (ofL spT fl) 181 = R3 at *
  generalize findL famT (bytes s) 180 = R4 at *
  generalize findL spT (bytes s) 181 = R5 at *
  obtain ⟨r1, q1⟩ := R1
  obtain ⟨r2, q2⟩ := R2
  obtain ⟨r3, q3⟩ := R3
  obtain ⟨r4, q4⟩ := R4
  obtain ⟨r5, q5⟩ := R5
  have hFA4 := hFA r4
  have hSB5 := hSB r5
  dsimp only at *
  generalize str (enL n) = t1 at *
  generalize str (ofL famT n) = t2 at *
  generalize str (ofL spT fl) = t3 at *
  generalize str (ofL famT r4) = t4 at *
  generalize str (ofL spT r5) = t5 at *
  have HT := Lib.hid ht
  clear ht hFA hSB
  have HhA := Lib.hid hA
  clear hA
  have HhEN := Lib.hid hEN
  clear hEN
  have HhE := Lib.hid hE
  clear hE
  have HhFN := Lib.hid hFN
  clear hFN
  have HhF := Lib.hid hF
  clear hF
  have HhSN := Lib.hid hSN
  clear hSN
  have HhS := Lib.hid hS
  clear hS
  have HhFs := Lib.hid hFs
  clear hFs
  have HhSs := Lib.hid hSs
  clear hSs
  have HhFA4 := Lib.hid hFA4
  clear hFA4
  have HhSB5 := Lib.hid hSB5
  clear hSB5
  rcases c4 with ⟨rfl, rfl⟩ | rfl
  · rcases c5 with ⟨rfl, hs5⟩ | rfl
    · rcases c1 with ⟨e1, g1, g2, e1'⟩ | ⟨e1, g1, g2, -⟩ <;> rcases c2 with ⟨e2, e2'⟩ | ⟨e2, -⟩ <;> rcases c3 with ⟨e3, e3'⟩ | ⟨e3, -⟩
      all_goals
        try (obtain ⟨rfl, rfl⟩ := Prod.mk.inj e1')
        try (obtain ⟨rfl, rfl⟩ := Prod.mk.inj e2')
        try (obtain ⟨rfl, rfl⟩ := Prod.mk.inj e3')
        go_enter Tryd.func4, Tryd.ntmps4
        go_wp2_with fail
        refine (HhEN.out _ HT.out).mono ?_
        rintro e w1 ⟨rfl, hx1⟩
        have HX1 := Lib.hid (hx1)
        clear hx1
        go_wp2_with fail
        refine (HhE.out _).mono ?_
        rintro e w2 ⟨rfl, hx2⟩
        have HX2 := Lib.hid (HX1.out.trans hx2)
        clear hx2
        go_wp2_with fail
        refine (HhFN.out _).mono ?_
        rintro e w3 ⟨rfl, hx3⟩
        have HX3 := Lib.hid (HX2.out.trans hx3)
        clear hx3
        go_wp2_with fail
        refine (HhF.out _).mono ?_
        rintro e w4 ⟨rfl, hx4⟩
        have HX4 := Lib.hid (HX3.out.trans hx4)
        clear hx4
        go_wp2_with fail
        refine (HhSN.out _).mono ?_
        rintro e w5 ⟨rfl, hx5⟩
        have HX5 := Lib.hid (HX4.out.trans hx5)
        clear hx5
        go_wp2_with fail
        refine (HhS.out _).mono ?_
        rintro e w6 ⟨rfl, hx6⟩
        have HX6 := Lib.hid (HX5.out.trans hx6)
        clear hx6
        go_wp2_with fail
        refine (HhFs.out _).mono ?_
        rintro e w7 ⟨rfl, hx7⟩
        have HX7 := Lib.hid (HX6.out.trans hx7)
        clear hx7
        go_wp2_with fail
        refine (HhSs.out _).mono ?_
        rintro e w8 ⟨rfl, hx8⟩
        have HX8 := Lib.hid (HX7.out.trans hx8)
        clear hx8
        go_wp2_with fail
        refine (HhFA4.out _).mono ?_
        rintro e w9 ⟨rfl, hx9⟩
        have HX9 := Lib.hid (HX8.out.trans hx9)
        clear hx9
        go_wp2_with fail
        refine (HhSB5.out _).mono ?_
        rintro e w10 ⟨rfl, hx10⟩
        have HX10 := Lib.hid (HX9.out.trans hx10)
        clear hx10
        go_wp2_with fail
        refine (HhA.out _ (HT.out.ext HX10.out)).mono ?_
        rintro e w11 ⟨rfl, hx11⟩
        go_wp2_with fail
        go_ret
        exact ⟨rfl, HX10.out.trans hx11⟩
    · rcases c1 with ⟨e1, g1, g2, e1'⟩ | ⟨e1, g1, g2, -⟩ <;> rcases c2 with ⟨e2, e2'⟩ | ⟨e2, -⟩ <;> rcases c3 with ⟨e3, e3'⟩ | ⟨e3, -⟩
      all_goals
        try (obtain ⟨rfl, rfl⟩ := Prod.mk.inj e1')
        try (obtain ⟨rfl, rfl⟩ := Prod.mk.inj e2')
        try (obtain ⟨rfl, rfl⟩ := Prod.mk.inj e3')
        go_enter Tryd.func4, Tryd.ntmps4
        go_wp2_with fail
        refine (HhEN.out _ HT.out).mono ?_
        rintro e w1 ⟨rfl, hx1⟩
        have HX1 := Lib.hid (hx1)
        clear hx1
        go_wp2_with fail
        refine (HhE.out _).mono ?_
        rintro e w2 ⟨rfl, hx2⟩
        have HX2 := Lib.hid (HX1.out.trans hx2)
        clear hx2
        go_wp2_with fail
        refine (HhFN.out _).mono ?_
        rintro e w3 ⟨rfl, hx3⟩
        have HX3 := Lib.hid (HX2.out.trans hx3)
        clear hx3
        go_wp2_with fail
        refine (HhF.out _).mono ?_
        rintro e w4 ⟨rfl, hx4⟩
        have HX4 := Lib.hid (HX3.out.trans hx4)
        clear hx4
        go_wp2_with fail
        refine (HhSN.out _).mono ?_
        rintro e w5 ⟨rfl, hx5⟩
        have HX5 := Lib.hid (HX4.out.trans hx5)
        clear hx5
        go_wp2_with fail
        refine (HhS.out _).mono ?_
        rintro e w6 ⟨rfl, hx6⟩
        have HX6 := Lib.hid (HX5.out.trans hx6)
        clear hx6
        go_wp2_with fail
        refine (HhFs.out _).mono ?_
        rintro e w7 ⟨rfl, hx7⟩
        have HX7 := Lib.hid (HX6.out.trans hx7)
        clear hx7
        go_wp2_with fail
        refine (HhSs.out _).mono ?_
        rintro e w8 ⟨rfl, hx8⟩
        have HX8 := Lib.hid (HX7.out.trans hx8)
        clear hx8
        go_wp2_with fail
        refine (HhFA4.out _).mono ?_
        rintro e w9 ⟨rfl, hx9⟩
        have HX9 := Lib.hid (HX8.out.trans hx9)
        clear hx9
        go_wp2_with fail
        refine (HhA.out _ (HT.out.ext HX9.out)).mono ?_
        rintro e w11 ⟨rfl, hx11⟩
        go_wp2_with fail
        go_ret
        exact ⟨rfl, HX9.out.trans hx11⟩
  · rcases c5 with ⟨rfl, hs5⟩ | rfl
    · rcases c1 with ⟨e1, g1, g2, e1'⟩ | ⟨e1, g1, g2, -⟩ <;> rcases c2 with ⟨e2, e2'⟩ | ⟨e2, -⟩ <;> rcases c3 with ⟨e3, e3'⟩ | ⟨e3, -⟩
      all_goals
        try (obtain ⟨rfl, rfl⟩ := Prod.mk.inj e1')
        try (obtain ⟨rfl, rfl⟩ := Prod.mk.inj e2')
        try (obtain ⟨rfl, rfl⟩ := Prod.mk.inj e3')
        go_enter Tryd.func4, Tryd.ntmps4
        go_wp2_with fail
        refine (HhEN.out _ HT.out).mono ?_
        rintro e w1 ⟨rfl, hx1⟩
        have HX1 := Lib.hid (hx1)
        clear hx1
        go_wp2_with fail
        refine (HhE.out _).mono ?_
        rintro e w2 ⟨rfl, hx2⟩
        have HX2 := Lib.hid (HX1.out.trans hx2)
        clear hx2
        go_wp2_with fail
        refine (HhFN.out _).mono ?_
        rintro e w3 ⟨rfl, hx3⟩
        have HX3 := Lib.hid (HX2.out.trans hx3)
        clear hx3
        go_wp2_with fail
        refine (HhF.out _).mono ?_
        rintro e w4 ⟨rfl, hx4⟩
        have HX4 := Lib.hid (HX3.out.trans hx4)
        clear hx4
        go_wp2_with fail
        refine (HhSN.out _).mono ?_
        rintro e w5 ⟨rfl, hx5⟩
        have HX5 := Lib.hid (HX4.out.trans hx5)
        clear hx5
        go_wp2_with fail
        refine (HhS.out _).mono ?_
        rintro e w6 ⟨rfl, hx6⟩
        have HX6 := Lib.hid (HX5.out.trans hx6)
        clear hx6
        go_wp2_with fail
        refine (HhFs.out _).mono ?_
        rintro e w7 ⟨rfl, hx7⟩
        have HX7 := Lib.hid (HX6.out.trans hx7)
        clear hx7
        go_wp2_with fail
        refine (HhSs.out _).mono ?_
        rintro e w8 ⟨rfl, hx8⟩
        have HX8 := Lib.hid (HX7.out.trans hx8)
        clear hx8
        go_wp2_with fail
        refine (HhSB5.out _).mono ?_
        rintro e w10 ⟨rfl, hx10⟩
        have HX10 := Lib.hid (HX8.out.trans hx10)
        clear hx10
        go_wp2_with fail
        refine (HhA.out _ (HT.out.ext HX10.out)).mono ?_
        rintro e w11 ⟨rfl, hx11⟩
        go_wp2_with fail
        go_ret
        exact ⟨rfl, HX10.out.trans hx11⟩
    · rcases c1 with ⟨e1, g1, g2, e1'⟩ | ⟨e1, g1, g2, -⟩ <;> rcases c2 with ⟨e2, e2'⟩ | ⟨e2, -⟩ <;> rcases c3 with ⟨e3, e3'⟩ | ⟨e3, -⟩
      all_goals
        try (obtain ⟨rfl, rfl⟩ := Prod.mk.inj e1')
        try (obtain ⟨rfl, rfl⟩ := Prod.mk.inj e2')
        try (obtain ⟨rfl, rfl⟩ := Prod.mk.inj e3')
        go_enter Tryd.func4, Tryd.ntmps4
        go_wp2_with fail
        refine (HhEN.out _ HT.out).mono ?_
        rintro e w1 ⟨rfl, hx1⟩
        have HX1 := Lib.hid (hx1)
        clear hx1
        go_wp2_with fail
        refine (HhE.out _).mono ?_
        rintro e w2 ⟨rfl, hx2⟩
        have HX2 := Lib.hid (HX1.out.trans hx2)
        clear hx2
        go_wp2_with fail
        refine (HhFN.out _).mono ?_
        rintro e w3 ⟨rfl, hx3⟩
        have HX3 := Lib.hid (HX2.out.trans hx3)
        clear hx3
        go_wp2_with fail
        refine (HhF.out _).mono ?_
        rintro e w4 ⟨rfl, hx4⟩
        have HX4 := Lib.hid (HX3.out.trans hx4)
        clear hx4
        go_wp2_with fail
        refine (HhSN.out _).mono ?_
        rintro e w5 ⟨rfl, hx5⟩
        have HX5 := Lib.hid (HX4.out.trans hx5)
        clear hx5
        go_wp2_with fail
        refine (HhS.out _).mono ?_
        rintro e w6 ⟨rfl, hx6⟩
        have HX6 := Lib.hid (HX5.out.trans hx6)
        clear hx6
        go_wp2_with fail
        refine (HhFs.out _).mono ?_
        rintro e w7 ⟨rfl, hx7⟩
        have HX7 := Lib.hid (HX6.out.trans hx7)
        clear hx7
        go_wp2_with fail
        refine (HhSs.out _).mono ?_
        rintro e w8 ⟨rfl, hx8⟩
        have HX8 := Lib.hid (HX7.out.trans hx8)
        clear hx8
        go_wp2_with fail
        refine (HhA.out _ (HT.out.ext HX8.out)).mono ?_
        rintro e w11 ⟨rfl, hx11⟩
        go_wp2_with fail
        go_ret
        exact ⟨rfl, HX8.out.trans hx11⟩
end L10
end Go.Proofs.YtojlpocpcakcbaaDoor
