/- Layer 7: the walks of the reference's digits, Line. -/
import Derived.Test.YtbpmokffhmiacaaGreatDoorKept
import Derived.Test.YtbpmokffhmiacaaGreatDoorAsmP
namespace Go.Proofs.YtbpmokffhmiacaaGreatDoor
open Go.RowKit Go.Shelf Go.Sort V
attribute [local go_sem] Oper.semAt_some
namespace L07
def encB (x : UInt8) : List Value := [.int .u8 (x.toNat : Int)]
theorem encB_len (x : UInt8) : (encB x).length = 1 := rfl
theorem conv_rd {w : World} {v : Value} {l : List UInt8} (h : Rd w 1 encB v l) : (convert 24 9 v).run Tryz.prog w = .ok (.string (str l)) w := by
  obtain ⟨a, c, rfl, h1, h2, h3⟩ := h
  cases a with
  | none =>
    have hc := h2 rfl
    have hl : l = [] := List.eq_nil_of_length_eq_zero (by omega)
    subst hl
    rw [run_convert_bytes_string w _ _ _ _ _ _ Tryz.underlying24 Tryz.underlying5 Tryz.underlying9]
    rfl
  | some a =>
    by_cases h0 : l = []
    · subst h0
      exact run_convert_bytes_back w _ _ _ a c [] Tryz.underlying24 Tryz.underlying5 Tryz.underlying9 (fun j hj => by cases hj)
    · refine run_convert_bytes_back w _ _ _ a c l Tryz.underlying24 Tryz.underlying5 Tryz.underlying9 (fun j hj => ?_)
      obtain ⟨b, o, e, hat⟩ := h3 j hj
      simp only [Option.some.injEq] at e
      subst e
      have h5 := hat 0 (by simp [encB])
      have e5 : (⟨b, o, none⟩ : Addr).add j = ⟨b, o + j * 1 + 0, none⟩ := by
        unfold Addr.add; split <;> simp_all
      rw [e5]
      simpa [encB] using h5
theorem u8_wrap (n : Nat) (h : n < 10) : IntKind.i64.wrap (48 + (n : Int)) = 48 + (n : Int) ∧ IntKind.u8.wrap (48 + (n : Int)) = 48 + (n : Int) ∧ ((UInt8.ofNat (48 + n)).toNat : Int) = 48 + (n : Int) :=
  ⟨IntWalk.i64_in _ (by omega), by simp [IntKind.wrap, IntKind.signed, IntKind.bits]; omega, by rw [UInt8.toNat_ofNat']; omega⟩
theorem conv_one (n : Nat) (h : n < 10) (W : World) : (convert 24 9 (.slice (some ⟨W.heap.size, 0, none⟩) 1 1)).run Tryz.prog (W.alloc (.cells #[.int .u8 (48 + (n : Int))] 5)) = .ok (.string (str [UInt8.ofNat (48 + n)])) (W.alloc (.cells #[.int .u8 (48 + (n : Int))] 5)) := by
  rw [← (u8_wrap n h).2.2]
  exact conv_rd (l := [UInt8.ofNat (48 + n)]) (rd_lit encB_len W [UInt8.ofNat (48 + n)] _ _ rfl)
theorem dec_one (n : Nat) (h : n < 10) : dec n = [UInt8.ofNat (48 + n)] := by unfold dec; rw [Lib.decDigits, dif_pos h]
theorem dec_more (n : Nat) (h : ¬ n < 10) : dec n = dec (n / 10) ++ [UInt8.ofNat (48 + n % 10)] := by
  unfold dec
  rw [Lib.decDigits, dif_neg h]
set_option maxRecDepth 100000 in
set_option maxHeartbeats 2000000 in
theorem rdigits_calls (n : Nat) (hn : n < 1000000000000000000) (w : World) : Calls Tryz.prog 10 #[.int .i64 (n : Int)] w fun e w' => e = .returned (.string (str (dec n))) ∧ Ext w w' := by
  have hlen := dec_20 n hn
  obtain ⟨res, hres⟩ : ∃ res, res = str (dec n) := ⟨_, rfl⟩
  rw [← hres]
  have Hhres := Lib.hid hres
  clear hres
  go_enter Tryz.func10, Tryz.ntmps10
  go_wp2_with fail
  go_loopw [0, 3] (fun v t wr => ∃ (m : Nat) (l : List UInt8), v = .int .i64 (m : Int) ∧ t = .string (str l) ∧ m ≤ n ∧ dec n = dec m ++ l ∧ Ext w wr) (fun v _ _ => (intOf v).toNat)
  case atStart => exact ⟨n, [], rfl, rfl, Nat.le_refl _, by simp, Ext.refl _⟩
  case round =>
    obtain ⟨m, l, rfl, rfl, hm, hd, hx⟩ := hrel
    have HX := Lib.hid hx
    clear hx
    have hll : l.length ≤ 20 := by have := congrArg List.length hd; rw [List.length_append] at this; omega
    by_cases h10 : m < 10
    · have g1 : decide (m < 10) = true := decide_eq_true h10
      have g2 : decide ((m : Int) < 10) = true := decide_eq_true (by omega)
      have g3 : decide (10 ≤ m) = false := decide_eq_false (by omega)
      have g4 : decide ((10 : Int) ≤ (m : Int)) = false := decide_eq_false (by omega)
      obtain ⟨hw1, hw2, -⟩ := u8_wrap m h10
      have hcv := fun W => conv_one m h10 W
      rw [dec_one m h10] at hd
      have hcat : str [UInt8.ofNat (48 + m)] ++ str l = res := by rw [Hhres.out, hd, str_app]
      have hl1 : (str [UInt8.ofNat (48 + m)]).size ≤ 1 := Nat.le_refl _
      rw [← str_size] at hll
      clear hd
      generalize str [UInt8.ofNat (48 + m)] = ds at *
      generalize str l = ls at *
      have Hhcat := Lib.hid hcat
      clear hcat
      go_wp2_with fail
      go_ret
      exact ⟨by rw [← Hhcat.out]; rfl, HX.out.alloc _⟩
    · have g1 : decide (m < 10) = false := decide_eq_false h10
      have g2 : decide ((m : Int) < 10) = false := decide_eq_false (by omega)
      have g3 : decide (10 ≤ m) = true := decide_eq_true (by omega)
      have g4 : decide ((10 : Int) ≤ (m : Int)) = true := decide_eq_true (by omega)
      have hmm : (m : Int).tmod 10 = ((m % 10 : Nat) : Int) := by rw [Int.tmod_eq_emod_of_nonneg (by omega)]; omega
      have hmd : (m : Int).tdiv 10 = ((m / 10 : Nat) : Int) := by rw [Int.tdiv_eq_ediv_of_nonneg (by omega)]; omega
      have h9 : m % 10 < 10 := Nat.mod_lt _ (by omega)
      obtain ⟨hw1, hw2, -⟩ := u8_wrap (m % 10) h9
      have hw3 : IntKind.i64.wrap ((m / 10 : Nat) : Int) = ((m / 10 : Nat) : Int) := IntWalk.i64_in _ (by omega)
      have hw4 : IntKind.i64.wrap ((m % 10 : Nat) : Int) = ((m % 10 : Nat) : Int) := IntWalk.i64_in _ (by omega)
      have hcv := fun W => conv_one (m % 10) h9 W
      rw [dec_more m h10, List.append_assoc] at hd
      have hcat : str [UInt8.ofNat (48 + m % 10)] ++ str l = str ([UInt8.ofNat (48 + m % 10)] ++ l) := by rw [str_app]
      have hl1 : (str [UInt8.ofNat (48 + m % 10)]).size ≤ 1 := Nat.le_refl _
      have hrel : ∃ (m' : Nat) (l' : List UInt8), Value.int .i64 ((m / 10 : Nat) : Int) = .int .i64 (m' : Int) ∧ Value.string (str ([UInt8.ofNat (48 + m % 10)] ++ l)) = .string (str l') ∧ m' ≤ n ∧ dec n = dec m' ++ l' := ⟨m / 10, _, rfl, rfl, by omega, hd⟩
      have hlt : m / 10 < m := by omega
      rw [← hcat] at hrel
      rw [← str_size] at hll
      clear hd hcat
      have Hhrel := Lib.hid hrel
      clear hrel
      generalize str [UInt8.ofNat (48 + m % 10)] = ds at *
      generalize str l = ls at *
      generalize m % 10 = m9 at *
      generalize m / 10 = md at *
      go_wp2_with fail
      go_roundw
      case rel =>
        obtain ⟨m', l', e1, e2, e3, e4⟩ := Hhrel.out
        exact ⟨m', l', e1, e2, e3, e4, HX.out.alloc _⟩
      case measure => simp [intOf]; omega
theorem line_flat (i : In) (q : Nat) : lineL i q = (entry i.c).nm ++ (if shape i.c = 0 then [] else if shape i.c = 1 then 32 :: dec i.k else if shape i.c = 2 then 32 :: 76 :: dec (q + 1 + i.k)
    else if shape i.c = 3 then 32 :: (dec i.k ++ 32 :: 76 :: (dec (q + 1 + i.jt) ++ 32 :: 76 :: dec (q + 1 + i.jf))) else 32 :: 76 :: (dec (q + 1 + i.jt) ++ 32 :: 76 :: dec (q + 1 + i.jf))) := by
  obtain ⟨h1, h2, h3⟩ := uses_eq i.c
  have hs := shape_le i.c
  unfold lineL kpart lparts leadsL
  rw [h1, h2, h3]
  congr 1
  generalize shape i.c = s at *
  obtain rfl | rfl | rfl | rfl | rfl : s = 0 ∨ s = 1 ∨ s = 2 ∨ s = 3 ∨ s = 4 := by omega
  all_goals simp [lab]
set_option maxRecDepth 100000 in
set_option maxHeartbeats 8000000 in
theorem rLine_calls (i : In) (hN : OkN i) (p : Int) (hp : p ≤ 1099511627776) (w : World) :
    Calls Tryz.prog 11 #[inV i, .int .i64 p] w fun e w' => e = .returned (.string (str (lineA i p))) ∧ Ext w w' := by
  have hP := fun W => rplain_calls i W
  have hO := fun W => rOf_calls i.c W
  have hS := fun W => rshape_calls i.c W
  unfold inV at *
  unfold enE at hO
  have hE : lineA i p = if plainI i = true ∧ 0 ≤ p then lineL i p.toNat else [] := rfl
  obtain ⟨W0, hW0⟩ : ∃ W0, w.alloc (.cells #[.int .u16 (i.c : Int), .int .u8 (i.jt : Int), .int .u8 (i.jf : Int), .int .u32 (i.k : Int)] 34) = W0 := ⟨_, rfl⟩
  have hci : W0.heap[w.heap.size]? = some (.cells #[.int .u16 (i.c : Int), .int .u8 (i.jt : Int), .int .u8 (i.jf : Int), .int .u32 (i.k : Int)] 34 (0, 0)) := by rw [← hW0]; exact heap_alloc_new _ _
  have hXW0 : Ext w W0 := by rw [← hW0]; exact (Ext.refl w).alloc _
  obtain ⟨e0, e1, e2, e3⟩ := blk4 hci
  have Hhci := Lib.hid hci
  clear hci
  have HhXW0 := Lib.hid hXW0
  clear hXW0
  cases hpl : plainI i
  · rw [hpl] at hP
    have hR : str (lineA i p) = ⟨#[]⟩ := by rw [hE, if_neg (by rw [hpl]; simp)]; rfl
    rw [hR]
    clear hE hR hO hS
    have HhP := Lib.hid hP
    clear hP
    go_enter Tryz.func11, Tryz.ntmps11
    go_wp2_with fail
    refine (HhP.out _).mono ?_
    rintro r w1 ⟨rfl, hx1⟩
    go_wp2_with fail
    go_ret
    exact ⟨rfl, HhXW0.out.trans hx1⟩
  by_cases hn : p < 0
  · rw [hpl] at hP
    have hR : str (lineA i p) = ⟨#[]⟩ := by rw [hE, if_neg (by omega)]; rfl
    have d1 : decide (p < 0) = true := decide_eq_true hn
    rw [hR]
    clear hE hR hO hS
    have HhP := Lib.hid hP
    clear hP
    go_enter Tryz.func11, Tryz.ntmps11
    go_wp2_with fail
    refine (HhP.out _).mono ?_
    rintro r w1 ⟨rfl, hx1⟩
    go_wp2_with fail
    go_ret
    exact ⟨rfl, HhXW0.out.trans hx1⟩
  obtain ⟨q, rfl⟩ : ∃ q : Nat, p = (q : Int) := ⟨p.toNat, by omega⟩
  rw [hpl] at hP
  have hR : lineA i (q : Int) = lineL i q := by rw [hE, if_pos ⟨hpl, by omega⟩]; rfl
  have d1 : decide ((q : Int) < 0) = false := decide_eq_false (by omega)
  have hfl := line_flat i q
  rw [hR]
  clear hE hR
  have hsl := shape_le i.c
  have hnl := entry_nm_len i.c
  obtain ⟨hNc, hNjt, hNjf, hNk⟩ := hN
  obtain ⟨c, jt, jf, k⟩ := i
  dsimp only at *
  have hDk := fun W => rdigits_calls k (by omega) W
  have hD0 := fun W => rdigits_calls (q + 1 + k) (by omega) W
  have hD1 := fun W => rdigits_calls (q + 1 + jt) (by omega) W
  have hD2 := fun W => rdigits_calls (q + 1 + jf) (by omega) W
  have l0 := dec_20 k (by omega)
  have l1 := dec_20 (q + 1 + k) (by omega)
  have l2 := dec_20 (q + 1 + jt) (by omega)
  have l3 := dec_20 (q + 1 + jf) (by omega)
  have hwk : IntKind.i64.wrap (k : Int) = (k : Int) := IntWalk.i64_in _ (by omega)
  have hwt : IntKind.i64.wrap (jt : Int) = (jt : Int) := IntWalk.i64_in _ (by omega)
  have hwf : IntKind.i64.wrap (jf : Int) = (jf : Int) := IntWalk.i64_in _ (by omega)
  have hw1 : IntKind.i64.wrap ((q : Int) + 1) = ((q + 1 : Nat) : Int) := IntWalk.i64_in _ (by omega)
  have hw2 : IntKind.i64.wrap (((q + 1 : Nat) : Int) + (k : Int)) = ((q + 1 + k : Nat) : Int) := IntWalk.i64_in _ (by omega)
  have hw3 : IntKind.i64.wrap (((q + 1 : Nat) : Int) + (jt : Int)) = ((q + 1 + jt : Nat) : Int) := IntWalk.i64_in _ (by omega)
  have hw4 : IntKind.i64.wrap (((q + 1 : Nat) : Int) + (jf : Int)) = ((q + 1 + jf : Nat) : Int) := IntWalk.i64_in _ (by omega)
  obtain ⟨res, hres⟩ : ∃ res, str (lineL ⟨c, jt, jf, k⟩ q) = res := ⟨_, rfl⟩
  rw [hres]
  rw [hfl] at hres
  clear hfl hpl hn hp hNc hNjt hNjf hNk
  generalize q + 1 + k = n0 at *
  generalize q + 1 + jt = n1 at *
  generalize q + 1 + jf = n2 at *
  generalize q + 1 = q1 at *
  generalize dec k = D at *
  generalize dec n0 = D0 at *
  generalize dec n1 = D1 at *
  generalize dec n2 = D2 at *
  generalize entry c = en at *
  obtain ⟨ec, nm, cl⟩ := en
  dsimp only at *
  generalize shape c = s at *
  have c32 : (⟨#[32]⟩ : ByteArray) = str [32] := rfl
  have c3276 : (⟨#[32, 76]⟩ : ByteArray) = str [32, 76] := rfl
  rw [← str_size] at l0 l1 l2 l3 hnl
  have hfield : ∀ W, (Instr.field 49 (.agg #[.int .u16 (ec : Int), .string (str nm), .int .u8 (cl : Int)]) 1).run Tryz.prog W = .ok (.string (str nm)) W := fun W => rfl
  have hgo : s = 0 ∨ s = 1 ∨ s = 2 ∨ s = 3 ∨ s = 4 := by omega
  have HhP := Lib.hid hP
  clear hP
  have HhO := Lib.hid hO
  clear hO
  have HhS := Lib.hid hS
  clear hS
  have HhDk := Lib.hid hDk
  clear hDk
  have HhD0 := Lib.hid hD0
  clear hD0
  have HhD1 := Lib.hid hD1
  clear hD1
  have HhD2 := Lib.hid hD2
  clear hD2
  clear hsl
  rcases hgo with rfl | rfl | rfl | rfl | rfl
  · have hcat : str nm = res := by rw [← hres, if_pos rfl, List.append_nil]
    subst hcat
    clear hres c32 c3276
    generalize str nm = sn at *
    go_enter Tryz.func11, Tryz.ntmps11
    go_wp2_with (first
      | (go_at_call 8; refine (HhP.out _).mono ?_; rintro r w1 ⟨rfl, hx1⟩; replace e0 := hx1.cell e0; replace e1 := hx1.cell e1; replace e2 := hx1.cell e2; replace e3 := hx1.cell e3; have HX1 := Lib.hid (HhXW0.out.trans hx1); clear hx1)
      | (go_at_call 17; refine (HhO.out _).mono ?_; rintro r w2 ⟨rfl, hx2⟩; replace e0 := hx2.cell e0; replace e1 := hx2.cell e1; replace e2 := hx2.cell e2; replace e3 := hx2.cell e3; have HX2 := Lib.hid (HX1.out.trans hx2); clear hx2)
      | (go_at_call 7; refine (HhS.out _).mono ?_; rintro r w3 ⟨rfl, hx3⟩; replace e1 := hx3.cell e1; replace e2 := hx3.cell e2; replace e3 := hx3.cell e3; have HX3 := Lib.hid (HX2.out.trans hx3); clear hx3))
    go_ret
    exact ⟨rfl, HX3.out⟩
  · have hcat : str nm ++ (⟨#[32]⟩ : ByteArray) ++ str D = res := by rw [← hres, if_neg (by omega), if_pos rfl, c32]; simp only [str_app, List.append_assoc]; rfl
    clear hres c32 c3276
    generalize str nm = sn at *
    generalize str D = sd at *
    have Hhcat := Lib.hid hcat
    clear hcat
    go_enter Tryz.func11, Tryz.ntmps11
    go_wp2_with (first
      | (go_at_call 8; refine (HhP.out _).mono ?_; rintro r w1 ⟨rfl, hx1⟩; replace e0 := hx1.cell e0; replace e1 := hx1.cell e1; replace e2 := hx1.cell e2; replace e3 := hx1.cell e3; have HX1 := Lib.hid (HhXW0.out.trans hx1); clear hx1)
      | (go_at_call 17; refine (HhO.out _).mono ?_; rintro r w2 ⟨rfl, hx2⟩; replace e0 := hx2.cell e0; replace e1 := hx2.cell e1; replace e2 := hx2.cell e2; replace e3 := hx2.cell e3; have HX2 := Lib.hid (HX1.out.trans hx2); clear hx2)
      | (go_at_call 7; refine (HhS.out _).mono ?_; rintro r w3 ⟨rfl, hx3⟩; replace e1 := hx3.cell e1; replace e2 := hx3.cell e2; replace e3 := hx3.cell e3; have HX3 := Lib.hid (HX2.out.trans hx3); clear hx3)
      | (go_at_call 10; refine (HhDk.out _).mono ?_; rintro r w4 ⟨rfl, hx4⟩; replace e1 := hx4.cell e1; replace e2 := hx4.cell e2; replace e3 := hx4.cell e3; have HX4 := Lib.hid (HX3.out.trans hx4); clear hx4))
    go_ret
    exact ⟨by rw [← Hhcat.out]; rfl, HX4.out⟩
  · have hcat : str nm ++ (⟨#[32, 76]⟩ : ByteArray) ++ str D0 = res := by rw [← hres, if_neg (by omega), if_neg (by omega), if_pos rfl, c3276]; simp only [str_app, List.append_assoc]; rfl
    clear hres c32 c3276
    generalize str nm = sn at *
    generalize str D0 = sd at *
    have Hhcat := Lib.hid hcat
    clear hcat
    go_enter Tryz.func11, Tryz.ntmps11
    go_wp2_with (first
      | (go_at_call 8; refine (HhP.out _).mono ?_; rintro r w1 ⟨rfl, hx1⟩; replace e0 := hx1.cell e0; replace e1 := hx1.cell e1; replace e2 := hx1.cell e2; replace e3 := hx1.cell e3; have HX1 := Lib.hid (HhXW0.out.trans hx1); clear hx1)
      | (go_at_call 17; refine (HhO.out _).mono ?_; rintro r w2 ⟨rfl, hx2⟩; replace e0 := hx2.cell e0; replace e1 := hx2.cell e1; replace e2 := hx2.cell e2; replace e3 := hx2.cell e3; have HX2 := Lib.hid (HX1.out.trans hx2); clear hx2)
      | (go_at_call 7; refine (HhS.out _).mono ?_; rintro r w3 ⟨rfl, hx3⟩; replace e1 := hx3.cell e1; replace e2 := hx3.cell e2; replace e3 := hx3.cell e3; have HX3 := Lib.hid (HX2.out.trans hx3); clear hx3)
      | (go_at_call 10; refine (HhD0.out _).mono ?_; rintro r w4 ⟨rfl, hx4⟩; have HX4 := Lib.hid (HX3.out.trans hx4); clear hx4))
    go_ret
    exact ⟨by rw [← Hhcat.out]; rfl, HX4.out⟩
  · have hcat : str nm ++ (⟨#[32]⟩ : ByteArray) ++ str D ++ (⟨#[32, 76]⟩ : ByteArray) ++ str D1 ++ (⟨#[32, 76]⟩ : ByteArray) ++ str D2 = res := by rw [← hres, if_neg (by omega), if_neg (by omega), if_neg (by omega), if_pos rfl, c32, c3276]; simp only [str_app, List.append_assoc]; rfl
    clear hres c32 c3276
    generalize str nm = sn at *
    generalize str D = sd at *
    generalize str D1 = s1 at *
    generalize str D2 = s2 at *
    have Hhcat := Lib.hid hcat
    clear hcat
    go_enter Tryz.func11, Tryz.ntmps11
    go_wp2_with (first
      | (go_at_call 8; refine (HhP.out _).mono ?_; rintro r w1 ⟨rfl, hx1⟩; replace e0 := hx1.cell e0; replace e1 := hx1.cell e1; replace e2 := hx1.cell e2; replace e3 := hx1.cell e3; have HX1 := Lib.hid (HhXW0.out.trans hx1); clear hx1)
      | (go_at_call 17; refine (HhO.out _).mono ?_; rintro r w2 ⟨rfl, hx2⟩; replace e0 := hx2.cell e0; replace e1 := hx2.cell e1; replace e2 := hx2.cell e2; replace e3 := hx2.cell e3; have HX2 := Lib.hid (HX1.out.trans hx2); clear hx2)
      | (go_at_call 7; refine (HhS.out _).mono ?_; rintro r w3 ⟨rfl, hx3⟩; replace e1 := hx3.cell e1; replace e2 := hx3.cell e2; replace e3 := hx3.cell e3; have HX3 := Lib.hid (HX2.out.trans hx3); clear hx3)
      | (go_at_call 10; refine (HhDk.out _).mono ?_; rintro r w4 ⟨rfl, hx4⟩; replace e1 := hx4.cell e1; replace e2 := hx4.cell e2; replace e3 := hx4.cell e3; have HX4 := Lib.hid (HX3.out.trans hx4); clear hx4))
    have x1 := xwc e1
    have x2 := xwc e2
    clear e1 e2 e3
    refine wp_region_kept (by kernel_rfl) (by kernel_rfl) ?_
    repeat (any_goals (first | go_big_quiet_step ((go_at_call 10; first | with_reducible exact calls_kept (HhD1.out _) | with_reducible exact calls_kept (HhD2.out _))) | quiet_step ((go_at_call 10; first | with_reducible exact calls_kept (HhD1.out _) | with_reducible exact calls_kept (HhD2.out _)))))
    all_goals (refine wpQuiet_nil ?_; intro _ hw9; obtain ⟨xq, hw8⟩ := hw9; subst hw8)
    go_wp2_with fail
    go_ret
    exact ⟨by rw [← Hhcat.out]; rfl, HX4.out.trans xq.h⟩
  · have hcat : str nm ++ (⟨#[32, 76]⟩ : ByteArray) ++ str D1 ++ (⟨#[32, 76]⟩ : ByteArray) ++ str D2 = res := by rw [← hres, if_neg (by omega), if_neg (by omega), if_neg (by omega), if_neg (by omega), c3276]; simp only [str_app, List.append_assoc]; rfl
    clear hres c32 c3276
    generalize str nm = sn at *
    generalize str D1 = s1 at *
    generalize str D2 = s2 at *
    have Hhcat := Lib.hid hcat
    clear hcat
    go_enter Tryz.func11, Tryz.ntmps11
    go_wp2_with (first
      | (go_at_call 8; refine (HhP.out _).mono ?_; rintro r w1 ⟨rfl, hx1⟩; replace e0 := hx1.cell e0; replace e1 := hx1.cell e1; replace e2 := hx1.cell e2; replace e3 := hx1.cell e3; have HX1 := Lib.hid (HhXW0.out.trans hx1); clear hx1)
      | (go_at_call 17; refine (HhO.out _).mono ?_; rintro r w2 ⟨rfl, hx2⟩; replace e0 := hx2.cell e0; replace e1 := hx2.cell e1; replace e2 := hx2.cell e2; replace e3 := hx2.cell e3; have HX2 := Lib.hid (HX1.out.trans hx2); clear hx2)
      | (go_at_call 7; refine (HhS.out _).mono ?_; rintro r w3 ⟨rfl, hx3⟩; replace e1 := hx3.cell e1; replace e2 := hx3.cell e2; replace e3 := hx3.cell e3; have HX3 := Lib.hid (HX2.out.trans hx3); clear hx3))
    have x1 := xwc e1
    have x2 := xwc e2
    clear e1 e2 e3
    refine wp_region_kept (by kernel_rfl) (by kernel_rfl) ?_
    repeat (any_goals (first | go_big_quiet_step ((go_at_call 10; first | with_reducible exact calls_kept (HhD1.out _) | with_reducible exact calls_kept (HhD2.out _))) | quiet_step ((go_at_call 10; first | with_reducible exact calls_kept (HhD1.out _) | with_reducible exact calls_kept (HhD2.out _)))))
    all_goals (refine wpQuiet_nil ?_; intro _ hw9; obtain ⟨xq, hw8⟩ := hw9; subst hw8)
    go_wp2_with fail
    go_ret
    exact ⟨by rw [← Hhcat.out]; rfl, HX3.out.trans xq.h⟩
end L07
end Go.Proofs.YtbpmokffhmiacaaGreatDoor
