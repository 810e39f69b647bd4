/- Layer 7: the walk of the law AsmOne. -/
import Derived.Test.YtbpmokffhmiacaaDoorAtK
import Derived.Test.YtbpmokffhmiacaaDoorAsmT
namespace Go.Proofs.YtbpmokffhmiacaaDoor
open Go.RowKit Go.Shelf Go.Sort V
attribute [local go_sem] Oper.semAt_some
namespace L07
def taxI : In := ⟨7, 0, 0, 0⟩
def rowO (i : In) (k : Nat) : List In := i :: List.replicate k taxI
theorem rowO_succ (i : In) (k : Nat) : rowO i k ++ [taxI] = rowO i (k + 1) := by
  unfold rowO
  rw [List.replicate_succ', List.cons_append]
theorem rowO_len (i : In) (k : Nat) : (rowO i k).length = k + 1 := by simp [rowO]
theorem tax_plain : plainI taxI = true := by decide
theorem tax_leads (p : Nat) : leadsL taxI p = [] := by
  unfold leadsL
  rw [if_neg (by decide), if_neg (by decide)]
theorem line_same {i : In} (h : clsW i.c ≠ 4) (a b : Nat) : lineL i a = lineL i b := by
  have h1 : oneU i.c = false := by unfold oneU; simp [h]
  have h2 : twoU i.c = false := by unfold twoU; simp [h]
  unfold lineL leadsL
  simp [h1, h2]
theorem line_ne {i : In} (h : plainI i = true) (a : Nat) : lineL i a ≠ [] := by
  have := known_ne (plain_known h)
  unfold lineL
  intro e
  exact this (List.append_eq_nil_iff.1 e).1
theorem can_one {i : In} (hN : OkN i) : canL (rowO i 258) = (plainI i && (!oneU i.c || decide (i.k ≤ 257))) := by
  have hl := rowO_len i 258
  have h1 : (rowO i 258).all plainI = plainI i := by
    unfold rowO
    rw [List.all_cons, List.all_replicate, tax_plain]
    simp
  have h2 : okT (rowO i 258) = (!oneU i.c || decide (i.k ≤ 257)) := by
    rw [Bool.eq_iff_iff]
    unfold okT
    rw [List.all_eq_true]
    have h0 : okAt (rowO i 258) 0 = (!oneU i.c || decide (i.k ≤ 257)) := by
      have e : okAt (rowO i 258) 0 = (leadsL i 0).all (fun n => decide (n < (rowO i 258).length)) := rfl
      rw [e, hl]
      unfold leadsL
      obtain ⟨-, hj, hf, -⟩ := hN
      cases ho : oneU i.c
      · rw [if_neg (by simp)]
        split
        · simp; omega
        · rfl
      · rw [if_pos rfl]
        rw [Bool.eq_iff_iff]
        simp; omega
    constructor
    · intro h
      rw [← h0]
      exact h 0 (List.mem_range.2 (by omega))
    · intro h j hj
      cases j with
      | zero => rw [h0]; exact h
      | succ j =>
        have hj2 := List.mem_range.1 hj
        have e : (rowO i 258)[j + 1]? = some taxI := by
          show (List.replicate 258 taxI)[j]? = _
          rw [List.getElem?_replicate, if_pos (by omega)]
        unfold okAt
        rw [e]
        show (leadsL taxI (j + 1)).all _ = true
        rw [tax_leads]; rfl
  rw [canL_eq, h1, h2, hl]
  rfl
theorem one_last {i : In} (hN : OkN i) (hp : plainI i = true) : canL (rowO i 258) = true ∨ (canL (rowO i 258) = false ∧ i.c = 5 ∧ 257 < i.k) := by
  rw [can_one hN, hp]
  cases ho : oneU i.c
  · exact .inl rfl
  · have hc : i.c = 5 := by unfold oneU at ho; simp at ho; exact ho.2
    by_cases hk : i.k ≤ 257
    · exact .inl (by simp [hk])
    · exact .inr ⟨by simp [hk], hc, by omega⟩
theorem one_none {i : In} (hN : OkN i) (hp : plainI i = false) : canL (rowO i 258) = false := by rw [can_one hN, hp]; rfl
theorem one_okn {i : In} (hN : OkN i) (k : Nat) : ∀ j ∈ rowO i k, OkN j := fun j hj => by
  rcases List.mem_cons.1 hj with rfl | h
  · exact hN
  · rw [List.eq_of_mem_replicate h]; exact ⟨by decide, by decide, by decide, by decide⟩
set_option maxRecDepth 100000 in
set_option maxHeartbeats 8000000 in
theorem AsmOne_calls (i : In) (hN : OkN i) (a b : Int) (ha0 : -9223372036854775808 ≤ a) (hb0 : -9223372036854775808 ≤ b) (W : World) (ht : Tb W) :
    Calls Tryd.prog 6 #[inV i, .int .i64 a, .int .i64 b] W fun e w' => e = .returned (.bool true) ∧ Ext W w' := by
  have hA := fun w h => awake_calls w h
  obtain ⟨W0, hW0⟩ : ∃ W0, W.alloc (.cells #[.int .u16 (i.c : Int), .int .u8 (i.jt : Int), .int .u8 (i.jf : Int), .int .u32 (i.k : Int)] 25) = W0 := ⟨_, rfl⟩
  have hci : W0.heap[W.heap.size]? = some (.cells #[.int .u16 (i.c : Int), .int .u8 (i.jt : Int), .int .u8 (i.jf : Int), .int .u32 (i.k : Int)] 25 (0, 0)) := by rw [← hW0]; exact heap_alloc_new _ _
  have hXW0 : Ext W W0 := by rw [← hW0]; exact (Ext.refl W).alloc _
  have HT := Lib.hid (ht.ext hXW0)
  have HC := Lib.hid hci
  have HX0 := Lib.hid hXW0
  unfold inV
  have HhA := Lib.hid hA
  clear hA
  clear ht hci hXW0
  by_cases ha1 : a < 0
  · have da1 : decide (a < 0) = true := decide_eq_true ha1
    go_enter Tryd.func6, Tryd.ntmps6
    go_wp2_with (go_at_call 16; refine (HhA.out _ HT.out).mono ?_; rintro e w1 ⟨rfl, hx1⟩; have HX1 := Lib.hid hx1; clear hx1)
    go_ret
    exact ⟨rfl, HX0.out.trans HX1.out⟩
  have da1 : decide (a < 0) = false := decide_eq_false ha1
  by_cases ha2 : 4000 < a
  · have da2 : decide (4000 < a) = true := decide_eq_true ha2
    go_enter Tryd.func6, Tryd.ntmps6
    go_wp2_with (go_at_call 16; refine (HhA.out _ HT.out).mono ?_; rintro e w1 ⟨rfl, hx1⟩; have HX1 := Lib.hid hx1; clear hx1)
    go_ret
    exact ⟨rfl, HX0.out.trans HX1.out⟩
  have da2 : decide (4000 < a) = false := decide_eq_false ha2
  by_cases hb1 : b < 0
  · have db1 : decide (b < 0) = true := decide_eq_true hb1
    go_enter Tryd.func6, Tryd.ntmps6
    go_wp2_with (go_at_call 16; refine (HhA.out _ HT.out).mono ?_; rintro e w1 ⟨rfl, hx1⟩; have HX1 := Lib.hid hx1; clear hx1)
    go_ret
    exact ⟨rfl, HX0.out.trans HX1.out⟩
  have db1 : decide (b < 0) = false := decide_eq_false hb1
  by_cases hb2 : 4000 < b
  · have db2 : decide (4000 < b) = true := decide_eq_true hb2
    go_enter Tryd.func6, Tryd.ntmps6
    go_wp2_with (go_at_call 16; refine (HhA.out _ HT.out).mono ?_; rintro e w1 ⟨rfl, hx1⟩; have HX1 := Lib.hid hx1; clear hx1)
    go_ret
    exact ⟨rfl, HX0.out.trans HX1.out⟩
  have db2 : decide (4000 < b) = false := decide_eq_false hb2
  obtain ⟨p, rfl⟩ : ∃ p : Nat, a = (p : Int) := ⟨a.toNat, by omega⟩
  obtain ⟨q, rfl⟩ : ∃ q : Nat, b = (q : Int) := ⟨b.toNat, by omega⟩
  obtain ⟨e0, e1, e2, e3⟩ := blk4 HC.out
  have hLa := fun w h => Line_calls i hN (p : Int) (by omega) (by omega) w h
  have hLb := fun w h => Line_calls i hN (q : Int) (by omega) (by omega) w h
  have hOf := fun w => Of_calls i.c w
  obtain ⟨n4, r4⟩ := ne_nat (clsW i.c) 4
  simp only [Int.cast_ofNat_Int] at n4 r4
  unfold inV at hLa hLb
  have HOK := Lib.hid (one_okn hN)
  cases hpl : plainI i
  · have hXa : str (lineA i (p : Int)) = ⟨#[]⟩ := by unfold lineA; rw [if_neg (by rw [hpl]; simp)]; rfl
    have hXb : str (lineA i (q : Int)) = ⟨#[]⟩ := by unfold lineA; rw [if_neg (by rw [hpl]; simp)]; rfl
    rw [hXa] at hLa
    rw [hXb] at hLb
    have Hcan := Lib.hid (one_none hN hpl)
    clear hXa hXb hpl
    have HhLa := Lib.hid hLa
    clear hLa
    have HhLb := Lib.hid hLb
    clear hLb
    have HhOf := Lib.hid hOf
    clear hOf
    generalize (clsW i.c == 4) = jb at *
    cases jb
    all_goals
      go_enter Tryd.func6, Tryd.ntmps6
      go_wp2_with (go_at_call 16; refine (HhA.out _ HT.out).mono ?_; rintro e w1 ⟨rfl, hx1⟩; replace e0 := hx1.cell e0; replace e1 := hx1.cell e1; replace e2 := hx1.cell e2; replace e3 := hx1.cell e3; have HXX := Lib.hid hx1; clear hx1)
      have x0 := xwc e0
      have x1 := xwc e1
      have x2 := xwc e2
      have x3 := xwc e3
      have HT1 : Hid (Tb w1) := Lib.hid (HT.out.ext HXX.out)
      have HE := Lib.hid (And.intro e0 (And.intro e1 (And.intro e2 e3)))
      clear e0 e1 e2 e3
      refine wp_region_kept (by kernel_rfl) (by kernel_rfl) ?_
      repeat (any_goals (first | go_big_quiet_step ((first | (go_at_call 8; with_reducible exact calls_kept (HhLa.out _ (HT1.out.ext (XW.h _)).tab)) | (go_at_call 8; with_reducible exact calls_kept (HhLb.out _ (HT1.out.ext (XW.h _)).tab)))) | quiet_step ((first | (go_at_call 8; with_reducible exact calls_kept (HhLa.out _ (HT1.out.ext (XW.h _)).tab)) | (go_at_call 8; with_reducible exact calls_kept (HhLb.out _ (HT1.out.ext (XW.h _)).tab))))))
      all_goals (refine wpQuiet_nil ?_; intro _ hw9; obtain ⟨xq, hw8⟩ := hw9; subst hw8)
      obtain ⟨e0, e1, e2, e3⟩ := HE.out
      replace e0 := xq.h.cell e0
      replace e1 := xq.h.cell e1
      replace e2 := xq.h.cell e2
      replace e3 := xq.h.cell e3
      have HX5 := Lib.hid (HXX.out.trans xq.h)
      clear x0 x1 x2 x3
      go_wp2_with (go_at_call 17; refine (HhOf.out _).mono ?_; rintro e w6 ⟨rfl, hx6⟩; replace e0 := hx6.cell e0; replace e1 := hx6.cell e1; replace e2 := hx6.cell e2; replace e3 := hx6.cell e3; have HX6 := Lib.hid (HX5.out.trans hx6); clear hx6)
      have hO0 := own_lit encN_len w6 [i] 25 w6.heap.size W0.heap.size rfl HX6.out.size (by simp [maxLen])
      go_loopw [10, 11] (fun u kk wr => ∃ (k : Nat) (l : List In) (a : Option Addr) (c : Nat), u = .slice a l.length c ∧ kk = .int .i64 (k : Int) ∧ k ≤ 258 ∧ l = rowO i k ∧ Ext W0 wr ∧ wr.ownsRow W0.heap.size 25 4 (.slice a l.length c) l.length (l.flatMap encN)) (fun _ kk _ => 258 - (intOf kk).toNat)
      case atStart => exact ⟨0, [i], _, _, rfl, rfl, by omega, rfl, HX6.out.alloc _, hO0⟩
      case round =>
        obtain ⟨k, l, a, c, rfl, rfl, hk, hl, hx, hown⟩ := hrel
        clear hO0 e0 e1 e2 e3
        have hll : l.length = k + 1 := by rw [hl, rowO_len]
        by_cases hlt : k < 258
        · have hd : decide (k < 258) = true := decide_eq_true hlt
          have hd2 : decide ((k : Int) < 258) = true := decide_eq_true (by omega)
          have hbd : l.length + [taxI].length ≤ 100000000 := by simp; omega
          have HO := Lib.hid hown
          have HXr := Lib.hid hx
          have HL := Lib.hid (And.intro hl hll)
          clear hown hx hl hll
          go_wp2_with (at_builtin; refine wpList_app_g rfl (.tmp 59) (.tmp 61) 28 rfl Tryd.underlying28 infoP rfl (by decide) encN_len encN_one W0.heap.size (.slice a l.length c) _ l [taxI] rfl rfl (HO.out.alloc _) (rd_lit encN_len wr [taxI] 25 _ rfl) hbd (by decide) (by rw [World.size_alloc]; exact Nat.le_succ_of_le HXr.out.size) ?_; intro au cu w9 ho9 hg9; have HO9 := Lib.hid (And.intro ho9 hg9); clear ho9 hg9)
          go_roundw
          case rel =>
            refine ⟨k + 1, l ++ [taxI], au, cu, by rw [List.length_append]; rfl, by go_num, by omega, by rw [HL.out.1, rowO_succ], (HXr.out.alloc _).grown HO9.out.2 (fun r e => (HO.out.lt r e).1), ?_⟩
            rw [List.length_append]
            exact HO9.out.1
          case measure => simp [intOf]; omega
        · have hk8 : k = 258 := by omega
          subst hk8
          have hd : decide (258 < 258) = false := rfl
          have hCn := fun w (hx : Ext wr w) => Can_calls l (.slice a l.length c) (by rw [hl]; exact HOK.out 258) (by omega) w ((rd_of_own encN_len hown).ext hx)
          rw [hl] at hCn
          have HXr := Lib.hid hx
          rw [Hcan.out] at hCn
          rw [← hl] at hCn
          have HhC9 := Lib.hid hCn
          clear hx hown hl hll hCn
          go_wp2_with (go_at_call 12; refine (HhC9.out _ (Ext.refl _)).mono ?_; rintro e w9 ⟨rfl, hx9⟩; have HX9 := Lib.hid (HXr.out.trans hx9); try (replace e0 := hx9.cell e0; replace e3 := hx9.cell e3); clear hx9)
          go_ret
          exact ⟨by first | rfl | simp, HX0.out.trans HX9.out⟩
  · have hXa : lineA i (p : Int) = lineL i p := by unfold lineA; rw [if_pos ⟨hpl, by omega⟩]; rfl
    have hXb : lineA i (q : Int) = lineL i q := by unfold lineA; rw [if_pos ⟨hpl, by omega⟩]; rfl
    rw [hXa] at hLa
    rw [hXb] at hLb
    have hna : (str (lineL i p)).toList.isEmpty = false := by rw [Lib.toList_data]; have := line_ne hpl p; simp [str, this]
    have hnb : (str (lineL i q)).toList.isEmpty = false := by rw [Lib.toList_data]; have := line_ne hpl q; simp [str, this]
    have HLast := Lib.hid (one_last hN hpl)
    have hsame : (clsW i.c == 4) = false → lineL i q = lineL i p := fun h => line_same (by simpa using h) q p
    clear hXa hXb hpl
    generalize (clsW i.c == 4) = jb at *
    cases jb
    · rw [hsame rfl] at hLb hnb
      generalize str (lineL i p) = sp at *
      clear hsame
      have HhLa := Lib.hid hLa
      clear hLa
      have HhLb := Lib.hid hLb
      clear hLb
      have HhOf := Lib.hid hOf
      clear hOf
      go_enter Tryd.func6, Tryd.ntmps6
      go_wp2_with (go_at_call 16; refine (HhA.out _ HT.out).mono ?_; rintro e w1 ⟨rfl, hx1⟩; replace e0 := hx1.cell e0; replace e1 := hx1.cell e1; replace e2 := hx1.cell e2; replace e3 := hx1.cell e3; have HXX := Lib.hid hx1; clear hx1)
      have x0 := xwc e0
      have x1 := xwc e1
      have x2 := xwc e2
      have x3 := xwc e3
      have HT1 : Hid (Tb w1) := Lib.hid (HT.out.ext HXX.out)
      have HE := Lib.hid (And.intro e0 (And.intro e1 (And.intro e2 e3)))
      clear e0 e1 e2 e3
      refine wp_region_kept (by kernel_rfl) (by kernel_rfl) ?_
      repeat (any_goals (first | go_big_quiet_step ((first | (go_at_call 8; with_reducible exact calls_kept (HhLa.out _ (HT1.out.ext (XW.h _)).tab)) | (go_at_call 8; with_reducible exact calls_kept (HhLb.out _ (HT1.out.ext (XW.h _)).tab)))) | quiet_step ((first | (go_at_call 8; with_reducible exact calls_kept (HhLa.out _ (HT1.out.ext (XW.h _)).tab)) | (go_at_call 8; with_reducible exact calls_kept (HhLb.out _ (HT1.out.ext (XW.h _)).tab))))))
      all_goals (refine wpQuiet_nil ?_; intro _ hw9; obtain ⟨xq, hw8⟩ := hw9; subst hw8)
      obtain ⟨e0, e1, e2, e3⟩ := HE.out
      replace e0 := xq.h.cell e0
      replace e1 := xq.h.cell e1
      replace e2 := xq.h.cell e2
      replace e3 := xq.h.cell e3
      have HX5 := Lib.hid (HXX.out.trans xq.h)
      clear x0 x1 x2 x3
      go_wp2_with (go_at_call 17; refine (HhOf.out _).mono ?_; rintro e w6 ⟨rfl, hx6⟩; replace e0 := hx6.cell e0; replace e1 := hx6.cell e1; replace e2 := hx6.cell e2; replace e3 := hx6.cell e3; have HX6 := Lib.hid (HX5.out.trans hx6); clear hx6)
      have hO0 := own_lit encN_len w6 [i] 25 w6.heap.size W0.heap.size rfl HX6.out.size (by simp [maxLen])
      go_loopw [10, 11] (fun u kk wr => ∃ (k : Nat) (l : List In) (a : Option Addr) (c : Nat), u = .slice a l.length c ∧ kk = .int .i64 (k : Int) ∧ k ≤ 258 ∧ l = rowO i k ∧ Ext W0 wr ∧ wr.ownsRow W0.heap.size 25 4 (.slice a l.length c) l.length (l.flatMap encN)) (fun _ kk _ => 258 - (intOf kk).toNat)
      case atStart => exact ⟨0, [i], _, _, rfl, rfl, by omega, rfl, HX6.out.alloc _, hO0⟩
      case round =>
        obtain ⟨k, l, a, c, rfl, rfl, hk, hl, hx, hown⟩ := hrel
        clear hO0 e0 e1 e2 e3
        have hll : l.length = k + 1 := by rw [hl, rowO_len]
        by_cases hlt : k < 258
        · have hd : decide (k < 258) = true := decide_eq_true hlt
          have hd2 : decide ((k : Int) < 258) = true := decide_eq_true (by omega)
          have hbd : l.length + [taxI].length ≤ 100000000 := by simp; omega
          have HO := Lib.hid hown
          have HXr := Lib.hid hx
          have HL := Lib.hid (And.intro hl hll)
          clear hown hx hl hll
          go_wp2_with (at_builtin; refine wpList_app_g rfl (.tmp 59) (.tmp 61) 28 rfl Tryd.underlying28 infoP rfl (by decide) encN_len encN_one W0.heap.size (.slice a l.length c) _ l [taxI] rfl rfl (HO.out.alloc _) (rd_lit encN_len wr [taxI] 25 _ rfl) hbd (by decide) (by rw [World.size_alloc]; exact Nat.le_succ_of_le HXr.out.size) ?_; intro au cu w9 ho9 hg9; have HO9 := Lib.hid (And.intro ho9 hg9); clear ho9 hg9)
          go_roundw
          case rel =>
            refine ⟨k + 1, l ++ [taxI], au, cu, by rw [List.length_append]; rfl, by go_num, by omega, by rw [HL.out.1, rowO_succ], (HXr.out.alloc _).grown HO9.out.2 (fun r e => (HO.out.lt r e).1), ?_⟩
            rw [List.length_append]
            exact HO9.out.1
          case measure => simp [intOf]; omega
        · have hk8 : k = 258 := by omega
          subst hk8
          have hd : decide (258 < 258) = false := rfl
          have hCn := fun w (hx : Ext wr w) => Can_calls l (.slice a l.length c) (by rw [hl]; exact HOK.out 258) (by omega) w ((rd_of_own encN_len hown).ext hx)
          rw [hl] at hCn
          obtain ⟨e0, -, -, e3⟩ := blk4 (blk_ext4 HC.out hx)
          have HXr := Lib.hid hx
          rcases HLast.out with h1 | ⟨h1, h2, h3⟩
          · rw [h1, ← hl] at hCn
            have HhC9 := Lib.hid hCn
            clear hx hown hl hll hCn h1
            go_wp2_with (go_at_call 12; refine (HhC9.out _ (Ext.refl _)).mono ?_; rintro e w9 ⟨rfl, hx9⟩; have HX9 := Lib.hid (HXr.out.trans hx9); try (replace e0 := hx9.cell e0; replace e3 := hx9.cell e3); clear hx9)
            go_ret
            exact ⟨by first | rfl | simp, HX0.out.trans HX9.out⟩
          · rw [h1, ← hl] at hCn
            rw [h2] at e0
            have hd9 : decide (257 < i.k) = true := decide_eq_true h3
            have hd8 : decide ((257 : Int) < (i.k : Int)) = true := decide_eq_true (by omega)
            have HhC9 := Lib.hid hCn
            clear hx hown hl hll hCn h1 h2
            go_wp2_with (go_at_call 12; refine (HhC9.out _ (Ext.refl _)).mono ?_; rintro e w9 ⟨rfl, hx9⟩; have HX9 := Lib.hid (HXr.out.trans hx9); try (replace e0 := hx9.cell e0; replace e3 := hx9.cell e3); clear hx9)
            go_ret
            exact ⟨by first | rfl | simp, HX0.out.trans HX9.out⟩
    · generalize str (lineL i p) = sp at *
      generalize str (lineL i q) = sq at *
      clear hsame
      have HhLa := Lib.hid hLa
      clear hLa
      have HhLb := Lib.hid hLb
      clear hLb
      have HhOf := Lib.hid hOf
      clear hOf
      go_enter Tryd.func6, Tryd.ntmps6
      go_wp2_with (go_at_call 16; refine (HhA.out _ HT.out).mono ?_; rintro e w1 ⟨rfl, hx1⟩; replace e0 := hx1.cell e0; replace e1 := hx1.cell e1; replace e2 := hx1.cell e2; replace e3 := hx1.cell e3; have HXX := Lib.hid hx1; clear hx1)
      have x0 := xwc e0
      have x1 := xwc e1
      have x2 := xwc e2
      have x3 := xwc e3
      have HT1 : Hid (Tb w1) := Lib.hid (HT.out.ext HXX.out)
      have HE := Lib.hid (And.intro e0 (And.intro e1 (And.intro e2 e3)))
      clear e0 e1 e2 e3
      refine wp_region_kept (by kernel_rfl) (by kernel_rfl) ?_
      repeat (any_goals (first | go_big_quiet_step ((first | (go_at_call 8; with_reducible exact calls_kept (HhLa.out _ (HT1.out.ext (XW.h _)).tab)) | (go_at_call 8; with_reducible exact calls_kept (HhLb.out _ (HT1.out.ext (XW.h _)).tab)))) | quiet_step ((first | (go_at_call 8; with_reducible exact calls_kept (HhLa.out _ (HT1.out.ext (XW.h _)).tab)) | (go_at_call 8; with_reducible exact calls_kept (HhLb.out _ (HT1.out.ext (XW.h _)).tab))))))
      all_goals (refine wpQuiet_nil ?_; intro _ hw9; obtain ⟨xq, hw8⟩ := hw9; subst hw8)
      obtain ⟨e0, e1, e2, e3⟩ := HE.out
      replace e0 := xq.h.cell e0
      replace e1 := xq.h.cell e1
      replace e2 := xq.h.cell e2
      replace e3 := xq.h.cell e3
      have HX5 := Lib.hid (HXX.out.trans xq.h)
      clear x0 x1 x2 x3
      go_wp2_with (go_at_call 17; refine (HhOf.out _).mono ?_; rintro e w6 ⟨rfl, hx6⟩; replace e0 := hx6.cell e0; replace e1 := hx6.cell e1; replace e2 := hx6.cell e2; replace e3 := hx6.cell e3; have HX6 := Lib.hid (HX5.out.trans hx6); clear hx6)
      have hO0 := own_lit encN_len w6 [i] 25 w6.heap.size W0.heap.size rfl HX6.out.size (by simp [maxLen])
      go_loopw [10, 11] (fun u kk wr => ∃ (k : Nat) (l : List In) (a : Option Addr) (c : Nat), u = .slice a l.length c ∧ kk = .int .i64 (k : Int) ∧ k ≤ 258 ∧ l = rowO i k ∧ Ext W0 wr ∧ wr.ownsRow W0.heap.size 25 4 (.slice a l.length c) l.length (l.flatMap encN)) (fun _ kk _ => 258 - (intOf kk).toNat)
      case atStart => exact ⟨0, [i], _, _, rfl, rfl, by omega, rfl, HX6.out.alloc _, hO0⟩
      case round =>
        obtain ⟨k, l, a, c, rfl, rfl, hk, hl, hx, hown⟩ := hrel
        clear hO0 e0 e1 e2 e3
        have hll : l.length = k + 1 := by rw [hl, rowO_len]
        by_cases hlt : k < 258
        · have hd : decide (k < 258) = true := decide_eq_true hlt
          have hd2 : decide ((k : Int) < 258) = true := decide_eq_true (by omega)
          have hbd : l.length + [taxI].length ≤ 100000000 := by simp; omega
          have HO := Lib.hid hown
          have HXr := Lib.hid hx
          have HL := Lib.hid (And.intro hl hll)
          clear hown hx hl hll
          go_wp2_with (at_builtin; refine wpList_app_g rfl (.tmp 59) (.tmp 61) 28 rfl Tryd.underlying28 infoP rfl (by decide) encN_len encN_one W0.heap.size (.slice a l.length c) _ l [taxI] rfl rfl (HO.out.alloc _) (rd_lit encN_len wr [taxI] 25 _ rfl) hbd (by decide) (by rw [World.size_alloc]; exact Nat.le_succ_of_le HXr.out.size) ?_; intro au cu w9 ho9 hg9; have HO9 := Lib.hid (And.intro ho9 hg9); clear ho9 hg9)
          go_roundw
          case rel =>
            refine ⟨k + 1, l ++ [taxI], au, cu, by rw [List.length_append]; rfl, by go_num, by omega, by rw [HL.out.1, rowO_succ], (HXr.out.alloc _).grown HO9.out.2 (fun r e => (HO.out.lt r e).1), ?_⟩
            rw [List.length_append]
            exact HO9.out.1
          case measure => simp [intOf]; omega
        · have hk8 : k = 258 := by omega
          subst hk8
          have hd : decide (258 < 258) = false := rfl
          have hCn := fun w (hx : Ext wr w) => Can_calls l (.slice a l.length c) (by rw [hl]; exact HOK.out 258) (by omega) w ((rd_of_own encN_len hown).ext hx)
          rw [hl] at hCn
          obtain ⟨e0, -, -, e3⟩ := blk4 (blk_ext4 HC.out hx)
          have HXr := Lib.hid hx
          rcases HLast.out with h1 | ⟨h1, h2, h3⟩
          · rw [h1, ← hl] at hCn
            have HhC9 := Lib.hid hCn
            clear hx hown hl hll hCn h1
            go_wp2_with (go_at_call 12; refine (HhC9.out _ (Ext.refl _)).mono ?_; rintro e w9 ⟨rfl, hx9⟩; have HX9 := Lib.hid (HXr.out.trans hx9); try (replace e0 := hx9.cell e0; replace e3 := hx9.cell e3); clear hx9)
            go_ret
            exact ⟨by first | rfl | simp, HX0.out.trans HX9.out⟩
          · rw [h1, ← hl] at hCn
            rw [h2] at e0
            have hd9 : decide (257 < i.k) = true := decide_eq_true h3
            have hd8 : decide ((257 : Int) < (i.k : Int)) = true := decide_eq_true (by omega)
            have HhC9 := Lib.hid hCn
            clear hx hown hl hll hCn h1 h2
            go_wp2_with (go_at_call 12; refine (HhC9.out _ (Ext.refl _)).mono ?_; rintro e w9 ⟨rfl, hx9⟩; have HX9 := Lib.hid (HXr.out.trans hx9); try (replace e0 := hx9.cell e0; replace e3 := hx9.cell e3); clear hx9)
            go_ret
            exact ⟨by first | rfl | simp, HX0.out.trans HX9.out⟩
end L07
end Go.Proofs.YtbpmokffhmiacaaDoor
