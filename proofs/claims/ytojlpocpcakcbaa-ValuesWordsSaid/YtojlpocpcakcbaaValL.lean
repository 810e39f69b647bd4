/- Layer 15: the walks of the laws ValuesWords and ValuesPlain. -/
import Derived.Laws.StructEq
import Derived.Test.YtojlpocpcakcbaaValK
namespace Go.Proofs.Ytojlpocpcakcbaa
open Go.RowKit Go.Shelf Go.Sort V
attribute [local go_sem] Oper.semAt_some
namespace L10
theorem ws_count : ∀ ws : List (List UInt8), (∀ x ∈ ws, GoodW x) → ws.length ≤ ws.flatten.length
  | [], _ => Nat.le_refl _
  | x :: r, h => by
    have h1 := (h x (List.mem_cons_self ..)).1
    have h2 := ws_count r fun y hy => h y (List.mem_cons_of_mem _ hy)
    have h3 : 0 < x.length := List.length_pos_iff.2 h1
    simp only [List.length_cons, List.flatten_cons, List.length_append]
    omega
theorem wds_count (s : ByteArray) : (wdsL (bytes s) []).length ≤ s.size := by
  have h1 := ws_count (wdsL (bytes s) []) (wds_good _ [] fun _ h => by cases h)
  have h2 := wds_len (bytes s) []
  rw [bytes_len, List.length_nil, Nat.add_zero] at h2
  omega
set_option maxRecDepth 100000 in
set_option maxHeartbeats 4000000 in
theorem ValuesWords_calls (s : ByteArray) (w : World) : Calls Try.prog 3 #[.string s] w fun e w' => e = .returned (.bool true) ∧ Ext w w' := by
  by_cases h1 : 2000 < s.size
  · have g1 : decide (2000 < s.size) = true := decide_eq_true h1
    have g2 : decide ((2000 : Int) < (s.size : Int)) = true := decide_eq_true (by omega)
    go_enter Try.func3, Try.ntmps3
    go_wp2_with fail
    go_ret
    exact ⟨rfl, Ext.refl _⟩
  have g1 : decide (2000 < s.size) = false := decide_eq_false h1
  have g2 : decide ((2000 : Int) < (s.size : Int)) = false := decide_eq_false (by omega)
  have hW := fun W => Words_calls s (by omega) W
  rw [fields_words] at hW
  have hV := fun W => rWords_calls s (by omega) W
  have hn := wds_count s
  have hlm : ((wdsL (bytes s) []).map str).length = (wdsL (bytes s) []).length := List.length_map _
  rw [← hlm] at hn
  have hB := fun W => Bool_calls s W
  have hC := fun W => rBool_calls s W
  have hT := fun W => Turned_calls s W
  have hU := fun W => rTurned_calls s (by omega) W
  have hA := fun W => awake15_calls W
  generalize (wdsL (bytes s) []).map str = L at *
  generalize boolL s = BB at *
  obtain ⟨bb, be⟩ := BB
  generalize str (Lib.trimPrefix (bytes s) [126]) = tt at *
  generalize Lib.hasPrefix (bytes s) [126] = tb at *
  dsimp only at *
  clear hlm
  have HhW := Lib.hid hW
  clear hW
  have HhV := Lib.hid hV
  clear hV
  have HhB := Lib.hid hB
  clear hB
  have HhC := Lib.hid hC
  clear hC
  have HhT := Lib.hid hT
  clear hT
  have HhU := Lib.hid hU
  clear hU
  have HhA := Lib.hid hA
  clear hA
  go_enter Try.func3, Try.ntmps3
  go_wp2_with fail
  refine (HhW.out _).mono ?_
  rintro _ w1 ⟨v1, rfl, hx1, ho1⟩
  obtain ⟨a1, c1, rfl, hle1, hc1⟩ := rdS1_cell (rd_of_own encS1_len ho1)
  have HX1 := Lib.hid hx1
  have Hhc1 := Lib.hid hc1
  clear hc1
  clear hx1 ho1
  go_wp2_with fail
  refine (HhV.out _).mono ?_
  rintro _ w2 ⟨v2, rfl, hx2, ho2⟩
  obtain ⟨a2, c2, rfl, hle2, hc2⟩ := rdS1_cell (rd_of_own encS1_len ho2)
  have HX12 := Lib.hid hx2
  have HX2 := Lib.hid (HX1.out.trans hx2)
  have Hhc2 := Lib.hid hc2
  clear hc2
  clear hx2 ho2
  go_wp2_with fail
  go_loopw [5] (fun i wr => ∃ k : Nat, k ≤ L.length ∧ i = .int .i64 k ∧ Ext w2 wr) (fun i _ => L.length - (intOf i).toNat)
  case atStart => exact ⟨0, by omega, rfl, Ext.refl _⟩
  case round =>
    obtain ⟨k, hk, rfl, hx⟩ := hrel
    have HX := Lib.hid hx
    clear hx
    by_cases hlt : k < L.length
    · obtain ⟨b1, o1, rfl, d1⟩ := Hhc1.out k hlt
      obtain ⟨b2, o2, rfl, d2⟩ := Hhc2.out k hlt
      replace d1 := (HX12.out.trans HX.out).cell d1
      replace d2 := HX.out.cell d2
      have h0k : (0 : Int) ≤ (k : Int) ∧ (k : Int) < (L.length : Int) := by omega
      generalize L[k] = x at *
      go_wp2_with (go_quiet (fail))
      go_roundw
      case rel => exact ⟨k + 1, by omega, by go_num, HX.out.drewN _⟩
      case measure => simp [intOf]; omega
    · obtain rfl : k = L.length := by omega
      have HX3 := Lib.hid (HX2.out.trans HX.out)
      go_wp2_with fail
      refine (HhB.out _).mono ?_
      rintro _ w4 ⟨rfl, hx4⟩
      have HX4 := Lib.hid (HX3.out.trans hx4)
      clear hx4
      go_wp2_with fail
      refine (HhC.out _).mono ?_
      rintro _ w5 ⟨rfl, hx5⟩
      have HX5 := Lib.hid (HX4.out.trans hx5)
      clear hx5
      go_wp2_with fail
      refine (HhT.out _).mono ?_
      rintro _ w6 ⟨rfl, rfl⟩
      go_wp2_with fail
      refine (HhU.out _).mono ?_
      rintro _ w7 ⟨rfl, hx7⟩
      have HX7 := Lib.hid (HX5.out.trans hx7)
      clear hx7
      go_wp2_with fail
      refine (HhA.out _).mono ?_
      rintro _ w8 ⟨rfl, hx8⟩
      go_wp2_with fail
      go_ret
      exact ⟨rfl, HX7.out.trans hx8⟩
set_option maxRecDepth 100000 in
set_option maxHeartbeats 8000000 in
theorem ValuesPlain_calls (s : ByteArray) (w : World) : Calls Try.prog 4 #[.string s] w fun e w' => e = .returned (.bool true) ∧ Ext w w' := by
  have hA := fun W => awake15_calls W
  have HhA := Lib.hid hA
  clear hA
  by_cases h1 : 2000 < s.size
  · have g1 : decide (2000 < s.size) = true := decide_eq_true h1
    have g2 : decide ((2000 : Int) < (s.size : Int)) = true := decide_eq_true (by omega)
    go_enter Try.func4, Try.ntmps4
    go_wp2_with fail
    refine (HhA.out _).mono ?_
    rintro _ w1 ⟨rfl, hx1⟩
    go_wp2_with fail
    go_ret
    exact ⟨rfl, hx1⟩
  have g1 : decide (2000 < s.size) = false := decide_eq_false h1
  have g2 : decide ((2000 : Int) < (s.size : Int)) = false := decide_eq_false (by omega)
  have hW := fun W => Words_calls s (by omega) W
  rw [fields_words] at hW
  have hn := wds_count s
  have hgood := wds_good (bytes s) [] (fun _ h => by cases h)
  have hfl := wds_len (bytes s) []
  rw [bytes_len, List.length_nil, Nat.add_zero] at hfl
  generalize wdsL (bytes s) [] = ws at *
  have htl := tL_len ws hgood
  have hM := fun W => Words_calls (str (tL ws)) (by rw [str_size]; omega) W
  rw [fields_words, bytes_str, wds_tL ws hgood] at hM
  have hpre : ∀ k, (tL (ws.take k)).length ≤ 8000 := fun k => by
    have h1 : tL ws = tL (ws.take k) ++ tL (ws.drop k) := by unfold tL; rw [← List.flatMap_append, List.take_append_drop]
    have h2 := congrArg List.length h1
    rw [List.length_append] at h2
    omega
  have hwl : ∀ k (h : k < ws.length), ws[k].length ≤ 2000 := fun k h => by
    have h1 : ws = ws.take k ++ (ws[k] :: ws.drop (k + 1)) := by rw [← List.drop_eq_getElem_cons h, List.take_append_drop]
    have h2 := congrArg (fun l => l.flatten.length) h1
    simp only [List.flatten_append, List.flatten_cons, List.length_append] at h2
    omega
  have hlm : (ws.map str).length = ws.length := List.length_map _
  rw [hlm] at hW hM
  clear hfl htl
  have HhW := Lib.hid hW
  clear hW
  have HhM := Lib.hid hM
  clear hM
  have Hhgood := Lib.hid hgood
  clear hgood
  have Hhpre := Lib.hid hpre
  clear hpre
  have Hhwl := Lib.hid hwl
  clear hwl
  have Hhlm := Lib.hid hlm
  clear hlm
  go_enter Try.func4, Try.ntmps4
  go_wp2_with fail
  refine (HhW.out _).mono ?_
  rintro _ w1 ⟨v1, rfl, hx1, ho1⟩
  obtain ⟨a1, c1, e1, hle1, hc1⟩ := rdS1_cell (rd_of_own encS1_len (by rw [Hhlm.out]; exact ho1))
  rw [Hhlm.out] at e1 hle1
  subst e1
  have HX1 := Lib.hid hx1
  have hc1 : ∀ k (h : k < ws.length), ∃ b o, a1 = some ⟨b, o, none⟩ ∧ w1.cell? ⟨b, o + k, none⟩ = some (.string (str ws[k])) := fun k h => by
    have h2 := hc1 k (by rw [Hhlm.out]; exact h)
    rwa [List.getElem_map] at h2
  have Hhc1 := Lib.hid hc1
  clear hc1
  clear hx1 ho1
  go_wp2_with fail
  go_loopw [4, 5] (fun t i wr => ∃ k : Nat, k ≤ ws.length ∧ i = .int .i64 k ∧ t = .string (str (tL (ws.take k))) ∧ Ext w1 wr) (fun _ i _ => ws.length - (intOf i).toNat)
  case atStart => exact ⟨0, by omega, rfl, rfl, Ext.refl _⟩
  case round =>
    obtain ⟨k, hk, rfl, rfl, hx⟩ := hrel
    have HX := Lib.hid hx
    clear hx
    by_cases hlt : k < ws.length
    · obtain ⟨b1, o1, rfl, d1⟩ := Hhc1.out k hlt
      replace d1 := HX.out.cell d1
      have h0k : (0 : Int) ≤ (k : Int) ∧ (k : Int) < (ws.length : Int) := by omega
      obtain ⟨hne, hnb⟩ := Hhgood.out _ (List.getElem_mem hlt)
      have hemp := str_emp ws[k]
      rw [decide_eq_false hne] at hemp
      have hz1 := Hhpre.out k
      have hz2 := Hhwl.out k hlt
      have hsn : str (tL (ws.take k)) ++ (⟨#[32, 9]⟩ : ByteArray) ++ str ws[k] ++ (⟨#[13]⟩ : ByteArray) = str (tL (ws.take (k + 1))) := by
        rw [List.take_succ_eq_append_getElem hlt, tL_snoc, show (⟨#[32, 9]⟩ : ByteArray) = str [32, 9] from rfl, show (⟨#[13]⟩ : ByteArray) = str [13] from rfl, str_app, str_app, str_app]
        simp
      have hby : ∀ j (h : j < (str ws[k]).size), (((((str ws[k])[j]'h).toNat : Int)) == 32) = false ∧ (((((str ws[k])[j]'h).toNat : Int)) == 9) = false ∧ (((((str ws[k])[j]'h).toNat : Int)) == 13) = false := fun j h => by
        have hb := hnb ((str ws[k])[j]'h) (by
          have h2 : (str ws[k])[j]'h = ws[k][j]'h := rfl
          rw [h2]; exact List.getElem_mem _)
        unfold blk at hb
        rw [Bool.or_eq_false_iff, Bool.or_eq_false_iff, beq_eq_false_iff_ne, beq_eq_false_iff_ne, beq_eq_false_iff_ne] at hb
        obtain ⟨⟨n1, n2⟩, n3⟩ := hb
        have ne : ∀ c d : UInt8, c ≠ d → ((c.toNat : Int) == (d.toNat : Int)) = false := fun c d h => by
          rw [beq_eq_false_iff_ne]; intro e; exact h (UInt8.toNat_inj.1 (by omega))
        exact ⟨ne _ _ n1, ne _ _ n2, ne _ _ n3⟩
      rw [← str_size] at hz1 hz2
      clear hne hnb
      have Hhsn := Lib.hid hsn
      clear hsn
      have Hhby := Lib.hid hby
      clear hby
      generalize str ws[k] = x at *
      generalize str (tL (ws.take k)) = tt at *
      obtain ⟨wo, hwo⟩ : ∃ wo, wo = wr := ⟨_, rfl⟩
      subst hwo
      go_wp2_with fail
      go_loopw [6] (fun j wz => ∃ m : Nat, m ≤ x.size ∧ j = .int .i64 m ∧ Ext wo wz) (fun j _ => x.size - (intOf j).toNat)
      case atStart => exact ⟨0, by omega, rfl, Ext.refl _⟩
      case round =>
        obtain ⟨m, hm, rfl, hz⟩ := hrel
        have HZ := Lib.hid hz
        have d2 := hz.cell d1
        clear hz
        by_cases hml : m < x.size
        · obtain ⟨m1, m2, m3⟩ := Hhby.out m hml
          have h0m : (0 : Int) ≤ (m : Int) ∧ (m : Int) < (x.size : Int) := by omega
          go_wp2_with fail
          go_roundw
          case rel => exact ⟨m + 1, by omega, by go_num, HZ.out⟩
          case measure => simp [intOf]; omega
        · obtain rfl : m = x.size := by omega
          go_wp2_with fail
          rw [Hhsn.out]
          go_roundw
          case rel => exact ⟨k + 1, by omega, by go_num, rfl, HX.out.trans HZ.out⟩
          case measure => simp [intOf]; omega
    · obtain rfl : k = ws.length := by omega
      rw [List.take_length]
      go_wp2_with fail
      refine (HhM.out _).mono ?_
      rintro _ w2 ⟨v2, rfl, hx2, ho2⟩
      obtain ⟨a2, c2, e2, hle2, hc2⟩ := rdS1_cell (rd_of_own encS1_len (by rw [Hhlm.out]; exact ho2))
      rw [Hhlm.out] at e2 hle2
      subst e2
      have HX12 := Lib.hid (HX.out.trans hx2)
      have hc2 : ∀ k (h : k < ws.length), ∃ b o, a2 = some ⟨b, o, none⟩ ∧ w2.cell? ⟨b, o + k, none⟩ = some (.string (str ws[k])) := fun k h => by
        have h2 := hc2 k (by rw [Hhlm.out]; exact h)
        rwa [List.getElem_map] at h2
      have Hhc2 := Lib.hid hc2
      clear hc2
      clear hx2 ho2
      go_wp2_with fail
      go_loopw [8] (fun i wq => ∃ k : Nat, k ≤ ws.length ∧ i = .int .i64 k ∧ Ext w2 wq) (fun i _ => ws.length - (intOf i).toNat)
      case atStart => exact ⟨0, by omega, rfl, Ext.refl _⟩
      case round =>
        obtain ⟨k, hk2, rfl, hq⟩ := hrel
        have HQ := Lib.hid hq
        clear hq
        by_cases hkl : k < ws.length
        · obtain ⟨b1, o1, rfl, d1⟩ := Hhc1.out k hkl
          obtain ⟨b2, o2, rfl, d2⟩ := Hhc2.out k hkl
          replace d1 := (HX12.out.trans HQ.out).cell d1
          replace d2 := HQ.out.cell d2
          have h0k : (0 : Int) ≤ (k : Int) ∧ (k : Int) < (ws.length : Int) := by omega
          generalize str ws[k] = x at *
          go_wp2_with (go_quiet (fail))
          go_roundw
          case rel => exact ⟨k + 1, by omega, by go_num, HQ.out.drewN _⟩
          case measure => simp [intOf]; omega
        · obtain rfl : k = ws.length := by omega
          go_wp2_with fail
          refine (HhA.out _).mono ?_
          rintro _ w8 ⟨rfl, hx8⟩
          go_wp2_with fail
          go_ret
          exact ⟨rfl, HX1.out.trans ((HX12.out.trans HQ.out).trans hx8)⟩
end L10
end Go.Proofs.Ytojlpocpcakcbaa
