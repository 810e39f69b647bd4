/- Layer 24: the law TreeLeaves. -/
import Derived.Test.YtaclndhenhjjaaaTreeJ
namespace Go.Proofs.Ytaclndhenhjjaaa
open Go.RowKit V
namespace L24
open L23
theorem lf_succ {t : List Node} {i : Nat} (h : i < t.length) : leaves (t.take (i + 1)) = leaves (t.take i) ++ (if t[i].leaf = true then [t[i].way] else []) := by
  unfold leaves
  rw [List.take_succ_eq_append_getElem h, List.filter_append, List.map_append]
  congr 1
  by_cases hl : t[i].leaf = true
  · rw [if_pos hl]; simp [hl]
  · rw [if_neg hl]; simp [hl]
theorem lf_at {t : List Node} {i : Nat} (h : i < t.length) (hl : t[i].leaf = true) : (leaves t)[(leaves (t.take i)).length]? = some t[i].way := by
  conv => lhs; arg 1; rw [← List.take_append_drop i t]
  unfold leaves
  rw [List.filter_append, List.map_append, List.getElem?_append_right (Nat.le_refl _), Nat.sub_self, List.drop_eq_getElem_cons h, List.filter_cons_of_pos hl]
  rfl
theorem wys_len (l : List Span) : (wys l).length = l.length := by simp [wys]
set_option maxRecDepth 100000 in
set_option maxHeartbeats 1000000 in
theorem TreeLeaves_calls (v : Value) (l : List Span) (hnl : l.length ≤ maxLen) (hok : ∀ s ∈ l, OkS s) (w : World) (hv : Rd w 3 encS v l) :
    Calls Try.prog 10 #[v] w fun e w' => e = .returned (.bool true) ∧ Ext w w' := by
  have hrd0 := hv
  obtain ⟨a, c, rfl, hac, hca⟩ := rdS_cell hv
  clear hv
  have Hhrd0 := Lib.hid hrd0
  clear hrd0
  have Hhca := Lib.hid hca
  clear hca
  unfold maxLen at hnl
  by_cases hlen : 300 < l.length
  · have hd : decide (300 < l.length) = true := decide_eq_true hlen
    have hd' : decide (300 < (l.length : Int)) = true := decide_eq_true (by omega)
    have Hhlen := Lib.hid hlen
    clear hlen
    go_enter Try.func10, Try.ntmps10
    go_wp2_with (go_at_call 34; refine (awake_calls _).mono ?_; rintro e w1 ⟨rfl, hx1⟩)
    go_ret
    exact ⟨rfl, hx1⟩
  have hd : decide (300 < l.length) = false := decide_eq_false hlen
  have hd' : decide (300 < (l.length : Int)) = false := decide_eq_false (by omega)
  have hB := fun w1 (hx : Ext w w1) => Build_calls _ l (by omega) hok w1 (Hhrd0.out.ext hx)
  cases hw : whole l
  case false =>
    have hA : buildA l = ([], 240) := by unfold buildA; rw [hw]; rfl
    rw [hA] at hB
    have HhB := Lib.hid hB
    clear hB
    have HhA := Lib.hid hA
    clear hA
    have Hhw := Lib.hid hw
    clear hw
    have Hhlen := Lib.hid hlen
    clear hlen
    go_enter Try.func10, Try.ntmps10
    go_wp2_with (first
      | (go_at_call 34; refine (awake_calls _).mono ?_; rintro e w1 ⟨rfl, hx1⟩)
      | (go_at_call 25; refine (HhB.out _ hx1).mono ?_; rintro e w2 ⟨u, rfl, hx2, -⟩))
    go_ret
    exact ⟨rfl, hx1.trans hx2⟩
  have hA : buildA l = (tre l 0, 0) := by unfold buildA; rw [hw]; rfl
  have hp := whole_pos hw
  rw [hA] at hB
  dsimp only at hB
  have htl := tre_len l hp 0
  have hlv := tre_leaves l hp 0
  have hto := tre_ok l hp 0
  have hll : l.length ≤ 300 := by omega
  generalize tre l 0 = t at *
  have HhB := Lib.hid hB
  clear hB
  have HhA := Lib.hid hA
  clear hA
  have Hhw := Lib.hid hw
  clear hw
  have Hhlen := Lib.hid hlen
  clear hlen
  have Hhlv := Lib.hid hlv
  clear hlv
  have Hhto := Lib.hid hto
  clear hto
  have Hhtl := Lib.hid htl
  clear htl
  go_enter Try.func10, Try.ntmps10
  go_wp2_with (first
      | (go_at_call 34; refine (awake_calls _).mono ?_; rintro e w1 ⟨rfl, hx1⟩)
      | (go_at_call 25; refine (HhB.out _ hx1).mono ?_; rintro e w2 ⟨u, rfl, hx2, hq2⟩; have HQ := Lib.hid hq2.rd; obtain ⟨au, cu, rfl, -⟩ := rdN_cell hq2.rd; have HX2 := Lib.hid (hx1.trans hx2); clear hx1 hx2 hq2))
  have htl2 : t.length ≤ 1000 := by have := Hhtl.out; omega
  go_loopw [5, 6] (fun kk i wr => ∃ (j k : Nat), j ≤ t.length ∧ k ≤ l.length ∧ i = .int .i64 j ∧ kk = .int .i64 k ∧ k = (leaves (t.take j)).length ∧ Ext w2 wr) (fun _ i _ => t.length - (intOf i).toNat)
  case atStart => exact ⟨0, 0, by omega, by omega, rfl, rfl, rfl, Ext.refl _⟩
  case round =>
    obtain ⟨j, k, hj, hk, rfl, rfl, hkv, hx⟩ := hrel
    have HX := Lib.hid hx
    by_cases hlt : j < t.length
    · obtain ⟨a1, c1, e1, -, hc1⟩ := rdN_cell (HQ.out.ext hx)
      obtain ⟨rfl, -, rfl⟩ := Value.slice.inj e1
      obtain ⟨b, o, rfl, n1, n2, -, n4, n5⟩ := hc1 j hlt
      have hsc := lf_succ hlt
      have hto := Hhto.out j hlt
      have hat := lf_at hlt
      clear hc1 e1 hx
      cases hlf : t[j].leaf
      case false =>
        rw [hlf] at n1 hto hsc
        obtain ⟨q1, q2, -⟩ := hto.resolve_left (by simp)
        rw [if_neg (by simp), List.append_nil] at hsc
        have Hhsc := Lib.hid hsc
        clear hsc
        have Hhkv := Lib.hid hkv
        clear hkv
        have Hhlf := Lib.hid hlf
        clear hlf
        clear hto hat n2
        generalize t[j].less = ls at *
        generalize t[j].more = mr at *
        have hls : ls = (j : Int) + 1 := by omega
        subst hls
        have hd3 : decide (mr ≤ (j : Int) + 1) = false := decide_eq_false (by omega)
        clear q1
        go_wp2_with (go_quiet (fail))
        go_roundw
        case rel => exact ⟨j + 1, k, by omega, by omega, by go_num, rfl, by rw [Hhsc.out]; exact Hhkv.out, (by repeat (first | exact HX.out | apply Ext.drewN | apply Ext.alloc | apply Ext.drew))⟩
        case measure => simp [intOf]; omega
      case true =>
        have hat2 := hat hlf
        rw [← hkv, Hhlv.out] at hat2
        have hkl : k < l.length := by
          have := (List.getElem?_eq_some_iff.1 hat2).1
          rwa [wys_len] at this
        rw [wys_get l k hkl, wy_get hkl] at hat2
        have hat3 := Option.some.inj hat2
        rw [hlf, if_pos rfl] at hsc
        rw [hlf] at n1
        obtain ⟨b2, o2, e2, -, -, s3⟩ := Hhca.out k hkl
        obtain rfl := e2
        replace s3 := HX2.out.cell s3
        replace s3 := HX.out.cell s3
        rw [hat3] at s3
        have hd3 : decide (l.length ≤ k) = false := decide_eq_false (by omega)
        have hd3' : decide ((l.length : Int) ≤ (k : Int)) = false := decide_eq_false (by omega)
        have Hhsc := Lib.hid hsc
        clear hsc
        have Hhkv := Lib.hid hkv
        clear hkv
        have Hhlf := Lib.hid hlf
        clear hlf
        clear hto hat hat2 hat3 n4 n5
        generalize t[j].way = wy' at *
        go_wp2_with (go_quiet (fail))
        go_roundw
        case rel => exact ⟨j + 1, k + 1, by omega, by omega, by go_num, by go_num, by rw [Hhsc.out, List.length_append, ← Hhkv.out]; rfl, (by repeat (first | exact HX.out | apply Ext.drewN | apply Ext.alloc | apply Ext.drew))⟩
        case measure => simp [intOf]; omega
    · obtain rfl : j = t.length := by omega
      rw [List.take_length, Hhlv.out, wys_len] at hkv
      subst hkv
      have hfin : ((t.length : Int) == 2 * (l.length : Int) - 1) = true := by have := Hhtl.out; simp; omega
      clear hx
      go_wp2_with (go_quiet (fail))
      go_ret
      exact ⟨rfl, HX2.out.trans (by repeat (first | exact HX.out | apply Ext.drewN | apply Ext.alloc | apply Ext.drew))⟩
end L24
end Go.Proofs.Ytaclndhenhjjaaa
