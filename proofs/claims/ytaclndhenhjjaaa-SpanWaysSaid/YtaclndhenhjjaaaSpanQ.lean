/- Layer 23: the law SpanWays. -/
import Derived.Test.YtaclndhenhjjaaaSpanN
import Derived.Test.YtaclndhenhjjaaaSpanP
namespace Go.Proofs.Ytaclndhenhjjaaa
open Go.RowKit Go.Shelf V
namespace L23
theorem pc_ok {o : Int} (ho : -9223372036854775808 ≤ o ∧ o ≤ 9223372036854775807) : ∀ (ns : List Nat) (ws : List Int) (next : Nat), (∀ n ∈ ns, n < 4294967296) → (∀ x ∈ ws, -9223372036854775808 ≤ x ∧ x ≤ 9223372036854775807) → next ≤ 4294967296 → ∀ s ∈ pc o ns ws next, OkS s
  | n :: r, w :: q, next, hn, hw, hx => by
    have hn0 := hn n (by simp)
    have hw0 := hw w (by simp)
    unfold pc
    intro s hs
    rcases List.mem_append.1 hs with hs | hs
    · unfold gap at hs
      split at hs
      · simp at hs; subst hs; exact ⟨by dsimp only; omega, by dsimp only; omega, ho.1, ho.2⟩
      · simp at hs
    · rcases List.mem_cons.1 hs with rfl | hs
      · exact ⟨hn0, hn0, hw0.1, hw0.2⟩
      · exact pc_ok ho r q (n + 1) (fun x hx => hn x (by simp [hx])) (fun x hx => hw x (by simp [hx])) (by omega) s hs
  | [], ws, next, _, _, hx => by
    unfold pc gap
    intro s hs
    split at hs
    · simp at hs; subst hs; exact ⟨by dsimp only; omega, by dsimp only; omega, ho.1, ho.2⟩
    · simp at hs
  | _ :: _, [], next, _, _, hx => by
    unfold pc gap
    intro s hs
    split at hs
    · simp at hs; subst hs; exact ⟨by dsimp only; omega, by dsimp only; omega, ho.1, ho.2⟩
    · simp at hs
set_option maxRecDepth 100000 in
set_option maxHeartbeats 1000000 in
theorem SpanWays_calls (vn vw : Value) (ns : List Nat) (ws : List Int) (o : Int) (n : Nat) (hnl : ns.length ≤ maxLen) (hwl : ws.length ≤ maxLen) (hns : ∀ n ∈ ns, n < 4294967296) (hws : ∀ x ∈ ws, -9223372036854775808 ≤ x ∧ x ≤ 9223372036854775807) (ho : -9223372036854775808 ≤ o ∧ o ≤ 9223372036854775807) (hn : n < 4294967296) (w : World) (hvn : Rd w 1 encU vn ns) (hvw : Rd w 1 encI vw ws) :
    Calls Try.prog 5 #[vn, vw, .int .i64 o, .int .u32 (n : Int)] w fun e w' => e = .returned (.bool true) ∧ Ext w w' := by
  have hvnR := hvn
  have hvwR := hvw
  obtain ⟨an, cn, rfl, hacn, hcan⟩ := rdU_cell hvn
  obtain ⟨aw, cw, rfl, hacw, hcaw⟩ := rdI_cell hvw
  clear hvn hvw
  have HhvnR := Lib.hid hvnR
  clear hvnR
  have HhvwR := Lib.hid hvwR
  clear hvwR
  unfold maxLen at hnl hwl
  by_cases hlen : 300 < ns.length
  · have hd : decide (300 < ns.length) = true := decide_eq_true hlen
    have hd' : decide (300 < (ns.length : Int)) = true := decide_eq_true (by omega)
    have Hhlen := Lib.hid hlen
    clear hlen
    clear hcan hcaw
    go_enter Try.func5, Try.ntmps5
    go_wp2_with (go_at_call 24; refine (awake_calls _).mono ?_; rintro e w1 ⟨rfl, hx1⟩)
    go_ret
    exact ⟨rfl, hx1⟩
  have hd : decide (300 < ns.length) = false := decide_eq_false hlen
  have hd' : decide (300 < (ns.length : Int)) = false := decide_eq_false (by omega)
  have hof := fun w1 (hx : Ext w w1) => Of_calls _ _ ns ws o (by omega) hns w1 (HhvnR.out.ext hx) (HhvwR.out.ext hx)
  by_cases hg : ns.length = ws.length ∧ up ns 0 = true
  case neg =>
    have hA : ofA ns ws o = ([], 2) := by unfold ofA; rw [if_neg hg]
    rw [hA] at hof
    have Hhof := Lib.hid hof
    clear hof
    have HhA := Lib.hid hA
    clear hA
    clear hcan hcaw hg
    go_enter Try.func5, Try.ntmps5
    go_wp2_with (first
      | (go_at_call 24; refine (awake_calls _).mono ?_; rintro e w1 ⟨rfl, hx1⟩)
      | (go_at_call 13; refine (Hhof.out _ hx1).mono ?_; rintro e w2 ⟨u, rfl, hx2, hq⟩; obtain ⟨au, cu, rfl, -, -⟩ := rdS_cell hq.rd; rw [List.length_nil]; have HQ := Lib.hid hq; clear hq))
    go_ret
    exact ⟨rfl, hx1.trans hx2⟩
  obtain ⟨hl, hu⟩ := hg
  have hA : ofA ns ws o = (merge (pc o ns ws 0), 0) := by unfold ofA; rw [if_pos ⟨hl, hu⟩]
  have hwh := pc_whole (o := o) hl hu hns
  have hmd := merged_merge hwh
  have hml := merge_len (pc o ns ws 0)
  have hpl := pc_len o ns ws 0
  have hway : ∀ m, m < 4294967296 → way (merge (pc o ns ws 0)) m = (look ns ws o m, true) := fun m hm => by rw [way_merge hwh, pc_way o ns ws 0 m hl hu (Nat.zero_le _) hm]
  have hoks := merge_ok (pc_ok ho ns ws 0 hns hws (by omega))
  clear hwh
  rw [hA] at hof
  dsimp only at hof
  have hlst := lst_look (o := o) (n := n) hl hu
  have hlk : ∀ k (h : k < ns.length) (h' : k < ws.length), look ns ws o ns[k] = ws[k] := fun k h h' => look_at h h' hu
  clear hA hu
  generalize merge (pc o ns ws 0) = ms at *
  have hml2 : ms.length ≤ 2 * ns.length + 1 := by omega
  clear hml hpl
  generalize hlv : look ns ws o n = lv at hlst
  have hwn := hway n hn
  rw [hlv] at hwn
  have hd2 : decide (2 * (ns.length : Int) + 1 < (ms.length : Int)) = false := decide_eq_false (by omega)
  have hd3 : ((ns.length : Int) != (ws.length : Int)) = false := by rw [hl]; simp
  have hd4 : (ns.length != ws.length) = false := by rw [hl]; simp
  have Hhlv := Lib.hid hlv
  clear hlv
  have Hhoks := Lib.hid hoks
  clear hoks
  have Hhl := Lib.hid hl
  clear hl
  have Hhlst := Lib.hid hlst
  clear hlst
  have Hhlk := Lib.hid hlk
  clear hlk
  have Hhmd := Lib.hid hmd
  clear hmd
  have Hhway := Lib.hid hway
  clear hway
  have Hhwn := Lib.hid hwn
  clear hwn
  have Hhof := Lib.hid hof
  clear hof
  have Hhcan := Lib.hid hcan
  clear hcan
  have Hhcaw := Lib.hid hcaw
  clear hcaw
  go_enter Try.func5, Try.ntmps5
  go_wp2_with (first
      | (go_at_call 24; refine (awake_calls _).mono ?_; rintro e w1 ⟨rfl, hx1⟩)
      | (go_at_call 13; refine (Hhof.out _ hx1).mono ?_; rintro e w2 ⟨u, rfl, hx2, hq⟩; have HQ := Lib.hid hq.rd; obtain ⟨au, cu, rfl, -, -⟩ := rdS_cell hq.rd; have HX2 := Lib.hid (hx1.trans hx2); clear hx1 hx2 hq)
      | (go_at_call 21; refine (Merged_calls _ ms (by omega) Hhoks.out _ HQ.out).mono ?_; rw [Hhmd.out]; rintro e w3 ⟨rfl, hx3⟩)
      | (go_quiet (fail)))
  have HX3 := Lib.hid (HX2.out.trans hx3)
  have HQ3 := Lib.hid (HQ.out.ext hx3)
  clear hx3
  go_loopw [11, 12] (fun want i wr => ∃ k : Nat, k ≤ ns.length ∧ i = .int .i64 k ∧ want = .int .i64 (lst ns ws o n k) ∧ Ext w3 wr) (fun _ i _ => ns.length - (intOf i).toNat)
  case atStart => exact ⟨0, by omega, rfl, rfl, Ext.refl _⟩
  case round =>
    obtain ⟨k, hk, rfl, rfl, hx⟩ := hrel
    have HX := Lib.hid (HX3.out.trans hx)
    have HY := Lib.hid hx
    by_cases hlt : k < ns.length
    · have hlt2 : k < ws.length := by have := Hhl.out; omega
      obtain ⟨b, q, rfl, g1⟩ := Hhcan.out k hlt
      obtain ⟨b', q', rfl, g2⟩ := Hhcaw.out k hlt2
      replace g1 := HX.out.cell g1
      replace g2 := HX.out.cell g2
      have hw := Hhway.out ns[k] (hns _ (List.getElem_mem hlt))
      rw [Hhlk.out k hlt hlt2] at hw
      have hnk := hns _ (List.getElem_mem hlt)
      have hstep : lst ns ws o n (k + 1) = if ns[k] = n then ws[k] else lst ns ws o n k := by
        conv => lhs; unfold lst
        rw [List.getElem?_eq_getElem hlt, List.getElem?_eq_getElem hlt2]
        simp
      have hwc := fun v W h => Way_calls v ms ns[k] (by omega) Hhoks.out W h
      rw [hw] at hwc
      have Hhwc := Lib.hid hwc
      clear hwc
      have Hhstep := Lib.hid hstep
      clear hstep
      have Hhw := Lib.hid hw
      clear hw
      clear hx
      generalize ns[k] = nk at *
      generalize ws[k] = wk at *
      generalize lst ns ws o n k = lk at *
      by_cases he : nk = n
      · have he2 : ((nk : Int) == (n : Int)) = true := by rw [he]; simp
        have Hhe := Lib.hid he
        clear he
        go_wp2_with (first
          | (go_at_call 16; refine (Hhwc.out _ _ (HQ3.out.ext HY.out)).mono ?_; rintro e w4 ⟨rfl, hx4⟩; replace g1 := hx4.cell g1; replace g2 := hx4.cell g2)
          | (go_quiet (fail)))
        go_roundw
        case rel => exact ⟨k + 1, by omega, by go_num, by rw [Hhstep.out, if_pos Hhe.out], HY.out.trans hx4⟩
        case measure => simp [intOf]; omega
      · have he2 : ((nk : Int) == (n : Int)) = false := by simp; omega
        have Hhe := Lib.hid he
        clear he
        go_wp2_with (first
          | (go_at_call 16; refine (Hhwc.out _ _ (HQ3.out.ext HY.out)).mono ?_; rintro e w4 ⟨rfl, hx4⟩; replace g1 := hx4.cell g1; replace g2 := hx4.cell g2)
          | (go_quiet (fail)))
        go_roundw
        case rel => exact ⟨k + 1, by omega, by go_num, by rw [Hhstep.out, if_neg Hhe.out], HY.out.trans hx4⟩
        case measure => simp [intOf]; omega
    · obtain rfl : k = ns.length := by omega
      rw [Hhlst.out]
      have hwc := fun v W h => Way_calls v ms n (by omega) Hhoks.out W h
      rw [Hhwn.out] at hwc
      have Hhwc := Lib.hid hwc
      clear hwc
      go_wp2_with (first
        | (go_at_call 16; refine (Hhwc.out _ _ (HQ3.out.ext HY.out)).mono ?_; rintro e w4 ⟨rfl, hx4⟩)
        | (go_quiet (fail)))
      go_ret
      exact ⟨by simp, HX.out.trans hx4⟩
end L23
end Go.Proofs.Ytaclndhenhjjaaa
