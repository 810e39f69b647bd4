/- Layer 23: the spans of numbers and ways, and those between: as plain lists, and the walk of the iterator pieces. -/
import Derived.Test.YtaclndhenhjjaaaSpanG
namespace Go.Proofs.Ytaclndhenhjjaaa
open Go.RowKit Go.Shelf V
attribute [local go_sem] Oper.semAt_some
namespace L23
def encU (n : Nat) : List Value := [.int .u32 (n : Int)]
def encI (i : Int) : List Value := [.int .i64 i]
theorem rdU_cell {w : World} {v : Value} {xs : List Nat} (h : Rd w 1 encU v xs) : ∃ a c, v = .slice a xs.length c ∧ xs.length ≤ c ∧ ∀ i, (hi : i < xs.length) → ∃ b o, a = some ⟨b, o, none⟩ ∧ w.cell? ⟨b, o + i, none⟩ = some (.int .u32 (xs[i] : Int)) := by
  obtain ⟨a, c, h1, h2, h3, h4⟩ := h
  refine ⟨a, c, h1, h2, fun i hi => ?_⟩
  obtain ⟨b, o, e, k⟩ := h4 i hi
  have := k 0 (by simp [encU])
  rw [Nat.mul_one] at this
  exact ⟨b, o, e, this⟩
theorem rdI_cell {w : World} {v : Value} {xs : List Int} (h : Rd w 1 encI v xs) : ∃ a c, v = .slice a xs.length c ∧ xs.length ≤ c ∧ ∀ i, (hi : i < xs.length) → ∃ b o, a = some ⟨b, o, none⟩ ∧ w.cell? ⟨b, o + i, none⟩ = some (.int .i64 xs[i]) := by
  obtain ⟨a, c, h1, h2, h3, h4⟩ := h
  refine ⟨a, c, h1, h2, fun i hi => ?_⟩
  obtain ⟨b, o, e, k⟩ := h4 i hi
  have := k 0 (by simp [encI])
  rw [Nat.mul_one] at this
  exact ⟨b, o, e, this⟩
/-- the span ahead of a number, if there is room for one -/
def gap (o : Int) (next n : Nat) : List Span := if next < n then [⟨next, n - 1, o⟩] else []
/-- the spans of numbers from one on, those between, and the one behind them all -/
def pc (o : Int) : List Nat → List Int → Nat → List Span
  | n :: r, w :: q, next => gap o next n ++ ⟨n, n, w⟩ :: pc o r q (n + 1)
  | [], _, next => gap o next 4294967296
  | _ :: _, [], next => gap o next 4294967296
theorem pc_step {o : Int} {ns : List Nat} {ws : List Int} {k : Nat} (h : k < ns.length) (h' : k < ws.length) (next : Nat) : pc o (ns.drop k) (ws.drop k) next = gap o next ns[k] ++ ⟨ns[k], ns[k], ws[k]⟩ :: pc o (ns.drop (k + 1)) (ws.drop (k + 1)) (ns[k] + 1) := by
  rw [List.drop_eq_getElem_cons h, List.drop_eq_getElem_cons h']; rfl
theorem pc_end (o : Int) (ns : List Nat) (ws : List Int) (next : Nat) : pc o (ns.drop ns.length) ws next = gap o next 4294967296 := by
  rw [List.drop_length]; rfl
theorem pc_len (o : Int) : ∀ (ns : List Nat) (ws : List Int) (next : Nat), (pc o ns ws next).length ≤ 2 * ns.length + 1
  | n :: r, w :: q, next => by
    have := pc_len o r q (n + 1)
    unfold pc gap
    split <;> simp <;> omega
  | [], _, next => by unfold pc gap; split <;> simp
  | _ :: _, [], next => by unfold pc gap; split <;> simp
abbrev tupS (x : Span) : Array Value := #[.agg #[.int .u32 (x.lo : Int), .int .u32 (x.hi : Int), .int .i64 x.way]]
set_option maxRecDepth 100000 in
set_option maxHeartbeats 2000000 in
theorem pieces1_in (l b1 b2 b3 n₀ : Nat) (vn vw : Value) (ns : List Nat) (ws : List Int) (o : Int) (hl : ns.length ≤ 1000000) (hlw : ns.length = ws.length) (hns : ∀ n ∈ ns, n < 4294967296) (J Jx : List Span → World → Prop) (w W : World) (hE : Ext w W)
    (_hn₀ : n₀ ≤ w.heap.size) (xs : List Span) (hxs : xs = pc o ns ws 0)
    (hvn : Rd w 1 encU vn ns) (hvw : Rd w 1 encI vw ws) (hlown : ∀ b o c, vn = .slice (some ⟨b, o, none⟩) ns.length c → 0 < ns.length → b < n₀) (hloww : ∀ b o c, vw = .slice (some ⟨b, o, none⟩) ws.length c → 0 < ws.length → b < n₀)
    (h1 : b1 < n₀) (h2 : b2 < n₀) (h3 : b3 < n₀) (c1 : w.cell? ⟨b1, 0, none⟩ = some vn) (c2 : w.cell? ⟨b2, 0, none⟩ = some (.int .i64 o)) (c3 : w.cell? ⟨b3, 0, none⟩ = some vw)
    (hY : ∀ (pre : List Span) (x : Span) W, J pre W → pre.length < xs.length → YieldAt Fence.wide (3 - 1) Try.prog l (tupS x) W fun e W' =>
      (e = .returned (.bool true) ∧ J (pre ++ [x]) W' ∧ Below n₀ W W') ∨ (e = .returned (.bool false) ∧ Jx (pre ++ [x]) W'))
    (h0 : J [] W) :
    CallsIn Fence.wide 3 Try.prog 41 #[.func (.yield l) #[] #[], .pointer (some ⟨b1, 0, none⟩), .pointer (some ⟨b2, 0, none⟩), .pointer (some ⟨b3, 0, none⟩)] W fun e W' => (∃ v, e = .returned v) ∧
      ((∃ ys, ys = xs ∧ J ys W') ∨ (∃ pre, pre <+: xs ∧ Jx pre W')) := by
  obtain ⟨an, cn, rfl, hacn, hcan⟩ := rdU_cell hvn
  obtain ⟨aw, cw, rfl, hacw, hcaw⟩ := rdI_cell hvw
  clear hvn hvw
  replace c1 := hE.cell c1; replace c2 := hE.cell c2; replace c3 := hE.cell c3
  refine callsIn_of_wp Try.func41 rfl trivial ?_ rfl
  simp only [Try.ntmps41, List.size_toArray, List.length_cons, List.length_nil, Nat.reduceAdd, Nat.reduceSub, Array.replicate_succ, Array.replicate_zero, List.push_toArray, List.append_toArray, List.nil_append, List.cons_append]
  gi_wp2
  gi_loopw [5, 10] (fun nx i wr => ∃ (k : Nat) (next : Nat) (pre : List Span), k ≤ ns.length ∧ next ≤ 4294967296 ∧ i = .int .i64 k ∧ nx = .int .u64 next ∧ J pre wr ∧ Below n₀ W wr ∧ xs = pre ++ pc o (ns.drop k) (ws.drop k) next) (fun _ i _ => ns.length - (intOf i).toNat)
  case atStart => exact ⟨0, 0, [], Nat.zero_le _, by omega, rfl, rfl, h0, Below.refl _ _, by simpa using hxs⟩
  case round =>
    obtain ⟨k, next, pre, hk, hnext, rfl, rfl, hJ, hB, hsplit⟩ := hrel
    have d1 := (hB.cell (p := ⟨b1, 0, none⟩) h1).trans c1
    have d2 := (hB.cell (p := ⟨b2, 0, none⟩) h2).trans c2
    have d3 := (hB.cell (p := ⟨b3, 0, none⟩) h3).trans c3
    by_cases hlt : k < ns.length
    · obtain ⟨b, q, rfl, g1⟩ := hcan k hlt
      obtain ⟨b', q', rfl, g2⟩ := hcaw k (by omega)
      have hb := hlown b q cn rfl (by omega)
      have hb' := hloww b' q' cw rfl (by omega)
      replace g1 := (hB.cell (p := ⟨b, q + k, none⟩) hb).trans (hE.cell g1)
      replace g2 := (hB.cell (p := ⟨b', q' + k, none⟩) hb').trans (hE.cell g2)
      rw [pc_step hlt (by omega)] at hsplit
      have hnk := hns _ (List.getElem_mem hlt)
      clear hcan hcaw
      generalize ns[k] = n at *
      generalize ws[k]'(by omega) = wy at *
      have hkw : k < ws.length := by omega
      generalize ws.length = nws at *
      by_cases hn : next < n
      · have hd : decide (next < n) = true := decide_eq_true hn
        have hd' : decide ((next : Int) < (n : Int)) = true := decide_eq_true (by omega)
        obtain ⟨j, hjn⟩ : ∃ j, j = n - 1 := ⟨n - 1, by omega⟩
        have hj : ((n : Int) - 1) = (j : Int) := by omega
        have hjl : j < 4294967296 := by omega
        have hnl : next < 4294967296 := by omega
        have hg : gap o next n = [⟨next, j, o⟩] := by unfold gap; rw [if_pos hn, hjn]
        rw [hg] at hsplit
        obtain ⟨fn, tmps, assign, body, hy, hR⟩ := hY pre ⟨next, j, o⟩ wr hJ (by rw [hsplit]; simp)
        have Hhjn := Lib.hid hjn
        clear hjn
        gi_wp2
        refine hR.mono ?_
        rintro e W3 (⟨rfl, hJ3, hk3⟩ | ⟨rfl, hJx3⟩)
        · obtain ⟨fn', tmps', assign', body', hy', hR'⟩ := hY (pre ++ [⟨next, j, o⟩]) ⟨n, n, wy⟩ W3 hJ3 (by rw [hsplit]; simp)
          replace d2 := (hk3.cell (p := ⟨b2, 0, none⟩) h2).trans d2
          replace d3 := (hk3.cell (p := ⟨b3, 0, none⟩) h3).trans d3
          replace g2 := (hk3.cell (p := ⟨b', q' + k, none⟩) hb').trans g2
          gi_wp2
          refine hR'.mono ?_
          rintro e W4 (⟨rfl, hJ4, hk4⟩ | ⟨rfl, hJx4⟩)
          · gi_wp2
            go_roundw
            case rel => exact ⟨k + 1, n + 1, _, by omega, by omega, by go_num, by go_num, hJ4, (hB.trans hk3).trans hk4, by rw [hsplit]; simp⟩
            case measure => simp [intOf]; omega
          · gi_wp2
            refine bodyPost_ret (results_none rfl _ _ _) rfl ?_
            exact ⟨⟨_, rfl⟩, .inr ⟨_, by rw [hsplit]; exact ⟨pc o (ns.drop (k + 1)) (ws.drop (k + 1)) (n + 1), by simp⟩, hJx4⟩⟩
        · gi_wp2
          refine bodyPost_ret (results_none rfl _ _ _) rfl ?_
          exact ⟨⟨_, rfl⟩, .inr ⟨_, by rw [hsplit]; exact ⟨_, by rw [List.append_assoc]⟩, hJx3⟩⟩
      · have hd : decide (next < n) = false := decide_eq_false hn
        have hd' : decide ((next : Int) < (n : Int)) = false := decide_eq_false (by omega)
        have hg : gap o next n = [] := by unfold gap; rw [if_neg hn]
        rw [hg, List.nil_append] at hsplit
        obtain ⟨fn', tmps', assign', body', hy', hR'⟩ := hY pre ⟨n, n, wy⟩ wr hJ (by rw [hsplit]; simp)
        gi_wp2
        refine ⟨(fun _ h => by cases h), ?_⟩
        gi_wp2
        refine hR'.mono ?_
        rintro e W4 (⟨rfl, hJ4, hk4⟩ | ⟨rfl, hJx4⟩)
        · gi_wp2
          go_roundw
          case rel => exact ⟨k + 1, n + 1, _, by omega, by omega, by go_num, by go_num, hJ4, hB.trans hk4, by rw [hsplit]; simp⟩
          case measure => simp [intOf]; omega
        · gi_wp2
          refine bodyPost_ret (results_none rfl _ _ _) rfl ?_
          exact ⟨⟨_, rfl⟩, .inr ⟨_, by rw [hsplit]; exact ⟨pc o (ns.drop (k + 1)) (ws.drop (k + 1)) (n + 1), by simp⟩, hJx4⟩⟩
    · obtain rfl : k = ns.length := by omega
      rw [pc_end] at hsplit
      by_cases hn : next < 4294967296
      · have hg : gap o next 4294967296 = [⟨next, 4294967295, o⟩] := by unfold gap; rw [if_pos hn]
        rw [hg] at hsplit
        have hd : decide (next < 4294967296) = true := decide_eq_true hn
        have hd' : decide ((next : Int) < 4294967296) = true := decide_eq_true (by omega)
        obtain ⟨fn, tmps, assign, body, hy, hR⟩ := hY pre ⟨next, 4294967295, o⟩ wr hJ (by rw [hsplit]; simp)
        clear hcan hcaw
        have hlit : ((4294967295 : Nat) : Int) = 4294967295 := rfl
        simp only [tupS, hlit] at hy
        gi_wp2
        refine hR.mono ?_
        rintro e W3 (⟨rfl, hJ3, hk3⟩ | ⟨rfl, hJx3⟩)
        · gi_wp2
          go_end0
          exact ⟨⟨_, rfl⟩, .inl ⟨_, hsplit.symm, hJ3⟩⟩
        · gi_wp2
          go_end0
          exact ⟨⟨_, rfl⟩, .inr ⟨xs, List.prefix_refl _, by rw [hsplit]; exact hJx3⟩⟩
      · have hd : decide (next < 4294967296) = false := decide_eq_false hn
        have hd' : decide ((next : Int) < 4294967296) = false := decide_eq_false (by omega)
        have hg : gap o next 4294967296 = [] := by unfold gap; rw [if_neg hn]
        rw [hg, List.append_nil] at hsplit
        have Hhn := Lib.hid hn
        clear hn
        have Hhnext := Lib.hid hnext
        clear hnext
        clear hcan hcaw
        gi_wp2
        go_end0
        exact ⟨⟨_, rfl⟩, .inl ⟨_, rfl, by rw [hsplit]; exact hJ⟩⟩
end L23
end Go.Proofs.Ytaclndhenhjjaaa
