/- Layer 23: the walks of pieces, Of, and the reference's Of. -/
import Derived.Test.YtaclndhenhjjaaaSpanH
namespace Go.Proofs.Ytaclndhenhjjaaa
open Go.RowKit Go.Shelf V
attribute [local go_sem] Oper.semAt_some
namespace L23
set_option maxHeartbeats 2000000 in
theorem pieces_calls (a1 a2 : Option Addr) (n1 n2 k1 k2 : Nat) (o : Int) (w : World) :
    Calls Try.prog 36 #[.slice a1 n1 k1, .slice a2 n2 k2, .int .i64 o] w fun e w' => e = .returned (.func (.func 41) #[] #[.pointer (some ⟨w.heap.size, 0, none⟩), .pointer (some ⟨w.heap.size + 2, 0, none⟩), .pointer (some ⟨w.heap.size + 1, 0, none⟩)]) ∧
      Ext w w' ∧ w'.heap.size = w.heap.size + 3 ∧ w'.cell? ⟨w.heap.size, 0, none⟩ = some (.slice a1 n1 k1) ∧ w'.cell? ⟨w.heap.size + 2, 0, none⟩ = some (.int .i64 o) ∧ w'.cell? ⟨w.heap.size + 1, 0, none⟩ = some (.slice a2 n2 k2) := by
  go_enter Try.func36, Try.ntmps36
  go_wp2
  go_ret
  have h1 := Boxed.new w 22 (.slice a1 n1 k1)
  have h2 := Boxed.new (w.alloc (.cells #[.slice a1 n1 k1] 22)) 23 (.slice a2 n2 k2)
  rw [World.size_alloc] at h2
  have h3 := Boxed.new ((w.alloc (.cells #[.slice a1 n1 k1] 22)).alloc (.cells #[.slice a2 n2 k2] 23)) 3 (.int .i64 o)
  rw [World.size_alloc, World.size_alloc] at h3
  exact ⟨rfl, (((Ext.refl w).alloc _).alloc _).alloc _, by simp, ((h1.alloc _).alloc _).cell, h3.cell, (h2.alloc _).cell⟩
theorem rdU_low {w : World} {v : Value} {xs : List Nat} (h : Rd w 1 encU v xs) : ∀ b o c, v = .slice (some ⟨b, o, none⟩) xs.length c → 0 < xs.length → b < w.heap.size := by
  intro b o c e h0
  obtain ⟨a, c', rfl, -, h4⟩ := rdU_cell h
  obtain ⟨b', o', e', g1⟩ := h4 0 h0
  simp only [Value.slice.injEq] at e
  rw [e.1] at e'
  obtain ⟨rfl, rfl⟩ : b = b' ∧ o = o' := by simpa using e'
  exact World.block_lt_of_cell? _ _ g1
theorem rdI_low {w : World} {v : Value} {xs : List Int} (h : Rd w 1 encI v xs) : ∀ b o c, v = .slice (some ⟨b, o, none⟩) xs.length c → 0 < xs.length → b < w.heap.size := by
  intro b o c e h0
  obtain ⟨a, c', rfl, -, h4⟩ := rdI_cell h
  obtain ⟨b', o', e', g1⟩ := h4 0 h0
  simp only [Value.slice.injEq] at e
  rw [e.1] at e'
  obtain ⟨rfl, rfl⟩ : b = b' ∧ o = o' := by simpa using e'
  exact World.block_lt_of_cell? _ _ g1
theorem pieces_stops (b1 b2 b3 : Nat) (vn vw : Value) (ns : List Nat) (ws : List Int) (o : Int) (hl : ns.length ≤ 1000000) (hlw : ns.length = ws.length) (hns : ∀ n ∈ ns, n < 4294967296) (w : World)
    (hvn : Rd w 1 encU vn ns) (hvw : Rd w 1 encI vw ws) (c1 : w.cell? ⟨b1, 0, none⟩ = some vn) (c2 : w.cell? ⟨b2, 0, none⟩ = some (.int .i64 o)) (c3 : w.cell? ⟨b3, 0, none⟩ = some vw) :
    SeqStopsK Fence.wide 3 Try.prog 41 #[.pointer (some ⟨b1, 0, none⟩), .pointer (some ⟨b2, 0, none⟩), .pointer (some ⟨b3, 0, none⟩)] (fun x : Span => #[.agg #[.int .u32 (x.lo : Int), .int .u32 (x.hi : Int), .int .i64 x.way]]) (Below w.heap.size) (fun ys => ys = pc o ns ws 0) (fun pre => pre <+: pc o ns ws 0) (pc o ns ws 0).length w := fun l J Jx W hW _ _ hY h0 => by
  have hE : Ext w W := hW
  exact pieces1_in l b1 b2 b3 w.heap.size vn vw ns ws o hl hlw hns J Jx w W hE (Nat.le_refl _) _ rfl hvn hvw (rdU_low hvn) (rdI_low hvw) (World.block_lt_of_cell? _ _ c1) (World.block_lt_of_cell? _ _ c2) (World.block_lt_of_cell? _ _ c3) c1 c2 c3 hY h0
/-- do numbers rise, from one on? -/
def up : List Nat → Nat → Bool
  | [], _ => true
  | n :: r, next => decide (next ≤ n) && up r (n + 1)
theorem up_step {ns : List Nat} {k : Nat} (h : k < ns.length) (next : Nat) : up (ns.drop k) next = (decide (next ≤ ns[k]) && up (ns.drop (k + 1)) (ns[k] + 1)) := by
  rw [List.drop_eq_getElem_cons h]; rfl
/-- what comes behind the numbers ahead of a place -/
def nextOf (ns : List Nat) (k : Nat) : Nat := if 0 < k then (ns[k - 1]?.getD 0) + 1 else 0
/-- what Of answers -/
def ofA (ns : List Nat) (ws : List Int) (o : Int) : List Span × Int := if ns.length = ws.length ∧ up ns 0 = true then (merge (pc o ns ws 0), 0) else ([], 2)
theorem nextOf_succ {ns : List Nat} {k : Nat} (h : k < ns.length) : nextOf ns (k + 1) = ns[k] + 1 := by unfold nextOf; simp [h]
set_option maxRecDepth 100000 in
set_option maxHeartbeats 2000000 in
theorem Of_calls (vn vw : Value) (ns : List Nat) (ws : List Int) (o : Int) (hl : ns.length ≤ 300000) (hns : ∀ n ∈ ns, n < 4294967296) (w : World) (hvn : Rd w 1 encU vn ns) (hvw : Rd w 1 encI vw ws) :
    Calls Try.prog 13 #[vn, vw, .int .i64 o] w fun e w' => ∃ u, e = .returned (.tuple #[u, .int .i64 (ofA ns ws o).2]) ∧ Ext w w' ∧ Own w' w.heap.size u (ofA ns ws o).1 := by
  have hvnR := hvn
  have hvwR := hvw
  obtain ⟨an, cn, rfl, hacn, hcan⟩ := rdU_cell hvn
  obtain ⟨aw, cw, rfl, hacw, hcaw⟩ := rdI_cell hvw
  clear hvn hvw hcaw
  have HhvnR := Lib.hid hvnR
  clear hvnR
  have HhvwR := Lib.hid hvwR
  clear hvwR
  by_cases hlw : ns.length = ws.length
  · have hd : ((ns.length : Int) != (ws.length : Int)) = false := by rw [hlw]; simp
    have hd' : (ns.length != ws.length) = false := by rw [hlw]; simp
    have Hhlw := Lib.hid hlw
    clear hlw
    go_enter Try.func13, Try.ntmps13
    go_wp2
    go_loopw [16] (fun i wr => ∃ k : Nat, k ≤ ns.length ∧ i = .int .i64 k ∧ Ext w wr ∧ up ns 0 = up (ns.drop k) (nextOf ns k)) (fun i _ => ns.length - (intOf i).toNat)
    case atStart => exact ⟨0, by omega, rfl, Ext.refl _, rfl⟩
    case round =>
      obtain ⟨k, hk, rfl, hx, hup⟩ := hrel
      have HX := Lib.hid hx
      by_cases hlt : k < ns.length
      · obtain ⟨b, q, rfl, g1⟩ := hcan k hlt
        rw [up_step hlt] at hup
        replace g1 := hx.cell g1
        by_cases h0 : 0 < k
        · obtain ⟨j, hj⟩ : ∃ j, j = k - 1 := ⟨_, rfl⟩
          obtain ⟨b', q', e', g2⟩ := hcan j (by omega)
          obtain ⟨rfl, rfl⟩ : b = b' ∧ q = q' := by simpa using e'
          replace g2 := hx.cell g2
          have hjk : ((k : Int) - 1) = (j : Int) := by omega
          have hd0 : decide (0 < k) = true := decide_eq_true h0
          have hd0' : decide ((0 : Int) < (k : Int)) = true := decide_eq_true (by omega)
          have hn : nextOf ns k = ns[j]'(by omega) + 1 := by
            have := nextOf_succ (ns := ns) (k := j) (by omega)
            rwa [show j + 1 = k by omega] at this
          have hnx := nextOf_succ hlt
          rw [hn] at hup
          have hnk := hns _ (List.getElem_mem hlt)
          have hjl : j < ns.length := by omega
          clear hcan hn
          generalize ns[j]'(by omega) = m at *
          generalize ns[k] = n at *
          have Hhnx := Lib.hid hnx
          clear hnx
          have Hh0 := Lib.hid h0
          clear h0
          have Hhj := Lib.hid hj
          clear hj
          by_cases hmn : m + 1 ≤ n
          · have hd1 : decide (n ≤ m) = false := decide_eq_false (by omega)
            have hd1' : decide ((n : Int) ≤ (m : Int)) = false := decide_eq_false (by omega)
            rw [decide_eq_true hmn, Bool.true_and] at hup
            have Hhup := Lib.hid hup
            clear hup
            go_wp2_with (go_quiet (fail))
            go_roundw
            case rel => exact ⟨k + 1, by omega, by go_num, (by repeat (first | exact HX.out | apply Ext.drewN | apply Ext.alloc | apply Ext.drew)), by rw [Hhnx.out]; exact Hhup.out⟩
            case measure => simp [intOf]; omega
          · have hd1 : decide (n ≤ m) = true := decide_eq_true (by omega)
            have hd1' : decide ((n : Int) ≤ (m : Int)) = true := decide_eq_true (by omega)
            rw [decide_eq_false hmn, Bool.false_and] at hup
            have hA : ofA ns ws o = ([], 2) := by unfold ofA; rw [if_neg (fun h => by rw [hup] at h; exact absurd h.2 (by decide))]
            have Hhup := Lib.hid hup
            clear hup
            have HhA := Lib.hid hA
            clear hA
            go_wp2_with (go_quiet (fail))
            go_ret2
            exact ⟨_, (by rw [HhA.out]; rfl), (by repeat (first | exact HX.out | apply Ext.drewN | apply Ext.alloc | apply Ext.drew)), by rw [HhA.out]; exact World.ownsRow_nil _ _ _ _⟩
        · have hnx := nextOf_succ hlt
          have hup1 : up ns 0 = up (ns.drop (k + 1)) (nextOf ns (k + 1)) := by rw [hnx, hup]; simp [nextOf, h0]
          have hd0 : decide (0 < k) = false := decide_eq_false h0
          have hd0' : decide ((0 : Int) < (k : Int)) = false := decide_eq_false (by omega)
          have Hhup1 := Lib.hid hup1
          clear hup1
          have Hh0 := Lib.hid h0
          clear h0
          clear hcan hup hnx
          go_wp2_with (go_quiet (fail))
          go_roundw
          case rel => exact ⟨k + 1, by omega, by go_num, (by repeat (first | exact HX.out | apply Ext.drewN | apply Ext.alloc | apply Ext.drew)), Hhup1.out⟩
          case measure => simp [intOf]; omega
      · obtain rfl : k = ns.length := by omega
        have hA : ofA ns ws o = (merge (pc o ns ws 0), 0) := by unfold ofA; rw [if_pos ⟨Hhlw.out, by rw [hup, List.drop_length]; rfl⟩]
        have Hhup := Lib.hid hup
        clear hup
        have HhA := Lib.hid hA
        clear hA
        have hlen := pc_len o ns ws 0
        clear hcan
        go_wp2_with (first
          | (go_at_call 36; refine (pieces_calls _ _ _ _ _ _ _ _).mono ?_; rintro e w1 ⟨rfl, hx1, hs1, k1, k2, k3⟩)
          | (go_at_call 35; refine (merged_calls 41 _ w1.heap.size (pc o ns ws 0).length (pc o ns ws 0) (Nat.le_refl _) (by omega) _ (Nat.le_refl _) (enters_of Try.func41 (by kernel_rfl) rfl) (pieces_stops _ _ _ _ _ ns ws o (by omega) Hhlw.out hns _ (HhvnR.out.ext (HX.out.trans hx1)) (HhvwR.out.ext (HX.out.trans hx1)) k1 k2 k3)).mono ?_; rintro e w2 ⟨u, rfl, hx2, hown⟩))
        go_ret2
        exact ⟨u, (by rw [HhA.out]; rfl), (HX.out.trans hx1).trans hx2, by rw [HhA.out]; exact own_base hown (by have := HX.out.size; omega)⟩
  · have hd : ((ns.length : Int) != (ws.length : Int)) = true := by simp; omega
    have hd' : (ns.length != ws.length) = true := by simp; omega
    have hA : ofA ns ws o = ([], 2) := by unfold ofA; rw [if_neg (fun h => hlw h.1)]
    rw [hA]
    have Hhlw := Lib.hid hlw
    clear hlw
    have HhA := Lib.hid hA
    clear hA
    clear hcan
    go_enter Try.func13, Try.ntmps13
    go_wp2
    go_ret2
    exact ⟨_, rfl, Ext.refl _, World.ownsRow_nil _ _ _ _⟩
end L23
end Go.Proofs.Ytaclndhenhjjaaa
