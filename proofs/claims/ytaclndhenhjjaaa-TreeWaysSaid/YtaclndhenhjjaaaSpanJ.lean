/- Layer 23: the walk of the reference's Of. -/
import Derived.Test.YtaclndhenhjjaaaSpanI
namespace Go.Proofs.Ytaclndhenhjjaaa
open Go.RowKit Go.Shelf V
namespace L23
set_option maxRecDepth 100000 in
set_option maxHeartbeats 4000000 in
theorem refOf_calls (vn vw : Value) (ns : List Nat) (ws : List Int) (o : Int) (hl : ns.length ≤ 300000) (hns : ∀ n ∈ ns, n < 4294967296) (w : World) (hvn : Rd w 1 encU vn ns) (hvw : Rd w 1 encI vw ws) :
    Calls Try.prog 14 #[vn, vw, .int .i64 o] w fun e w' => ∃ u, e = .returned (.tuple #[u, .int .i64 (ofA ns ws o).2]) ∧ Ext w w' ∧ Own w' w.heap.size u (ofA ns ws o).1 := by
  obtain ⟨an, cn, rfl, hacn, hcan⟩ := rdU_cell hvn
  obtain ⟨aw, cw, rfl, hacw, hcaw⟩ := rdI_cell hvw
  clear hvn hvw
  by_cases hlw : ns.length = ws.length
  · have hd : ((ns.length : Int) != (ws.length : Int)) = false := by rw [hlw]; simp
    have hd' : (ns.length != ws.length) = false := by rw [hlw]; simp
    have Hhlw := Lib.hid hlw
    clear hlw
    go_enter Try.func14, Try.ntmps14
    go_wp2
    go_loopw [8, 9, 10] (fun u nx i wr => ∃ (k next : Nat) (pre : List Span), k ≤ ns.length ∧ next ≤ 4294967296 ∧ pre.length ≤ 2 * k ∧ i = .int .i64 k ∧ nx = .int .i64 next ∧ Ext w wr ∧ Own wr w.heap.size u pre ∧ up ns 0 = up (ns.drop k) next ∧ pc o ns ws 0 = pre ++ pc o (ns.drop k) (ws.drop k) next) (fun _ _ i _ => ns.length - (intOf i).toNat)
    case atStart => exact ⟨0, 0, [], by omega, by omega, by simp, rfl, rfl, Ext.refl _, World.ownsRow_nil _ _ _ _, rfl, rfl⟩
    case round =>
      obtain ⟨k, next, pre, hk, hnext, hpl, rfl, rfl, hx, hown, hup, hpc⟩ := hrel
      have HX := Lib.hid hx
      obtain ⟨ao, co, rfl, hco, -⟩ := rdS_cell hown.rd
      have Hhown := Lib.hid hown
      clear hown
      by_cases hlt : k < ns.length
      · have hlt2 : k < ws.length := by have := Hhlw.out; omega
        obtain ⟨b, q, rfl, g1⟩ := hcan k hlt
        obtain ⟨b', q', rfl, g2⟩ := hcaw k hlt2
        replace g1 := hx.cell g1
        have G2 := Lib.hid g2
        replace g2 := hx.cell g2
        rw [up_step hlt] at hup
        rw [pc_step hlt hlt2] at hpc
        have hnk := hns _ (List.getElem_mem hlt)
        clear hcan hcaw hx
        generalize ns[k] = n at *
        generalize ws[k] = wy at *
        by_cases h1 : n < next
        · have hd1 : decide (n < next) = true := decide_eq_true h1
          have hd1' : decide ((n : Int) < (next : Int)) = true := decide_eq_true (by omega)
          rw [decide_eq_false (by omega : ¬ next ≤ n), Bool.false_and] at hup
          have hA : ofA ns ws o = ([], 2) := by unfold ofA; rw [if_neg (fun h => by rw [hup] at h; exact absurd h.2 (by decide))]
          have Hhup := Lib.hid hup
          clear hup
          have HhA := Lib.hid hA
          clear hA
          have Hhpc := Lib.hid hpc
          clear hpc
          go_wp2
          go_ret2
          exact ⟨_, (by rw [HhA.out]; rfl), (by repeat (first | exact HX.out | apply Ext.drewN | apply Ext.alloc | apply Ext.drew)), by rw [HhA.out]; exact World.ownsRow_nil _ _ _ _⟩
        · have hd1 : decide (n < next) = false := decide_eq_false h1
          have hd1' : decide ((n : Int) < (next : Int)) = false := decide_eq_false (by omega)
          rw [decide_eq_true (by omega : next ≤ n), Bool.true_and] at hup
          have Hhup := Lib.hid hup
          clear hup
          by_cases h2 : next < n
          · have hd2 : decide (next < n) = true := decide_eq_true h2
            have hd2' : decide ((next : Int) < (n : Int)) = true := decide_eq_true (by omega)
            obtain ⟨j, hjn⟩ : ∃ j, j = n - 1 := ⟨n - 1, by omega⟩
            have hj : ((n : Int) - 1) = (j : Int) := by omega
            have hjl : j < 4294967296 := by omega
            have hnl : next < 4294967296 := by omega
            have hg : gap o next n = [⟨next, j, o⟩] := by unfold gap; rw [if_pos h2, hjn]
            rw [hg] at hpc
            have Hhpc := Lib.hid hpc
            clear hpc
            have Hhjn := Lib.hid hjn
            clear hjn
            have hpl1 : (pre ++ [(⟨next, j, o⟩ : Span)]).length ≤ 2 * k + 1 := by simp; omega
            go_wp2_with (first
              | (at_builtin; (refine app1 rfl _ _ rfl w (.slice ao pre.length co) pre rfl ⟨next, j, o⟩ _ _ rfl rfl Hhown.out (by omega) HX.out ?_); intro g1 c1 w1 hq1 hx1; have Hhq1 := Lib.hid hq1; have Hhx1 := Lib.hid hx1; replace g2 := hx1.cell G2.out; clear hq1 hx1)
              | (at_builtin; (refine app1 rfl _ _ rfl w (.slice (some ⟨g1, 0, none⟩) (pre.length + 1) c1) (pre ++ [⟨next, j, o⟩]) rfl ⟨n, n, wy⟩ _ _ rfl rfl Hhq1.out (by omega) Hhx1.out ?_); intro g3 c3 w3 hq3 hx3; have Hhq3 := Lib.hid hq3; have Hhx3 := Lib.hid hx3; clear hq3 hx3))
            go_roundw
            case rel => exact ⟨k + 1, n + 1, pre ++ [⟨next, j, o⟩] ++ [⟨n, n, wy⟩], by omega, by omega, by simp; omega, by go_num, by go_num, Hhx3.out, by simpa using Hhq3.out, Hhup.out, by rw [Hhpc.out]; simp⟩
            case measure => simp [intOf]; omega
          · have hd2 : decide (next < n) = false := decide_eq_false h2
            have hd2' : decide ((next : Int) < (n : Int)) = false := decide_eq_false (by omega)
            have hg : gap o next n = [] := by unfold gap; rw [if_neg h2]
            rw [hg, List.nil_append] at hpc
            have Hhpc := Lib.hid hpc
            clear hpc
            have Hh2 := Lib.hid h2
            clear h2
            have Hh1 := Lib.hid h1
            clear h1
            go_wp2_with (at_builtin; refine app1 rfl _ _ rfl w (.slice ao pre.length co) pre rfl ⟨n, n, wy⟩ _ _ rfl rfl Hhown.out (by omega) HX.out ?_; intro g1 c1 w1 hq1 hx1; have Hhq1 := Lib.hid hq1; have Hhx1 := Lib.hid hx1; clear hq1 hx1)
            go_roundw
            case rel => exact ⟨k + 1, n + 1, pre ++ [⟨n, n, wy⟩], by omega, by omega, by simp; omega, by go_num, by go_num, Hhx1.out, by simpa using Hhq1.out, Hhup.out, by rw [Hhpc.out]; simp⟩
            case measure => simp [intOf]; omega
      · obtain rfl : k = ns.length := by omega
        have hA : ofA ns ws o = (merge (pc o ns ws 0), 0) := by unfold ofA; rw [if_pos ⟨Hhlw.out, by rw [hup, List.drop_length]; rfl⟩]
        rw [pc_end] at hpc
        have Hhup := Lib.hid hup
        clear hup
        have HhA := Lib.hid hA
        clear hA
        clear hcan hcaw hx
        by_cases hn : next < 4294967296
        · have hg : gap o next 4294967296 = [⟨next, 4294967295, o⟩] := by unfold gap; rw [if_pos hn]
          have hd : decide (next < 4294967296) = true := decide_eq_true hn
          have hd' : decide ((next : Int) < 4294967296) = true := decide_eq_true (by omega)
          rw [hg] at hpc
          have Hhpc := Lib.hid hpc
          clear hpc
          go_wp2_with (first
            | (at_builtin; refine app1 rfl _ _ rfl w (.slice ao pre.length co) pre rfl ⟨next, 4294967295, o⟩ _ _ rfl rfl Hhown.out (by omega) HX.out ?_; intro g1 c1 w1 hq1 hx1; have Hhq1 := Lib.hid hq1; have Hhx1 := Lib.hid hx1; clear hq1 hx1)
            | (go_at_call 23; refine (refMerge_calls _ (pre ++ [⟨next, 4294967295, o⟩]) (by simp; omega) _ (by simpa using Hhq1.out.rd)).mono ?_; rintro e w2 ⟨u, rfl, hx2, hown2⟩))
          go_ret2
          exact ⟨u, (by rw [HhA.out]; rfl), Hhx1.out.trans hx2, by rw [HhA.out, Hhpc.out]; exact own_base hown2 Hhx1.out.size⟩
        · have hg : gap o next 4294967296 = [] := by unfold gap; rw [if_neg hn]
          have hd : decide (next < 4294967296) = false := decide_eq_false hn
          have hd' : decide ((next : Int) < 4294967296) = false := decide_eq_false (by omega)
          rw [hg, List.append_nil] at hpc
          have Hhpc := Lib.hid hpc
          clear hpc
          go_wp2_with (go_at_call 23; refine (refMerge_calls _ pre (by omega) _ Hhown.out.rd).mono ?_; rintro e w2 ⟨u, rfl, hx2, hown2⟩)
          go_ret2
          exact ⟨u, (by rw [HhA.out]; rfl), HX.out.trans hx2, by rw [HhA.out, Hhpc.out]; exact own_base hown2 HX.out.size⟩
  · have hd : ((ns.length : Int) != (ws.length : Int)) = true := by simp; omega
    have hd' : (ns.length != ws.length) = true := by simp; omega
    have hA : ofA ns ws o = ([], 2) := by unfold ofA; rw [if_neg (fun h => hlw h.1)]
    rw [hA]
    have Hhlw := Lib.hid hlw
    clear hlw
    have HhA := Lib.hid hA
    clear hA
    clear hcan hcaw
    go_enter Try.func14, Try.ntmps14
    go_wp2
    go_ret2
    exact ⟨_, rfl, Ext.refl _, World.ownsRow_nil _ _ _ _⟩
end L23
end Go.Proofs.Ytaclndhenhjjaaa
