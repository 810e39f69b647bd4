/- Layer 24: the walk of Depth. -/
import Derived.Test.YtaclndhenhjjaaaTreeC
import Derived.Test.YtaclndhenhjjaaaTreeD
import Derived.Test.YtaclndhenhjjaaaSpanN
namespace Go.Proofs.Ytaclndhenhjjaaa
open Go.RowKit V
namespace L24
open L23
theorem infoI : (Try.prog.info? 3).map (fun i => (i.zero, i.size, i.bytes)) = some (some (.int .i64 0), 1, 8) := by kernel_rfl
theorem encI_one (x : Int) : ∀ u ∈ encI x, u.oneCell' = true := by intro u hu; simp [encI] at hu; subst hu; rfl
/-- a slice of ints that a call made, from a block on -/
def OwnI (w : World) (base : Nat) (v : Value) (xs : List Int) : Prop := w.ownsRow base 3 1 v xs.length (xs.flatMap encI)
theorem made_int (n : Nat) : (madeCells (Value.int .i64 0).cells (n * 1)).toList = (List.replicate n (0 : Int)).flatMap encI := by
  rw [Nat.mul_one]
  apply List.ext_getElem?
  intro i
  rw [show ((List.replicate n (0 : Int)).flatMap encI) = List.replicate n (Value.int .i64 0) by
    induction n with
    | zero => rfl
    | succ n ih => rw [List.replicate_succ, List.flatMap_cons, ih]; rfl]
  unfold madeCells
  by_cases h : i < n
  · simp [h, Value.cells, Nat.mod_one]
  · simp [h]
theorem own_int_cell {w : World} {base : Nat} {g n c : Nat} {ys : List Int} (h : OwnI w base (.slice (some ⟨g, 0, none⟩) n c) ys) (_ : n = ys.length) (i : Nat) (hi : i < ys.length) : w.cell? ⟨g, i, none⟩ = some (.int .i64 ys[i]) := by
  obtain ⟨a, c', e, -, h4⟩ := rdI_cell (rd_of_own (n := 1) encI_len h)
  simp only [Value.slice.injEq] at e
  obtain ⟨b, o, e2, k⟩ := h4 i hi
  rw [← e.1] at e2
  obtain ⟨rfl, rfl⟩ : g = b ∧ 0 = o := by simpa using e2
  rw [Nat.zero_add] at k
  exact k
/-- what is known of the depths when all places from one on are done -/
def dl (xs : List Node) (j : Nat) : List Int := (List.range xs.length).map fun p => if j ≤ p then (dpt xs p : Int) else 0
theorem dl_len (xs : List Node) (j : Nat) : (dl xs j).length = xs.length := by simp [dl]
theorem dl_get {xs : List Node} {j p : Nat} (h : p < (dl xs j).length) : (dl xs j)[p] = if j ≤ p then (dpt xs p : Int) else 0 := by simp [dl]
theorem dl_start (xs : List Node) : dl xs xs.length = List.replicate xs.length 0 := by
  apply List.ext_getElem
  · simp [dl]
  · intro i h1 h2
    rw [dl_get h1, if_neg (by rw [dl_len] at h1; omega)]
    simp
theorem dl_set {xs : List Node} {j : Nat} : (dl xs (j + 1)).set j (dpt xs j : Int) = dl xs j := by
  apply List.ext_getElem
  · simp [dl]
  · intro i h1 h2
    rw [List.getElem_set]
    split
    · rename_i e; subst e; rw [dl_get h2, if_pos (Nat.le_refl _)]
    · rename_i e
      rw [dl_get (by rw [dl_len]; simpa [dl] using h2), dl_get h2]
      by_cases hji : j ≤ i
      · rw [if_pos hji, if_pos (by omega)]
      · rw [if_neg hji, if_neg (by omega)]
theorem dl_same {xs : List Node} {j : Nat} (h0 : dpt xs j = 0) : dl xs (j + 1) = dl xs j := by
  rw [← dl_set (xs := xs) (j := j), h0]
  apply List.ext_getElem
  · simp [dl]
  · intro i h1 h2
    rw [List.getElem_set]
    split
    · rename_i e; subst e; rw [dl_get h1, if_neg (by omega)]; rfl
    · rfl
set_option maxRecDepth 100000 in
set_option maxHeartbeats 1000000 in
theorem Depth_calls (v : Value) (xs : List Node) (hl : xs.length ≤ 1000000) (w : World) (hv : Rd w 5 encN v xs) :
    Calls Try.prog 32 #[v] w fun e w' => e = .returned (.int .i64 (depthA xs : Nat)) ∧ Ext w w' := by
  have hM := May_calls v xs hl w hv
  obtain ⟨a, c, rfl, hac, hca⟩ := rdN_cell hv
  clear hv
  cases hm : may xs
  case false =>
    rw [hm] at hM
    have hA : depthA xs = 0 := by unfold depthA; rw [if_neg (by rw [hm]; simp)]
    have HhA := Lib.hid hA
    clear hA
    have Hhm := Lib.hid hm
    clear hm
    have HhM := Lib.hid hM
    clear hM
    clear hca
    go_enter Try.func32, Try.ntmps32
    go_wp2_with (go_at_call 30; refine HhM.out.mono ?_; rintro e w1 ⟨rfl, hx1⟩)
    go_ret
    exact ⟨by rw [HhA.out]; rfl, hx1⟩
  rw [hm] at hM
  have hA : depthA xs = dpt xs 0 := by unfold depthA; rw [if_pos hm]
  have hpos := may_pos hm
  have hget := fun j (hj : j < xs.length) hl => may_get hm hj hl
  have hdn := fun j (hj : j < xs.length) hl => dpt_node hm hj hl
  have hdle := dpt_le xs
  obtain ⟨i0, hi0, hz0, hz1, hz2⟩ := info_parts infoI
  have HhA := Lib.hid hA
  clear hA
  have Hhm := Lib.hid hm
  clear hm
  have HhM := Lib.hid hM
  clear hM
  have Hhget := Lib.hid hget
  clear hget
  have Hhdn := Lib.hid hdn
  clear hdn
  have Hhdle := Lib.hid hdle
  clear hdle
  have Hhca := Lib.hid hca
  clear hca
  go_enter Try.func32, Try.ntmps32
  go_wp2_with (first
    | (go_at_call 30; refine HhM.out.mono ?_; rintro e w1 ⟨rfl, hx1⟩)
    | (at_make; refine wpList_make_full _ rfl _ _ 23 rfl w1.heap.size 3 i0 (.int .i64 0) 1 Try.underlying23 hi0 hz0 hz1 _ _ _ _ xs.length rfl rfl (by omega) (by omega) (by rw [hz2]; omega) (by unfold maxLen; omega) (Nat.le_refl _) ?_; intro w2 hown2 hg2; have hE2 : Ext w1 w2 := Ext.grown (Ext.refl _) hg2 (by intro k hk; cases hk)))
  rw [made_int] at hown2
  have hO : OwnI w2 w1.heap.size (.slice (some ⟨w1.heap.size, 0, none⟩) xs.length xs.length) (dl xs xs.length) := by
    unfold OwnI; rw [dl_len, dl_start]; exact hown2
  have hxw := hx1.trans hE2
  have hsz := hx1.size
  generalize w1.heap.size = g at *
  have HXW := Lib.hid hxw
  clear hown2 hg2 hE2 hx1 hxw
  go_loopw [4] (fun i wr => ∃ j : Nat, j ≤ xs.length ∧ i = .int .i64 ((j : Int) - 1) ∧ Ext w wr ∧ OwnI wr g (.slice (some ⟨g, 0, none⟩) xs.length xs.length) (dl xs j)) (fun i _ => (intOf i + 1).toNat)
  case atStart => exact ⟨xs.length, Nat.le_refl _, rfl, HXW.out, hO⟩
  case round =>
    obtain ⟨j, hj, rfl, hx, hq⟩ := hrel
    have HX := Lib.hid hx
    cases j with
    | zero =>
      have h0 := own_int_cell hq (dl_len _ _).symm 0 (by rw [dl_len]; exact hpos)
      rw [dl_get, if_pos (Nat.le_refl _), ← HhA.out] at h0
      have hdd : decide ((0 : Int) ≤ -1) = false := rfl
      clear hq hO hx
      generalize hdv : depthA xs = dd at *
      have Hhdv := Lib.hid hdv
      clear hdv
      rw [show (((0 : Nat) : Int) - 1) = -1 from rfl]
      go_wp2
      go_ret
      exact ⟨by rw [Hhdv.out]; rfl, HX.out⟩
    | succ j =>
      have e1 : (((j + 1 : Nat) : Int) - 1) = (j : Int) := by omega
      rw [e1]
      clear e1
      obtain ⟨b, o, rfl, h1, h2, h3, h4, h5⟩ := Hhca.out j (by omega)
      replace h1 := hx.cell h1; replace h2 := hx.cell h2; replace h3 := hx.cell h3; replace h4 := hx.cell h4; replace h5 := hx.cell h5
      cases hlf : xs[j].leaf
      case true =>
        have hsame := dl_same (dpt_leaf (by omega) hlf)
        rw [hlf] at h1
        rw [hsame] at hq
        have Hhq := Lib.hid hq
        clear hq
        clear hx hO hsame
        generalize xs[j].at_ = at_ at *
        generalize xs[j].more = mr at *
        generalize xs[j].less = ls at *
        generalize xs[j].way = wy at *
        go_wp2
        go_roundw
        case rel => exact ⟨j, by omega, by go_num, (by repeat (first | exact HX.out | apply Ext.drewN | apply Ext.alloc | apply Ext.drew)), World.ownsRow.alloc Hhq.out _⟩
        case measure => simp [intOf]
      case false =>
        rw [hlf] at h1
        obtain ⟨q1, q2, q3, q4⟩ := Hhget.out j (by omega) hlf
        have hdj := Hhdn.out j (by omega) hlf
        generalize xs[j].at_ = at_ at *
        generalize xs[j].more = mr at *
        generalize xs[j].less = ls at *
        generalize xs[j].way = wy at *
        obtain ⟨p, rfl⟩ := Int.eq_ofNat_of_zero_le (by omega : 0 ≤ ls)
        obtain ⟨r, rfl⟩ := Int.eq_ofNat_of_zero_le (by omega : 0 ≤ mr)
        rw [Int.toNat_natCast, Int.toNat_natCast] at hdj
        have cp := own_int_cell hq (dl_len _ _).symm p (by rw [dl_len]; omega)
        have cr := own_int_cell hq (dl_len _ _).symm r (by rw [dl_len]; omega)
        have cj := own_int_cell hq (dl_len _ _).symm j (by rw [dl_len]; omega)
        rw [dl_get, if_pos (by omega)] at cp cr
        rw [dl_get, if_neg (by omega)] at cj
        have hset := dl_set (xs := xs) (j := j)
        have hp2 := Hhdle.out p
        have hr2 := Hhdle.out r
        generalize dpt xs p = x at *
        generalize dpt xs r = y at *
        have hif : (if x < y then (y : Int) else (x : Int)) = ((max x y : Nat) : Int) := by split <;> omega
        have hws : IntKind.i64.wrap (1 + ((max x y : Nat) : Int)) = 1 + ((max x y : Nat) : Int) := IntWalk.i64_in _ (by omega)
        have hdj2 : (1 + ((max x y : Nat) : Int)) = (dpt xs j : Int) := by omega
        generalize max x y = mx at *
        have hq2 : wr.ownsRow g 3 1 (.slice (some ⟨g, 0, none⟩) (dl xs (j + 1)).length xs.length) (dl xs (j + 1)).length ((dl xs (j + 1)).flatMap encI) := by have := hq; unfold OwnI at this; rw [dl_len] at this ⊢; exact this
        obtain ⟨g', c', e', hgb, hgs, hfz⟩ := own_parts hq2 (by rw [dl_len]; omega)
        obtain ⟨rfl, -⟩ : g = g' ∧ True := ⟨by simpa using (Value.slice.inj e').1, trivial⟩
        have hfj := hfz j
        have hst := own_store (e := 3) encI_len (World.ownsRow.alloc hq2 (.cells #[.bool false, .int .i64 wy, .int .u32 (at_ : Int), .int .i64 (p : Int), .int .i64 (r : Int)] 51)) j 0 (.int .i64 (1 + (mx : Int))) (dpt xs j : Int) (by rw [dl_len]; omega) (by decide) (by rw [← hdj2]; rfl)
        rw [hset, Nat.mul_one, Nat.add_zero] at hst
        have hst1 := fun n => ownsRow_drewN hst.1 n
        have Hhq := Lib.hid hq
        clear hq
        have Hhdj := Lib.hid hdj
        clear hdj
        have Hhst := Lib.hid hst
        clear hst
        have Hhst1 := Lib.hid hst1
        clear hst1
        have Hhset := Lib.hid hset
        clear hset
        have Hhdj2 := Lib.hid hdj2
        clear hdj2
        have Hhlf := Lib.hid hlf
        clear hlf
        have hjl : (j : Int) < (xs.length : Int) := by omega
        have hpl : (p : Int) < (xs.length : Int) := by omega
        have hrl : (r : Int) < (xs.length : Int) := by omega
        clear hx hO e' hfz hq2 hgb
        have n3 : (wr.alloc (.cells #[.bool false, .int .i64 wy, .int .u32 (at_ : Int), .int .i64 (p : Int), .int .i64 (r : Int)] 51)).cell? ⟨wr.heap.size, 3, none⟩ = some (.int .i64 (p : Int)) := by simp [go_sem]
        have n4 : (wr.alloc (.cells #[.bool false, .int .i64 wy, .int .u32 (at_ : Int), .int .i64 (p : Int), .int .i64 (r : Int)] 51)).cell? ⟨wr.heap.size, 4, none⟩ = some (.int .i64 (r : Int)) := by simp [go_sem]
        have hE : Ext wr (wr.alloc (.cells #[.bool false, .int .i64 wy, .int .u32 (at_ : Int), .int .i64 (p : Int), .int .i64 (r : Int)] 51)) := (Ext.refl _).alloc _
        go_wp2_with fail
        generalize (wr.alloc (.cells #[.bool false, .int .i64 wy, .int .u32 (at_ : Int), .int .i64 (p : Int), .int .i64 (r : Int)] 51)) = W at *
        replace hfj := hE.frozen cj hfj
        replace cp := hE.cell cp
        replace cr := hE.cell cr
        replace cj := hE.cell cj
        have hg1 : g ≠ wr.heap.size := by omega
        have hpj : p ≠ j := by omega
        have hrj : r ≠ j := by omega
        have hgw : w.heap.size ≤ g := by omega
        have HXW2 := Lib.hid (HX.out.trans hE)
        clear hE h1 h2 h3 h4 h5
        have k1 : ∀ v, (W.setCell ⟨g, j, none⟩ v).cell? ⟨g, p, none⟩ = some (.int .i64 (x : Int)) := fun v => (World.cell?_setCell_other W _ _ v (by first | (simp; done) | (simp; omega))).trans cp
        have k2 : ∀ v, (W.setCell ⟨g, j, none⟩ v).cell? ⟨g, r, none⟩ = some (.int .i64 (y : Int)) := fun v => (World.cell?_setCell_other W _ _ v (by first | (simp; done) | (simp; omega))).trans cr
        have k3 : ∀ v, (W.setCell ⟨g, j, none⟩ v).cell? ⟨wr.heap.size, 3, none⟩ = some (.int .i64 (p : Int)) := fun v => (World.cell?_setCell_other W _ _ v (by first | (simp; done) | (simp; omega))).trans n3
        have k4 : ∀ v, (W.setCell ⟨g, j, none⟩ v).cell? ⟨wr.heap.size, 4, none⟩ = some (.int .i64 (r : Int)) := fun v => (World.cell?_setCell_other W _ _ v (by first | (simp; done) | (simp; omega))).trans n4
        (go_region_held3 (fun w' => w'.cell? ⟨wr.heap.size, 3, none⟩ = some (.int .i64 (p : Int)) ∧ w'.cell? ⟨wr.heap.size, 4, none⟩ = some (.int .i64 (r : Int)) ∧ w'.cell? ⟨g, p, none⟩ = some (.int .i64 (x : Int)) ∧ w'.cell? ⟨g, r, none⟩ = some (.int .i64 (y : Int)))
          (first | exact ⟨n3, n4, cp, cr⟩ | exact ⟨k3 _, k4 _, k1 _, k2 _⟩) (fail))
        go_wp2
        go_roundw
        case rel => exact ⟨j, by omega, by go_num, Ext.drewN (Ext.setCell HXW2.out hgw _) 1, by unfold OwnI; have h9 := Hhst1.out 1; rw [dl_len] at h9 ⊢; exact h9⟩
        case measure => simp [intOf]
end L24
end Go.Proofs.Ytaclndhenhjjaaa
