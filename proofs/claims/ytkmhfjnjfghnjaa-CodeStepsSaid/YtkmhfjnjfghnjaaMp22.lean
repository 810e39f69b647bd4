import Derived.Test.YtkmhfjnjfghnjaaMp11
/- Layer 21: the walk of the reference's Find. -/
namespace Go.Proofs.Ytkmhfjnjfghnjaa
open Go.RowKit V
namespace L21
set_option maxRecDepth 100000 in
set_option maxHeartbeats 400000 in
theorem refFind_calls (ar : Int) (df : Nat) (v : Value) (rs : List Rule) (nr : Nat) (hl : rs.length ≤ 140737488351232) (w : World) (hv : RdR w 3 (IsR w) v rs) :
    Calls Try.prog 23 #[.agg #[.int .i64 ar, v, .int .u32 (df : Int)], .int .u32 (nr : Int)] w fun e w' => e = .returned (.int .i64 (idxR nr rs 0)) ∧ Ext w w' := by
  obtain ⟨a, c, rfl, hac, hca⟩ := rdR_cell hv
  clear hv
  have Hhca := Lib.hid hca
  clear hca
  go_enter Try.func23, Try.ntmps23
  go_wp2_with fail
  obtain ⟨W1, hW1⟩ : ∃ W1, W1 = w.alloc (.cells #[.int .i64 ar, .slice a rs.length c, .int .u32 (df : Int)] 25) := ⟨_, rfl⟩
  have hx1 : Ext w W1 := by rw [hW1]; exact (Ext.refl _).alloc _
  have c1 : W1.cell? ⟨w.heap.size, 1, none⟩ = some (.slice a rs.length c) := by rw [hW1]; simp [go_sem]
  rw [← hW1]
  clear hW1
  have HX1 := Lib.hid hx1
  have HC1 := Lib.hid c1
  clear hx1 c1
  go_loopw [5] (fun i wr => ∃ k : Nat, k ≤ rs.length ∧ i = .int .i64 k ∧ Ext W1 wr ∧ idxR nr rs 0 = idxR nr (rs.drop k) k) (fun i _ => rs.length - (intOf i).toNat)
  case atStart => exact ⟨0, by omega, rfl, Ext.refl _, rfl⟩
  case round =>
    obtain ⟨k, hk, rfl, hx, heq⟩ := hrel
    have HX := Lib.hid hx
    have c1 := hx.cell HC1.out
    by_cases hlt : k < rs.length
    · obtain ⟨b, o, u, rfl, h1, -, -, -⟩ := Hhca.out k hlt
      replace h1 := (HX1.out.trans hx).cell h1
      rw [idxR_step hlt] at heq
      clear hx
      generalize rs[k]'hlt = t at *
      obtain ⟨rn, ts, ac⟩ := t
      dsimp only at *
      have hq : ((rn : Int) == (nr : Int)) = (rn == nr) := by rw [Bool.eq_iff_iff]; simp; omega
      cases hp : (rn == nr)
      all_goals
        rw [hp] at hq heq
        simp only [if_true, if_false, Bool.false_eq_true] at heq
        have Hheq := Lib.hid heq
        clear heq
        have Hhp := Lib.hid hp
        clear hp
        go_wp2_with (go_quiet (fail))
      · first
          | (go_roundw
             case rel => exact ⟨k + 1, by omega, by go_num, (by repeat (first | exact HX.out | apply Ext.drewN | apply Ext.alloc | apply Ext.drew)), Hheq.out⟩
             case measure => simp [intOf]; omega)
          | exact ⟨⟨k + 1, by omega, by go_num, (by repeat (first | exact HX.out | apply Ext.drewN | apply Ext.alloc | apply Ext.drew)), Hheq.out⟩, by simp [intOf]; omega⟩
      · go_ret
        exact ⟨by rw [Hheq.out]; rfl, HX1.out.trans (by repeat (first | exact HX.out | apply Ext.drewN | apply Ext.alloc | apply Ext.drew))⟩
    · obtain rfl : k = rs.length := by omega
      rw [idxR_end] at heq
      have Hheq := Lib.hid heq
      clear heq
      clear hx
      go_wp2
      go_ret
      exact ⟨by rw [Hheq.out]; rfl, HX1.out.trans HX.out⟩
end L21
end Go.Proofs.Ytkmhfjnjfghnjaa

