/- Layer 14: cmp.Compare at strings; the function of the sort. -/
import Derived.Test.YtkmbahpjioopdaaDropE
namespace Go.Proofs.Ytkmbahpjioopdaa
open Go.RowKit V
attribute [local go_sem] Oper.semAt_some Option.isSome_some
namespace L12
def cmpA (a b : List UInt8) : Int := if lt a b = true then -1 else if lt b a = true then 1 else 0
theorem toList_str (l : List UInt8) : (str l).toList = l := by rw [Lib.toList_data]
set_option maxHeartbeats 1000000 in
theorem isNaN_calls (s : ByteArray) (w : World) : Calls Try.prog 43 #[.string s] w fun e w' => e = .returned (.bool false) ∧ w' = w := by
  go_enter Try.func43, Try.ntmps43
  go_wp2_with fail
  go_ret
  exact ⟨by simp, rfl⟩
set_option maxHeartbeats 1000000 in
theorem Compare_calls (a b : List UInt8) (w : World) : Calls Try.prog 28 #[.string (str a), .string (str b)] w fun e w' => e = .returned (.int .i64 (cmpA a b)) ∧ w' = w := by
  have hN := fun s => isNaN_calls s
  have ta := toList_str a
  have tb := toList_str b
  unfold cmpA
  cases h1 : lt a b
  · rw [if_neg (by simp)]
    have h1' : Op.bytesLess a b = false := h1
    cases h2 : lt b a
    · rw [if_neg (by simp)]
      have hab : (a == b) = true := by rw [lt_tot h1 h2]; simp
      generalize str a = sa at *
      generalize str b = sb at *
      have HhN := Lib.hid hN
      clear hN
      go_enter Try.func28, Try.ntmps28
      go_wp2_with fail
      refine (HhN.out _ _).mono ?_
      rintro e w1 ⟨rfl, rfl⟩
      go_wp2_with fail
      refine (HhN.out _ _).mono ?_
      rintro e w1 ⟨rfl, rfl⟩
      go_wp2_with fail
      go_ret
      exact ⟨rfl, rfl⟩
    · rw [if_pos rfl]
      have hab : (a == b) = false := by
        rw [beq_eq_false_iff_ne]
        rintro rfl
        rw [lt_irr] at h2
        cases h2
      generalize str a = sa at *
      generalize str b = sb at *
      have HhN := Lib.hid hN
      clear hN
      go_enter Try.func28, Try.ntmps28
      go_wp2_with fail
      refine (HhN.out _ _).mono ?_
      rintro e w1 ⟨rfl, rfl⟩
      go_wp2_with fail
      refine (HhN.out _ _).mono ?_
      rintro e w1 ⟨rfl, rfl⟩
      go_wp2_with fail
      go_ret
      exact ⟨rfl, rfl⟩
  · rw [if_pos rfl]
    have h1' : Op.bytesLess a b = true := h1
    generalize str a = sa at *
    generalize str b = sb at *
    have HhN := Lib.hid hN
    clear hN
    go_enter Try.func28, Try.ntmps28
    go_wp2_with fail
    refine (HhN.out _ _).mono ?_
    rintro e w1 ⟨rfl, rfl⟩
    go_wp2_with fail
    refine (HhN.out _ _).mono ?_
    rintro e w1 ⟨rfl, rfl⟩
    go_wp2_with fail
    go_ret
    exact ⟨rfl, rfl⟩
set_option maxHeartbeats 1000000 in
theorem cmp_calls (p q : PF) (w : World) : Calls Try.prog 27 #[fV p, fV q] w fun e w' => e = .returned (.int .i64 (cmpA p.nm q.nm)) ∧ w' = (w.alloc (.cells #[.string (str p.nm), .int .i64 p.dir, .slice p.a p.bs.length p.c] 24)).alloc (.cells #[.string (str q.nm), .int .i64 q.dir, .slice q.a q.bs.length q.c] 24) := by
  have hC := fun W => Compare_calls p.nm q.nm W
  generalize cmpA p.nm q.nm = r at *
  unfold fV
  have m0 : ((w.alloc (.cells #[.string (str p.nm), .int .i64 p.dir, .slice p.a p.bs.length p.c] 24)).alloc (.cells #[.string (str q.nm), .int .i64 q.dir, .slice q.a q.bs.length q.c] 24)).cell? ⟨w.heap.size, 0, none⟩ = some (.string (str p.nm)) := by
    have := blk_cell (blk_ext (heap_alloc_new w (.cells #[.string (str p.nm), .int .i64 p.dir, .slice p.a p.bs.length p.c] 24)) ((Ext.refl _).alloc (.cells #[.string (str q.nm), .int .i64 q.dir, .slice q.a q.bs.length q.c] 24))) 0
    rw [this]; rfl
  have HhC := Lib.hid hC
  clear hC
  go_enter Try.func27, Try.ntmps27
  go_wp2_with fail
  refine (HhC.out _).mono ?_
  rintro e w1 ⟨rfl, rfl⟩
  go_wp2_with fail
  go_ret
  exact ⟨rfl, rfl⟩
end L12
end Go.Proofs.Ytkmbahpjioopdaa
