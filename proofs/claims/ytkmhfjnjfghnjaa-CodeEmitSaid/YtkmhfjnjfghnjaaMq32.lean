import Derived.Test.YtkmhfjnjfghnjaaMq30
import Derived.Test.YtkmhfjnjfghnjaaMq31
/- Layer 25: the walk of Great (XIrE's, turned); the normal form may be (XIsI's). -/
namespace Go.Proofs.Ytkmhfjnjfghnjaa
open Go.RowKit V
namespace L25M
open L21
set_option maxRecDepth 100000 in
theorem Great25_calls (f : Filter) (u : Value) (hf : OkF f) (w : World) (hu : RdR w 3 (IsR w) u f.rules) :
    Calls Try.prog 39 #[.agg #[.int .i64 f.arch, u, .int .u32 (f.dflt : Int)]] w fun e w' => e = .returned (.bool (great 0 f.rules)) ∧ Ext w w' := by
  obtain ⟨a, c, rfl, hac, hca⟩ := rdR_cell hu
  have hl := hf.l
  have hok := hf.r
  clear hu hf
  generalize f.rules = xs at *
  generalize f.arch = rn at *
  generalize f.dflt = ra at *
  go_enter Try.func39, Try.ntmps39
  go_wp2
  generalize hW : (w.alloc _) = W
  have hE : Ext w W := by rw [← hW]; exact (Ext.refl _).alloc _
  have c1 : W.cell? ⟨w.heap.size, 1, none⟩ = some (.slice a xs.length c) := by rw [← hW]; simp [go_sem]
  clear hW
  go_loop [3, 4] (fun n i => ∃ k q : Nat, k ≤ xs.length ∧ i = .int .i64 k ∧ n = .int .i64 q ∧ q ≤ 1000 ∧ great 0 xs = great q (xs.drop k)) (fun _ i => xs.length - (intOf i).toNat)
  case atStart => exact ⟨0, 0, by omega, rfl, rfl, by omega, rfl⟩
  case round =>
    obtain ⟨k, q, hk, rfl, rfl, hq, heq⟩ := hrel
    have HE := Lib.hid heq
    have HX := Lib.hid hE
    clear heq
    by_cases hlt : k < xs.length
    · obtain ⟨b1, o1, u1, rfl, h1, h2, h3, ht1⟩ := hca k hlt
      replace h1 := hE.cell h1; replace h2 := hE.cell h2; replace h3 := hE.cell h3; replace ht1 := ht1.ext hE
      have hrl := (hok xs[k] (List.getElem_mem hlt)).l
      have hst : great q (xs.drop k) = if 1000 < q + 1 + xs[k].tests.length then true else great (q + 1 + xs[k].tests.length) (xs.drop (k + 1)) := by
        rw [List.drop_eq_getElem_cons hlt]; rfl
      have HS := Lib.hid hst
      clear hst hca hE hok
      generalize xs[k] = s at h1 h2 h3 ht1 HS hrl
      obtain ⟨au1, cu1, rfl, -⟩ := id ht1
      generalize s.tests.length = m at *
      by_cases hbig : 1000 < q + 1 + m
      · go_wp2
        go_ret
        exact ⟨by rw [HE.out, HS.out, if_pos hbig]; rfl, HX.out⟩
      · go_wp2
        go_round
        case rel => exact ⟨k + 1, q + 1 + m, by omega, by go_num, by go_num, by omega, by rw [HE.out, HS.out, if_neg hbig]⟩
        case measure => simp [intOf]; omega
    · obtain rfl : k = xs.length := by omega
      go_wp2
      go_ret
      exact ⟨by rw [HE.out, List.drop_eq_nil_of_le (Nat.le_refl _)]; rfl, HX.out⟩
theorem okNR {r : Rule} (h : OkR r) : OkR (normR r) := by
  have hl : (normR r).tests.length ≤ r.tests.length := by
    have := cutT_len r.tests r.action
    show (trimT (cutT r.tests r.action).1 _).length ≤ _
    unfold trimT
    rw [List.length_take]; omega
  refine ⟨h.n, ?_, Nat.le_trans hl h.l, fun t ht => h.t t (normR_mask ht).1⟩
  show (cutT r.tests r.action).2 < _
  rcases cutT_act r.tests r.action with e | ⟨t, ht, e⟩
  · rw [e]; exact h.x
  · rw [e]; exact (h.t t ht).x
theorem normR_len (r : Rule) : (normR r).tests.length ≤ r.tests.length := by
  have := cutT_len r.tests r.action
  show (trimT (cutT r.tests r.action).1 _).length ≤ _
  unfold trimT
  rw [List.length_take]; omega
theorem normL_mem {df : Nat} {rs : List Rule} {r : Rule} (h : r ∈ normL df rs) : ∃ s ∈ rs, r = normR s := by
  obtain ⟨h, -⟩ := List.mem_filter.1 h
  obtain ⟨s, hs, rfl⟩ := List.mem_map.1 h
  exact ⟨s, hs, rfl⟩
theorem okN {f : Filter} (h : OkF f) : OkF (normF f) := by
  refine ⟨h.a1, h.a2, h.d, Nat.le_trans (normL_len _ _) h.l, fun r hr => ?_⟩
  obtain ⟨s, hs, rfl⟩ := normL_mem hr
  exact okNR (h.r s hs)
theorem lenN {df : Nat} {rs : List Rule} (h : ∀ r ∈ rs, r.tests.length ≤ 1000) : ∀ r ∈ normL df rs, r.tests.length ≤ 1000 := fun r hr => by
  obtain ⟨s, hs, rfl⟩ := normL_mem hr
  exact Nat.le_trans (normR_len s) (h s hs)
end L25M
end Go.Proofs.Ytkmhfjnjfghnjaa

