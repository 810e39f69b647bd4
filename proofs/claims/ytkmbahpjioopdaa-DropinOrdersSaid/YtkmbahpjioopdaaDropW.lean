/- Layer 14: copies of files (the law's). -/
import Derived.Test.YtkmbahpjioopdaaDropT
import Derived.Test.YtkmbahpjioopdaaDropK
namespace Go.Proofs.Ytkmbahpjioopdaa
open Go.RowKit V
attribute [local go_sem] Oper.semAt_some Option.isSome_some
namespace L12
set_option maxRecDepth 100000 in
set_option maxHeartbeats 8000000 in
theorem Copied_calls (v : Value) (ps : List PF) (hl : ps.length ≤ 1000000) (hop : ∀ p ∈ ps, p.bs.length ≤ 1000000) (w : World) (hv : Rd w 3 encF v ps) (hg : ∀ p ∈ ps, Good w p) :
    Calls Try.prog 9 #[v] w fun e w' => ∃ u, ∃ qs : List PF, e = .returned u ∧ qs.map PF.f = ps.map PF.f ∧ Ext w w' ∧
      w'.ownsRow w.heap.size 24 3 u qs.length (qs.flatMap encF) ∧ ∀ q ∈ qs, OwnB w' w.heap.size q := by
  obtain ⟨a, c, rfl, hac, hca⟩ := rdF_cell hv
  have HG := Lib.hid hg
  have HOP := Lib.hid hop
  clear hv hg hop
  have Hhca := Lib.hid hca
  clear hca
  go_enter Try.func9, Try.ntmps9
  go_wp2_with fail
  go_loopw [3, 4] (fun u i wr => ∃ k : Nat, ∃ qs : List PF, k ≤ ps.length ∧ i = .int .i64 k ∧ qs.map PF.f = (ps.take k).map PF.f ∧ Ext w wr ∧ wr.ownsRow w.heap.size 24 3 u qs.length (qs.flatMap encF) ∧ ∀ q ∈ qs, OwnB wr w.heap.size q) (fun _ i _ => ps.length - (intOf i).toNat)
  case atStart => exact ⟨0, [], by omega, rfl, rfl, Ext.refl _, World.ownsRow_nil _ _ _ _, fun q hq => by cases hq⟩
  case round =>
    obtain ⟨k, qs, hk, rfl, hqs, hx, ho, hob⟩ := hrel
    have HX := Lib.hid hx
    have HO := Lib.hid ho
    have HOB := Lib.hid hob
    have HQS := Lib.hid hqs
    obtain ⟨au, cu, rfl⟩ := own_form ho
    have hql : qs.length = k := by
      have := congrArg List.length hqs
      rw [List.length_map, List.length_map, List.length_take] at this
      omega
    have HQL := Lib.hid hql
    have hq9 : qs.length ≤ 1000000 := by omega
    clear hx ho hob hqs hql
    by_cases hlt : k < ps.length
    · obtain ⟨b, o, rfl, c0, c1, c2⟩ := Hhca.out k hlt
      replace c0 := HX.out.cell c0; replace c1 := HX.out.cell c1; replace c2 := HX.out.cell c2
      have hgk := (HG.out _ (List.getElem_mem hlt)).ext HX.out
      have hbk := HOP.out _ (List.getElem_mem hlt)
      have hsn : (ps.take (k + 1)).map PF.f = (ps.take k).map PF.f ++ [ps[k].f] := by
        rw [List.take_add_one, List.getElem?_eq_getElem hlt, List.map_append]; rfl
      have HSN := Lib.hid hsn
      clear hsn
      generalize ps[k] = p at *
      have HGK := Lib.hid hgk
      clear hgk
      have hswr := HX.out.size
      have HSW := Lib.hid hswr
      have hl1 : ([] : List UInt8).length + p.bs.length = p.bs.length := by simp
      clear hswr
      unfold Good PF.v at HGK
      have HC0 := Lib.hid c0
      have HC1 := Lib.hid c1
      have HC2 := Lib.hid c2
      have hx8 : Ext wr (wr.alloc (.cells #[] 5)) := (Ext.refl _).alloc _
      have a0 := hx8.cell c0
      have a1 := hx8.cell c1
      have a2 := hx8.cell c2
      clear hx8
      go_upto_region 5 with fail
      (go_region_law (first
        | (refine step_app_g rfl (.tmp 11) (.tmp 30) _ rfl Try.underlying25 infoF rfl (by decide) encF_len encF_one w.heap.size _ _ qs [⟨p.nm, p.dir, p.bs, aq, cq⟩] (by rfl) (by rfl) (by exact World.ownsRow.alloc HO5.out _) (by exact Rd.ext ((Ext.refl _).drew) (rd_lit encF_len w5 [⟨p.nm, p.dir, p.bs, aq, cq⟩] _ _ rfl)) (by simp; omega) (by decide) (by simp; exact Nat.le_succ_of_le HS5.out) ?_
           intro au7 cu7 w7 ho7 hg7
           have HO7 := Lib.hid ho7
           have HQ7 := Lib.hid (own_kept2 (World.ownsRow.alloc HO5.out _) (World.ownsRow.alloc HQ5.out _) (by decide) hg7)
           have HB7 : Hid (∀ q ∈ qs, OwnB w7 w.heap.size q) := Lib.hid (fun q hq => own_kept2 (World.ownsRow.alloc HO5.out _) (World.ownsRow.alloc (HB5.out q hq) _) (by decide) hg7)
           have HX7 := Lib.hid ((HX.out.trans (HX5.out.alloc _)).grown hg7 (fun j e => (HO5.out.lt j e).1))
           clear ho7 hg7)
        | (refine step_app_rd rfl (.tmp 22) (.tmp 27) _ rfl Try.underlying22 infoB rfl (by decide) encB_len encB_one wr _ _ [] p.bs (by rfl) (by rfl) (by exact own_lit encB_len wr [] _ _ wr.heap.size rfl (Nat.le_refl _) (by simp)) (HGK.out.ext (by repeat (first | exact Ext.refl _ | apply Ext.drew | apply Ext.alloc))) (by rw [hl1]; omega) (by decide) (by repeat (first | exact Ext.refl _ | apply Ext.drew | apply Ext.alloc)) ?_
           intro aq cq w5 ho5 hx5
           rw [hl1] at ho5 ⊢
           have b0 := hx5.cell HC0.out
           have b1 := hx5.cell HC1.out
           have b2 := hx5.cell HC2.out
           have HQ5 := Lib.hid ho5
           have HX5 := Lib.hid hx5
           have HO5 := Lib.hid (ownX_ext HO.out hx5)
           have HB5 : Hid (∀ q ∈ qs, OwnB w5 w.heap.size q) := Lib.hid (fun q hq => (HOB.out q hq).ext hx5)
           have HS5 := Lib.hid (Nat.le_trans HSW.out hx5.size)
           clear ho5 hx5)))
      all_goals
        go_wp2_with fail
        go_roundw
        case rel =>
          refine ⟨k + 1, qs ++ [⟨p.nm, p.dir, p.bs, aq, cq⟩], by omega, by go_num, ?_, HX7.out, ?_, ?_⟩
          · rw [HSN.out, List.map_append, HQS.out]; rfl
          · rw [List.length_append]; exact HO7.out
          · intro q hq
            rcases List.mem_append.1 hq with hq | hq
            · exact HB7.out q hq
            · rw [List.mem_singleton.1 hq]
              exact own_base HQ7.out HSW.out
        case measure => simp [intOf]; omega
    · obtain rfl : k = ps.length := by omega
      rw [List.take_length] at HQS
      go_wp2_with fail
      go_ret
      exact ⟨_, qs, rfl, HQS.out, HX.out, HO.out, HOB.out⟩
end L12
end Go.Proofs.Ytkmbahpjioopdaa
