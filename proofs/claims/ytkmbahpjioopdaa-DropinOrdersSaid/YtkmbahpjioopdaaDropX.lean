/- Layer 14: are files the same. -/
import Derived.Test.YtkmbahpjioopdaaDropT
namespace Go.Proofs.Ytkmbahpjioopdaa
open Go.RowKit V
attribute [local go_sem] Oper.semAt_some Option.isSome_some
namespace L12
set_option maxRecDepth 100000 in
set_option maxHeartbeats 8000000 in
theorem sameFiles_calls (v u : Value) (ps qs : List PF) (hpl : ps.length ≤ 100000) (_hql : qs.length ≤ 100000) (hpb : ∀ p ∈ ps, p.bs.length ≤ 1000000) (hqb : ∀ p ∈ qs, p.bs.length ≤ 1000000) (w : World) (hv : Rd w 3 encF v ps) (hu : Rd w 3 encF u qs) (hgp : ∀ p ∈ ps, Good w p) (hgq : ∀ p ∈ qs, Good w p) :
    Calls Try.prog 12 #[v, u] w fun e w' => e = .returned (.bool (decide (ps.map PF.f = qs.map PF.f))) ∧ Ext w w' := by
  obtain ⟨az, cz, rfl, hacz, hcz⟩ := rdF_cell hv
  obtain ⟨ay, cy, rfl, hacy, hcy⟩ := rdF_cell hu
  obtain ⟨r, hr⟩ : ∃ r, r = decide (ps.map PF.f = qs.map PF.f) := ⟨_, rfl⟩
  rw [← hr]
  have hR : r = true ↔ ps.map PF.f = qs.map PF.f := by rw [hr, decide_eq_true_iff]
  clear hv hu
  have Hhr := Lib.hid hr
  clear hr
  have HhR := Lib.hid hR
  clear hR
  have Hhcy := Lib.hid hcy
  clear hcy
  have Hhcz := Lib.hid hcz
  clear hcz
  have Hhgp := Lib.hid hgp
  clear hgp
  have Hhgq := Lib.hid hgq
  clear hgq
  have Hhpb := Lib.hid hpb
  clear hpb
  have Hhqb := Lib.hid hqb
  clear hqb
  by_cases hlen : ps.length = qs.length
  · have hne1 : ((ps.length : Int) != (qs.length : Int)) = false := by rw [hlen]; simp
    have hne2 : (ps.length != qs.length) = false := by rw [hlen]; simp
    have HL := Lib.hid hlen
    clear hlen
    go_enter Try.func12, Try.ntmps12
    go_wp2_with fail
    go_loopw [5] (fun i wr => ∃ k : Nat, k ≤ ps.length ∧ i = .int .i64 k ∧ (ps.take k).map PF.f = (qs.take k).map PF.f ∧ Ext w wr) (fun i _ => ps.length - (intOf i).toNat)
    case atStart => exact ⟨0, by omega, rfl, rfl, Ext.refl _⟩
    case round =>
      obtain ⟨k, hk, rfl, htk, hx⟩ := hrel
      have HX := Lib.hid hx
      by_cases hlt : k < ps.length
      · have hlt2 : k < qs.length := by rw [← HL.out]; exact hlt
        obtain ⟨b, o, rfl, d0, d1, d2⟩ := Hhcz.out k hlt
        obtain ⟨b', o', rfl, g0, g1, g2⟩ := Hhcy.out k hlt2
        replace d0 := hx.cell d0
        replace d1 := hx.cell d1
        replace d2 := hx.cell d2
        replace g0 := hx.cell g0
        replace g1 := hx.cell g1
        replace g2 := hx.cell g2
        have hgz := (Hhgp.out _ (List.getElem_mem hlt)).ext hx
        have hgy := (Hhgq.out _ (List.getElem_mem hlt2)).ext hx
        have hty : (qs.take (k + 1)).map PF.f = (qs.take k).map PF.f ++ [(qs[k]'hlt2).f] := by rw [List.take_succ_eq_append_getElem hlt2, List.map_append]; rfl
        have htz : (ps.take (k + 1)).map PF.f = (ps.take k).map PF.f ++ [(ps[k]'hlt).f] := by rw [List.take_succ_eq_append_getElem hlt, List.map_append]; rfl
        have hget : ps.map PF.f = qs.map PF.f → (ps[k]'hlt).f = (qs[k]'hlt2).f := fun e => by
          have h2 : (ps.map PF.f)[k]'(by rw [List.length_map]; exact hlt) = (qs.map PF.f)[k]'(by rw [List.length_map]; exact hlt2) := by simp only [e]
          rwa [List.getElem_map, List.getElem_map] at h2
        clear hx
        generalize ps[k]'hlt = x at *
        generalize qs[k]'hlt2 = y at *
        have hcv1 := fun W (h : Ext wr W) => conv_rd (hgz.ext h)
        have hcv2 := fun W (h : Ext wr W) => conv_rd (hgy.ext h)
        unfold PF.v at hcv1 hcv2
        replace hcv1 := fun n => hcv1 (wr.drewN n) ((Ext.refl _).drewN n)
        replace hcv2 := fun n => hcv2 (wr.drewN n) ((Ext.refl _).drewN n)
        have hno : x.f ≠ y.f → r = false := fun hne => by
          rw [Bool.eq_false_iff]
          intro h
          exact hne (hget (HhR.out.1 h))
        have HNO := Lib.hid hno
        have Hhty := Lib.hid hty
        clear hty
        have Hhtz := Lib.hid htz
        clear htz
        have Hhtk := Lib.hid htk
        clear htk
        clear hget hno hgz hgy
        by_cases h1 : x.nm = y.nm
        · by_cases h2 : x.dir = y.dir
          · by_cases h3 : x.bs = y.bs
            · have hxe : x.f = y.f := by unfold PF.f; rw [h1, h2, h3]
              have HTK : Hid ((ps.take (k + 1)).map PF.f = (qs.take (k + 1)).map PF.f) := Lib.hid (by rw [Hhty.out, Hhtz.out, Hhtk.out, hxe])
              clear hxe
              have hs1 : (x.nm == y.nm) = true := by rw [h1]; simp
              have hs3 : (x.bs == y.bs) = true := by rw [h3]; simp
              have hs2 : (x.dir == y.dir) = true := by rw [h2]; simp
              have hs2' : (x.dir != y.dir) = false := by rw [h2]; simp
              clear h1 h2 h3
              go_wp2_with (go_quiet (fail))
              go_roundw
              case rel => exact ⟨k + 1, by omega, by go_num, HTK.out, (by repeat (first | exact HX.out | apply Ext.drewN | apply Ext.alloc | apply Ext.drew))⟩
              case measure => simp [intOf]; omega
            · have hf := HNO.out (fun e => h3 (by unfold PF.f at e; simp only [Prod.mk.injEq] at e; exact e.2.2))
              have Hf := Lib.hid hf
              clear hf
              have hs1 : (x.nm == y.nm) = true := by rw [h1]; simp
              have hs3 : (x.bs == y.bs) = false := by simpa using h3
              have hs2 : (x.dir == y.dir) = true := by rw [h2]; simp
              have hs2' : (x.dir != y.dir) = false := by rw [h2]; simp
              clear h1 h2 h3
              go_wp2_with (go_quiet (fail))
              go_ret
              exact ⟨by rw [Hf.out]; rfl, (by repeat (first | exact HX.out | apply Ext.drewN | apply Ext.alloc | apply Ext.drew))⟩
          · have hf := HNO.out (fun e => h2 (by unfold PF.f at e; simp only [Prod.mk.injEq] at e; exact e.2.1))
            have Hf := Lib.hid hf
            clear hf
            have hs1 : (x.nm == y.nm) = true := by rw [h1]; simp
            have hs2 : (x.dir == y.dir) = false := by simpa using h2
            have hs2' : (x.dir != y.dir) = true := by simpa using h2
            clear h1 h2
            go_wp2_with (go_quiet (fail))
            go_ret
            exact ⟨by rw [Hf.out]; rfl, (by repeat (first | exact HX.out | apply Ext.drewN | apply Ext.alloc | apply Ext.drew))⟩
        · have hf := HNO.out (fun e => h1 (by unfold PF.f at e; simp only [Prod.mk.injEq] at e; exact e.1))
          have Hf := Lib.hid hf
          clear hf
          have hs1 : (x.nm == y.nm) = false := by simpa using h1
          clear h1
          go_wp2_with (go_quiet (fail))
          go_ret
          exact ⟨by rw [Hf.out]; rfl, (by repeat (first | exact HX.out | apply Ext.drewN | apply Ext.alloc | apply Ext.drew))⟩
      · obtain rfl : k = ps.length := by omega
        rw [List.take_length, HL.out, List.take_length] at htk
        have hf : r = true := HhR.out.2 htk
        have Hhf := Lib.hid hf
        clear hf
        have Hhtk := Lib.hid htk
        clear htk
        clear hx
        go_wp2_with (go_quiet (fail))
        go_ret
        exact ⟨by rw [Hhf.out]; rfl, (by repeat (first | exact HX.out | apply Ext.drewN | apply Ext.alloc | apply Ext.drew))⟩
  · have hne1 : ((ps.length : Int) != (qs.length : Int)) = true := by simp; omega
    have hne2 : (ps.length != qs.length) = true := by simp; omega
    have hf : r = false := by
      rw [Bool.eq_false_iff]
      intro h
      have := congrArg List.length (HhR.out.1 h)
      rw [List.length_map, List.length_map] at this
      exact hlen this
    have Hhf := Lib.hid hf
    clear hf
    clear hlen
    go_enter Try.func12, Try.ntmps12
    go_wp2_with fail
    go_ret
    exact ⟨by rw [Hhf.out]; rfl, Ext.refl _⟩
end L12
end Go.Proofs.Ytkmbahpjioopdaa
