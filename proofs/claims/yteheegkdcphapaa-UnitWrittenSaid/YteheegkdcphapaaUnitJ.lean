/- Layer 13: the walks of at and wrong. -/
import Derived.Test.YteheegkdcphapaaUnitH
import Derived.Test.YteheegkdcphapaaUnitI
namespace Go.Proofs.Yteheegkdcphapaa
open Go.RowKit Go.Shelf V
attribute [local go_sem] Oper.semAt_some Option.isSome_some
namespace L12
def encI3 (x : Nat) : List Value := [.int .i64 (x : Int)]
theorem encI3_len (x : Nat) : (encI3 x).length = 1 := rfl
theorem encI3_one (s : Nat) : ∀ u ∈ encI3 s, u.oneCell' = true := by intro u hu; simp [encI3] at hu; subst hu; rfl
theorem rdI3_cell {w : World} {v : Value} {xs : List Nat} (h : Rd w 1 encI3 v xs) : ∃ a c, v = .slice a xs.length c ∧ xs.length ≤ c ∧ ∀ i, (hi : i < xs.length) → ∃ b o, a = some ⟨b, o, none⟩ ∧ w.cell? ⟨b, o + i, none⟩ = some (.int .i64 ((xs[i] : Nat) : Int)) := by
  obtain ⟨a, c, h1, h2, h3, h4⟩ := h
  refine ⟨a, c, h1, h2, fun i hi => ?_⟩
  obtain ⟨b, o, e, k⟩ := h4 i hi
  have k0 := k 0 (by simp [encI3])
  exact ⟨b, o, e, by simpa [encI3] using k0⟩
set_option maxRecDepth 100000 in
set_option maxHeartbeats 4000000 in
theorem at_calls (v u : Value) (zs ys : List Nat) (hzl : zs.length ≤ 100000) (w : World) (hv : Rd w 1 encI3 v zs) (hu : Rd w 1 encI3 u ys) :
    Calls Try.prog 43 #[v, u] w fun e w' => e = .returned (.bool (decide (zs = ys))) ∧ Ext w w' := by
  obtain ⟨az, cz, rfl, hacz, hcz⟩ := rdI3_cell hv
  obtain ⟨ay, cy, rfl, hacy, hcy⟩ := rdI3_cell hu
  obtain ⟨r, hr⟩ : ∃ r, r = decide (zs = ys) := ⟨_, rfl⟩
  rw [← hr]
  have hR : r = true ↔ zs = ys := by rw [hr, decide_eq_true_iff]
  clear hv hu
  have Hhr := Lib.hid hr
  clear hr
  have HhR := Lib.hid hR
  clear hR
  have Hhcy := Lib.hid hcy
  clear hcy
  have Hhcz := Lib.hid hcz
  clear hcz
  by_cases hlen : zs.length = ys.length
  · have hne1 : ((zs.length : Int) != (ys.length : Int)) = false := by rw [hlen]; simp
    have hne2 : (zs.length != ys.length) = false := by rw [hlen]; simp
    have HL := Lib.hid hlen
    clear hlen
    go_enter Try.func43, Try.ntmps43
    go_wp2_with fail
    go_loopw [5] (fun i wr => ∃ k : Nat, k ≤ zs.length ∧ i = .int .i64 k ∧ zs.take k = ys.take k ∧ Ext w wr) (fun i _ => zs.length - (intOf i).toNat)
    case atStart => exact ⟨0, by omega, rfl, rfl, Ext.refl _⟩
    case round =>
      obtain ⟨k, hk, rfl, htk, hx⟩ := hrel
      have HX := Lib.hid hx
      by_cases hlt : k < zs.length
      · have hlt2 : k < ys.length := by rw [← HL.out]; exact hlt
        obtain ⟨b, o, rfl, d0⟩ := Hhcz.out k hlt
        obtain ⟨b', o', rfl, g0⟩ := Hhcy.out k hlt2
        replace d0 := hx.cell d0
        replace g0 := hx.cell g0
        have hty : ys.take (k + 1) = ys.take k ++ [ys[k]'hlt2] := List.take_succ_eq_append_getElem hlt2
        have htz : zs.take (k + 1) = zs.take k ++ [zs[k]'hlt] := List.take_succ_eq_append_getElem hlt
        have hget : ys = zs → ys[k]'hlt2 = zs[k]'hlt := fun e => by subst e; rfl
        clear hx
        generalize zs[k]'hlt = x at *
        generalize ys[k]'hlt2 = y at *
        by_cases hxy : x = y
        · have htk2 : zs.take (k + 1) = ys.take (k + 1) := by rw [hty, htz, htk, hxy]
          subst hxy
          have Hhty := Lib.hid hty
          clear hty
          have Hhtz := Lib.hid htz
          clear htz
          have Hhtk := Lib.hid htk
          clear htk
          have Hhtk2 := Lib.hid htk2
          clear htk2
          clear hget
          go_wp2_with (go_quiet (fail))
          go_roundw
          case rel => exact ⟨k + 1, by omega, by go_num, Hhtk2.out, (by repeat (first | exact HX.out | apply Ext.drewN | apply Ext.alloc | apply Ext.drew))⟩
          case measure => simp [intOf]; omega
        · have hq1 : ((x : Int) != (y : Int)) = true := by simp; omega
          have hq2 : (x != y) = true := by simp; omega
          have hf : r = false := by
            rw [Bool.eq_false_iff]
            intro h
            exact hxy (hget (HhR.out.1 h).symm).symm
          have Hhty := Lib.hid hty
          clear hty
          have Hhtz := Lib.hid htz
          clear htz
          have Hhtk := Lib.hid htk
          clear htk
          have Hhxy := Lib.hid hxy
          clear hxy
          have Hhf := Lib.hid hf
          clear hf
          clear hget
          go_wp2_with (go_quiet (fail))
          go_ret
          exact ⟨by rw [Hhf.out]; rfl, (by repeat (first | exact HX.out | apply Ext.drewN | apply Ext.alloc | apply Ext.drew))⟩
      · obtain rfl : k = zs.length := by omega
        rw [List.take_length, HL.out, List.take_length] at htk
        have hf : r = true := HhR.out.2 htk
        have Hhf := Lib.hid hf
        clear hf
        have Hhtk := Lib.hid htk
        clear htk
        clear hx
        go_wp2_with (go_quiet (fail))
        go_ret
        exact ⟨by rw [Hhf.out]; rfl, (by repeat (first | exact HX.out | apply Ext.drewN | apply Ext.alloc | apply Ext.drew))⟩
  · have hne1 : ((zs.length : Int) != (ys.length : Int)) = true := by simp; omega
    have hne2 : (zs.length != ys.length) = true := by simp; omega
    have hf : r = false := by
      rw [Bool.eq_false_iff]
      intro h
      exact hlen (by rw [HhR.out.1 h])
    have Hhf := Lib.hid hf
    clear hf
    clear hlen
    go_enter Try.func43, Try.ntmps43
    go_wp2_with fail
    go_ret
    exact ⟨by rw [Hhf.out]; rfl, Ext.refl _⟩
end L12
end Go.Proofs.Yteheegkdcphapaa
