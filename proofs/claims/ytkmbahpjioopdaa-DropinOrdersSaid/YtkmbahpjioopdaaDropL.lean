/- Layer 14: assignments and notes compared, their files' names too. (Printed by wip/tools/mksame14.py.) -/
import Derived.Laws.StructEq
import Derived.Test.YtkmbahpjioopdaaDropK
namespace Go.Proofs.Ytkmbahpjioopdaa
open Go.RowKit V
attribute [local go_sem] Oper.semAt_some
namespace L12
def sameAF (s t : AF) : Bool := (s.1 == t.1) && (s.2.1 == t.2.1) && (s.2.2.1 == t.2.2.1) && (s.2.2.2.1 == t.2.2.2.1) && (s.2.2.2.2 == t.2.2.2.2)
theorem sameAF_iff (s t : AF) : sameAF s t = true ↔ s = t := by
  obtain ⟨a, b, c, d, e⟩ := s; obtain ⟨a2, b2, c2, d2, e2⟩ := t
  simp [sameAF, and_assoc]
theorem hgAF : Try.prog.eqGuardType Try.prog.depth 64 = false := by kernel_rfl
theorem run_equalAF (s t : AF) (w : World) : (Op.equalIn 10000 64 (.agg #[.string (str (s).1), .int .i64 ((s).2.1 : Int), .string (str (s).2.2.1), .string (str (s).2.2.2.1), .string (str (s).2.2.2.2)]) (.agg #[.string (str (t).1), .int .i64 ((t).2.1 : Int), .string (str (t).2.2.1), .string (str (t).2.2.2.1), .string (str (t).2.2.2.2)])).run Try.prog w = .ok (sameAF s t) w := by
  simp [go_sem]
  by_cases h0 : s.1 = t.1 <;> by_cases h1 : s.2.1 = t.2.1 <;> by_cases h2 : s.2.2.1 = t.2.2.1 <;> by_cases h3 : s.2.2.2.1 = t.2.2.2.1 <;> by_cases h4 : s.2.2.2.2 = t.2.2.2.2 <;> simp [sameAF, h0, h1, h2, h3, h4, Int.ofNat_inj]
theorem run_neqAF (s t : AF) (w : World) : (binOp .neq 64 (.agg #[.string (str (s).1), .int .i64 ((s).2.1 : Int), .string (str (s).2.2.1), .string (str (s).2.2.2.1), .string (str (s).2.2.2.2)]) (.agg #[.string (str (t).1), .int .i64 ((t).2.1 : Int), .string (str (t).2.2.1), .string (str (t).2.2.2.1), .string (str (t).2.2.2.2)])).run Try.prog w = .ok (.bool (!sameAF s t)) w := by
  rw [run_neq_struct, run_equalAF]; rfl
theorem rdAF_cell {w : World} {v : Value} {xs : List AF} (h : Rd w 5 encAF v xs) : ∃ a c, v = .slice a xs.length c ∧ xs.length ≤ c ∧ ∀ i, (hi : i < xs.length) → ∃ b o, a = some ⟨b, o, none⟩ ∧ w.cell? ⟨b, o + i * 5, none⟩ = some (.string (str (xs[i]).1)) ∧ w.cell? ⟨b, o + i * 5 + 1, none⟩ = some (.int .i64 ((xs[i]).2.1 : Int)) ∧ w.cell? ⟨b, o + i * 5 + 2, none⟩ = some (.string (str (xs[i]).2.2.1)) ∧ w.cell? ⟨b, o + i * 5 + 3, none⟩ = some (.string (str (xs[i]).2.2.2.1)) ∧ w.cell? ⟨b, o + i * 5 + 4, none⟩ = some (.string (str (xs[i]).2.2.2.2)) := by
  obtain ⟨a, c, h1, h2, h3, h4⟩ := h
  refine ⟨a, c, h1, h2, fun i hi => ?_⟩
  obtain ⟨b, o, e, k⟩ := h4 i hi
  have k0 := k 0 (by simp [encAF])
  have k1 := k 1 (by simp [encAF])
  have k2 := k 2 (by simp [encAF])
  have k3 := k 3 (by simp [encAF])
  have k4 := k 4 (by simp [encAF])
  exact ⟨b, o, e, by simpa [encAF] using k0, by simpa [encAF] using k1, by simpa [encAF] using k2, by simpa [encAF] using k3, by simpa [encAF] using k4⟩
set_option maxRecDepth 100000 in
set_option maxHeartbeats 4000000 in
theorem sameAF_calls (v u : Value) (zs ys : List AF) (_hzl : zs.length ≤ 100000) (_hyl : ys.length ≤ 100000) (w : World) (hv : Rd w 5 encAF v zs) (hu : Rd w 5 encAF u ys) :
    Calls Try.prog 18 #[v, u] w fun e w' => e = .returned (.bool (decide (zs = ys))) ∧ Ext w w' := by
  obtain ⟨az, cz, rfl, hacz, hcz⟩ := rdAF_cell hv
  obtain ⟨ay, cy, rfl, hacy, hcy⟩ := rdAF_cell hu
  obtain ⟨r, hr⟩ : ∃ r, r = decide (zs = ys) := ⟨_, rfl⟩
  rw [← hr]
  have hR : r = true ↔ zs = ys := by rw [hr, decide_eq_true_iff]
  clear hv hu
  have Hhr := Lib.hid hr
  clear hr
  have HhR := Lib.hid hR
  clear hR
  have Hhcy := Lib.hid hcy
  clear hcy
  have Hhcz := Lib.hid hcz
  clear hcz
  by_cases hlen : zs.length = ys.length
  · have hne1 : ((zs.length : Int) != (ys.length : Int)) = false := by rw [hlen]; simp
    have hne2 : (zs.length != ys.length) = false := by rw [hlen]; simp
    have HL := Lib.hid hlen
    clear hlen
    go_enter Try.func18, Try.ntmps18
    go_wp2_with fail
    go_loopw [5] (fun i wr => ∃ k : Nat, k ≤ zs.length ∧ i = .int .i64 k ∧ zs.take k = ys.take k ∧ Ext w wr) (fun i _ => zs.length - (intOf i).toNat)
    case atStart => exact ⟨0, by omega, rfl, rfl, Ext.refl _⟩
    case round =>
      obtain ⟨k, hk, rfl, htk, hx⟩ := hrel
      have HX := Lib.hid hx
      by_cases hlt : k < zs.length
      · have hlt2 : k < ys.length := by rw [← HL.out]; exact hlt
        obtain ⟨b, o, rfl, d0, d1, d2, d3, d4⟩ := Hhcz.out k hlt
        obtain ⟨b', o', rfl, g0, g1, g2, g3, g4⟩ := Hhcy.out k hlt2
        replace d0 := hx.cell d0
        replace d1 := hx.cell d1
        replace d2 := hx.cell d2
        replace d3 := hx.cell d3
        replace d4 := hx.cell d4
        replace g0 := hx.cell g0
        replace g1 := hx.cell g1
        replace g2 := hx.cell g2
        replace g3 := hx.cell g3
        replace g4 := hx.cell g4
        have hq := run_neqAF (zs[k]'hlt) (ys[k]'hlt2)
        have hg := hgAF
        have hs := sameAF_iff (zs[k]'hlt) (ys[k]'hlt2)
        have hty : ys.take (k + 1) = ys.take k ++ [ys[k]'hlt2] := List.take_succ_eq_append_getElem hlt2
        have htz : zs.take (k + 1) = zs.take k ++ [zs[k]'hlt] := List.take_succ_eq_append_getElem hlt
        have hget : ys = zs → ys[k]'hlt2 = zs[k]'hlt := fun e => by subst e; rfl
        clear hx
        generalize zs[k]'hlt = x at *
        generalize ys[k]'hlt2 = y at *
        cases hxy : sameAF x y
        · rw [hxy] at hq
          have hf : r = false := by
            rw [Bool.eq_false_iff]
            intro h
            have := hget (HhR.out.1 h).symm
            rw [Bool.eq_false_iff] at hxy
            exact hxy (hs.2 this.symm)
          have Hhs := Lib.hid hs
          clear hs
          have Hhty := Lib.hid hty
          clear hty
          have Hhtz := Lib.hid htz
          clear htz
          have Hhtk := Lib.hid htk
          clear htk
          have Hhxy := Lib.hid hxy
          clear hxy
          have Hhf := Lib.hid hf
          clear hf
          clear hget
          go_wp2_with (go_quiet (fail))
          go_ret
          exact ⟨by rw [Hhf.out]; rfl, (by repeat (first | exact HX.out | apply Ext.drewN | apply Ext.alloc | apply Ext.drew))⟩
        · rw [hxy] at hq
          have hxe := hs.1 hxy
          have htk2 : zs.take (k + 1) = ys.take (k + 1) := by rw [hty, htz, htk, hxe]
          have Hhs := Lib.hid hs
          clear hs
          have Hhty := Lib.hid hty
          clear hty
          have Hhtz := Lib.hid htz
          clear htz
          have Hhtk := Lib.hid htk
          clear htk
          have Hhxy := Lib.hid hxy
          clear hxy
          have Hhtk2 := Lib.hid htk2
          clear htk2
          have Hhxe := Lib.hid hxe
          clear hxe
          clear hget
          go_wp2_with (go_quiet (fail))
          go_roundw
          case rel => exact ⟨k + 1, by omega, by go_num, Hhtk2.out, (by repeat (first | exact HX.out | apply Ext.drewN | apply Ext.alloc | apply Ext.drew))⟩
          case measure => simp [intOf]; omega
      · obtain rfl : k = zs.length := by omega
        rw [List.take_length, HL.out, List.take_length] at htk
        have hf : r = true := HhR.out.2 htk
        have Hhf := Lib.hid hf
        clear hf
        have Hhtk := Lib.hid htk
        clear htk
        clear hx
        go_wp2_with (go_quiet (fail))
        go_ret
        exact ⟨by rw [Hhf.out]; rfl, (by repeat (first | exact HX.out | apply Ext.drewN | apply Ext.alloc | apply Ext.drew))⟩
  · have hne1 : ((zs.length : Int) != (ys.length : Int)) = true := by simp; omega
    have hne2 : (zs.length != ys.length) = true := by simp; omega
    have hf : r = false := by
      rw [Bool.eq_false_iff]
      intro h
      exact hlen (by rw [HhR.out.1 h])
    have Hhf := Lib.hid hf
    clear hf
    clear hlen
    go_enter Try.func18, Try.ntmps18
    go_wp2_with fail
    go_ret
    exact ⟨by rw [Hhf.out]; rfl, Ext.refl _⟩
def sameNF (s t : NF) : Bool := (s.1 == t.1) && (s.2.1 == t.2.1) && (s.2.2.1 == t.2.2.1) && (s.2.2.2 == t.2.2.2)
theorem sameNF_iff (s t : NF) : sameNF s t = true ↔ s = t := by
  obtain ⟨a, b, c, d⟩ := s; obtain ⟨a2, b2, c2, d2⟩ := t
  simp [sameNF, and_assoc]
theorem hgNF : Try.prog.eqGuardType Try.prog.depth 47 = false := by kernel_rfl
theorem run_equalNF (s t : NF) (w : World) : (Op.equalIn 10000 47 (.agg #[.string (str (s).1), .int .i64 ((s).2.1 : Int), .int .i64 ((s).2.2.1 : Int), .string (str (s).2.2.2)]) (.agg #[.string (str (t).1), .int .i64 ((t).2.1 : Int), .int .i64 ((t).2.2.1 : Int), .string (str (t).2.2.2)])).run Try.prog w = .ok (sameNF s t) w := by
  simp [go_sem]
  by_cases h0 : s.1 = t.1 <;> by_cases h1 : s.2.1 = t.2.1 <;> by_cases h2 : s.2.2.1 = t.2.2.1 <;> by_cases h3 : s.2.2.2 = t.2.2.2 <;> simp [sameNF, h0, h1, h2, h3, Int.ofNat_inj]
theorem run_neqNF (s t : NF) (w : World) : (binOp .neq 47 (.agg #[.string (str (s).1), .int .i64 ((s).2.1 : Int), .int .i64 ((s).2.2.1 : Int), .string (str (s).2.2.2)]) (.agg #[.string (str (t).1), .int .i64 ((t).2.1 : Int), .int .i64 ((t).2.2.1 : Int), .string (str (t).2.2.2)])).run Try.prog w = .ok (.bool (!sameNF s t)) w := by
  rw [run_neq_struct, run_equalNF]; rfl
theorem rdNF_cell {w : World} {v : Value} {xs : List NF} (h : Rd w 4 encNF v xs) : ∃ a c, v = .slice a xs.length c ∧ xs.length ≤ c ∧ ∀ i, (hi : i < xs.length) → ∃ b o, a = some ⟨b, o, none⟩ ∧ w.cell? ⟨b, o + i * 4, none⟩ = some (.string (str (xs[i]).1)) ∧ w.cell? ⟨b, o + i * 4 + 1, none⟩ = some (.int .i64 ((xs[i]).2.1 : Int)) ∧ w.cell? ⟨b, o + i * 4 + 2, none⟩ = some (.int .i64 ((xs[i]).2.2.1 : Int)) ∧ w.cell? ⟨b, o + i * 4 + 3, none⟩ = some (.string (str (xs[i]).2.2.2)) := by
  obtain ⟨a, c, h1, h2, h3, h4⟩ := h
  refine ⟨a, c, h1, h2, fun i hi => ?_⟩
  obtain ⟨b, o, e, k⟩ := h4 i hi
  have k0 := k 0 (by simp [encNF])
  have k1 := k 1 (by simp [encNF])
  have k2 := k 2 (by simp [encNF])
  have k3 := k 3 (by simp [encNF])
  exact ⟨b, o, e, by simpa [encNF] using k0, by simpa [encNF] using k1, by simpa [encNF] using k2, by simpa [encNF] using k3⟩
set_option maxRecDepth 100000 in
set_option maxHeartbeats 4000000 in
theorem sameNF_calls (v u : Value) (zs ys : List NF) (_hzl : zs.length ≤ 100000) (_hyl : ys.length ≤ 100000) (w : World) (hv : Rd w 4 encNF v zs) (hu : Rd w 4 encNF u ys) :
    Calls Try.prog 19 #[v, u] w fun e w' => e = .returned (.bool (decide (zs = ys))) ∧ Ext w w' := by
  obtain ⟨az, cz, rfl, hacz, hcz⟩ := rdNF_cell hv
  obtain ⟨ay, cy, rfl, hacy, hcy⟩ := rdNF_cell hu
  obtain ⟨r, hr⟩ : ∃ r, r = decide (zs = ys) := ⟨_, rfl⟩
  rw [← hr]
  have hR : r = true ↔ zs = ys := by rw [hr, decide_eq_true_iff]
  clear hv hu
  have Hhr := Lib.hid hr
  clear hr
  have HhR := Lib.hid hR
  clear hR
  have Hhcy := Lib.hid hcy
  clear hcy
  have Hhcz := Lib.hid hcz
  clear hcz
  by_cases hlen : zs.length = ys.length
  · have hne1 : ((zs.length : Int) != (ys.length : Int)) = false := by rw [hlen]; simp
    have hne2 : (zs.length != ys.length) = false := by rw [hlen]; simp
    have HL := Lib.hid hlen
    clear hlen
    go_enter Try.func19, Try.ntmps19
    go_wp2_with fail
    go_loopw [5] (fun i wr => ∃ k : Nat, k ≤ zs.length ∧ i = .int .i64 k ∧ zs.take k = ys.take k ∧ Ext w wr) (fun i _ => zs.length - (intOf i).toNat)
    case atStart => exact ⟨0, by omega, rfl, rfl, Ext.refl _⟩
    case round =>
      obtain ⟨k, hk, rfl, htk, hx⟩ := hrel
      have HX := Lib.hid hx
      by_cases hlt : k < zs.length
      · have hlt2 : k < ys.length := by rw [← HL.out]; exact hlt
        obtain ⟨b, o, rfl, d0, d1, d2, d3⟩ := Hhcz.out k hlt
        obtain ⟨b', o', rfl, g0, g1, g2, g3⟩ := Hhcy.out k hlt2
        replace d0 := hx.cell d0
        replace d1 := hx.cell d1
        replace d2 := hx.cell d2
        replace d3 := hx.cell d3
        replace g0 := hx.cell g0
        replace g1 := hx.cell g1
        replace g2 := hx.cell g2
        replace g3 := hx.cell g3
        have hq := run_neqNF (zs[k]'hlt) (ys[k]'hlt2)
        have hg := hgNF
        have hs := sameNF_iff (zs[k]'hlt) (ys[k]'hlt2)
        have hty : ys.take (k + 1) = ys.take k ++ [ys[k]'hlt2] := List.take_succ_eq_append_getElem hlt2
        have htz : zs.take (k + 1) = zs.take k ++ [zs[k]'hlt] := List.take_succ_eq_append_getElem hlt
        have hget : ys = zs → ys[k]'hlt2 = zs[k]'hlt := fun e => by subst e; rfl
        clear hx
        generalize zs[k]'hlt = x at *
        generalize ys[k]'hlt2 = y at *
        cases hxy : sameNF x y
        · rw [hxy] at hq
          have hf : r = false := by
            rw [Bool.eq_false_iff]
            intro h
            have := hget (HhR.out.1 h).symm
            rw [Bool.eq_false_iff] at hxy
            exact hxy (hs.2 this.symm)
          have Hhs := Lib.hid hs
          clear hs
          have Hhty := Lib.hid hty
          clear hty
          have Hhtz := Lib.hid htz
          clear htz
          have Hhtk := Lib.hid htk
          clear htk
          have Hhxy := Lib.hid hxy
          clear hxy
          have Hhf := Lib.hid hf
          clear hf
          clear hget
          go_wp2_with (go_quiet (fail))
          go_ret
          exact ⟨by rw [Hhf.out]; rfl, (by repeat (first | exact HX.out | apply Ext.drewN | apply Ext.alloc | apply Ext.drew))⟩
        · rw [hxy] at hq
          have hxe := hs.1 hxy
          have htk2 : zs.take (k + 1) = ys.take (k + 1) := by rw [hty, htz, htk, hxe]
          have Hhs := Lib.hid hs
          clear hs
          have Hhty := Lib.hid hty
          clear hty
          have Hhtz := Lib.hid htz
          clear htz
          have Hhtk := Lib.hid htk
          clear htk
          have Hhxy := Lib.hid hxy
          clear hxy
          have Hhtk2 := Lib.hid htk2
          clear htk2
          have Hhxe := Lib.hid hxe
          clear hxe
          clear hget
          go_wp2_with (go_quiet (fail))
          go_roundw
          case rel => exact ⟨k + 1, by omega, by go_num, Hhtk2.out, (by repeat (first | exact HX.out | apply Ext.drewN | apply Ext.alloc | apply Ext.drew))⟩
          case measure => simp [intOf]; omega
      · obtain rfl : k = zs.length := by omega
        rw [List.take_length, HL.out, List.take_length] at htk
        have hf : r = true := HhR.out.2 htk
        have Hhf := Lib.hid hf
        clear hf
        have Hhtk := Lib.hid htk
        clear htk
        clear hx
        go_wp2_with (go_quiet (fail))
        go_ret
        exact ⟨by rw [Hhf.out]; rfl, (by repeat (first | exact HX.out | apply Ext.drewN | apply Ext.alloc | apply Ext.drew))⟩
  · have hne1 : ((zs.length : Int) != (ys.length : Int)) = true := by simp; omega
    have hne2 : (zs.length != ys.length) = true := by simp; omega
    have hf : r = false := by
      rw [Bool.eq_false_iff]
      intro h
      exact hlen (by rw [HhR.out.1 h])
    have Hhf := Lib.hid hf
    clear hf
    clear hlen
    go_enter Try.func19, Try.ntmps19
    go_wp2_with fail
    go_ret
    exact ⟨by rw [Hhf.out]; rfl, Ext.refl _⟩
end L12
end Go.Proofs.Ytkmbahpjioopdaa
