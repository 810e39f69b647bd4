/- Layer 15: the walk of awake. (Printed by wip/tools/mkvale.py.) -/
import Derived.Test.YtojlpocpcakcbaaDoorValD
namespace Go.Proofs.YtojlpocpcakcbaaDoor
open Go.RowKit Go.Shelf Go.Sort V
attribute [local go_sem] Oper.semAt_some
namespace L10
theorem rdS1_cell {w : World} {v : Value} {xs : List ByteArray} (h : Rd w 1 encS1 v xs) : ∃ a c, v = .slice a xs.length c ∧ xs.length ≤ c ∧ ∀ i, (hi : i < xs.length) → ∃ b o, a = some ⟨b, o, none⟩ ∧ w.cell? ⟨b, o + i, none⟩ = some (.string xs[i]) := by
  obtain ⟨a, c, h1, h2, h3, h4⟩ := h
  refine ⟨a, c, h1, h2, fun i hi => ?_⟩
  obtain ⟨b, o, e, k⟩ := h4 i hi
  have k0 := k 0 (by simp [encS1])
  exact ⟨b, o, e, by simpa [encS1] using k0⟩
theorem awW : Lib.goFieldsP blankN ⟨#[32, 97, 32, 32, 98]⟩ = [⟨#[97]⟩, ⟨#[98]⟩] := by decide +kernel
theorem awT1 : Lib.trimPrefix (bytes ⟨#[126, 97, 32, 98]⟩) [126] = [97, 32, 98] ∧ Lib.hasPrefix (bytes ⟨#[126, 97, 32, 98]⟩) [126] = true := by decide +kernel
theorem awT2 : Lib.hasPrefix (bytes ⟨#[32, 126, 97]⟩) [126] = false := by decide +kernel
theorem awB0 : boolL ⟨#[111, 110]⟩ = (true, 0) := by decide +kernel
theorem awB1 : boolL ⟨#[48]⟩ = (false, 0) := by decide +kernel
theorem awB2 : boolL ⟨#[89, 101, 115]⟩ = (false, 150) := by decide +kernel
theorem awR0 : (if (readL (bytes ⟨#[114, 101, 97, 100]⟩)).2 = 0 then (readL (bytes ⟨#[114, 101, 97, 100]⟩)).1.2.1 else 7) = 0 ∧ (readL (bytes ⟨#[114, 101, 97, 100]⟩)).2 = 0 := by decide +kernel
theorem awR1 : (if (readL (bytes ⟨#[114, 101, 97, 100, 58, 69, 80, 69, 82, 77]⟩)).2 = 0 then (readL (bytes ⟨#[114, 101, 97, 100, 58, 69, 80, 69, 82, 77]⟩)).1.2.1 else 7) = 327681 ∧ (readL (bytes ⟨#[114, 101, 97, 100, 58, 69, 80, 69, 82, 77]⟩)).2 = 0 := by decide +kernel
theorem awR2 : (if (readL (bytes ⟨#[114, 101, 97, 100, 58, 107, 105, 108, 108]⟩)).2 = 0 then (readL (bytes ⟨#[114, 101, 97, 100, 58, 107, 105, 108, 108]⟩)).1.2.1 else 7) = 2147483648 ∧ (readL (bytes ⟨#[114, 101, 97, 100, 58, 107, 105, 108, 108]⟩)).2 = 0 := by decide +kernel
theorem awR3 : (if (readL (bytes ⟨#[58, 53]⟩)).2 = 0 then (readL (bytes ⟨#[58, 53]⟩)).1.2.1 else 7) = 7 ∧ (readL (bytes ⟨#[58, 53]⟩)).2 = 161 := by decide +kernel
theorem awR4 : (if (readL (bytes ⟨#[114, 101, 97, 100, 58, 120]⟩)).2 = 0 then (readL (bytes ⟨#[114, 101, 97, 100, 58, 120]⟩)).1.2.1 else 7) = 7 ∧ (readL (bytes ⟨#[114, 101, 97, 100, 58, 120]⟩)).2 = 160 := by decide +kernel
theorem awR5 : (if (readL (bytes ⟨#[97, 58, 53, 58, 54]⟩)).2 = 0 then (readL (bytes ⟨#[97, 58, 53, 58, 54]⟩)).1.2.1 else 7) = 7 ∧ (readL (bytes ⟨#[97, 58, 53, 58, 54]⟩)).2 = 160 := by decide +kernel
set_option maxRecDepth 100000 in
set_option maxHeartbeats 4000000 in
theorem awake15_calls (w : World) : Calls Tryd.prog 31 #[] w fun e w' => e = .returned (.bool true) ∧ Ext w w' := by
  have hW := fun W => Words_calls ⟨#[32, 97, 32, 32, 98]⟩ (by decide) W
  rw [awW] at hW
  have hB0 := fun W => Bool_calls ⟨#[111, 110]⟩ W
  rw [awB0] at hB0
  have hB1 := fun W => Bool_calls ⟨#[48]⟩ W
  rw [awB1] at hB1
  have hB2 := fun W => Bool_calls ⟨#[89, 101, 115]⟩ W
  rw [awB2] at hB2
  have hR0 := fun W => reads_calls ⟨#[114, 101, 97, 100]⟩ (by decide) W
  rw [awR0.1, awR0.2] at hR0
  have hR1 := fun W => reads_calls ⟨#[114, 101, 97, 100, 58, 69, 80, 69, 82, 77]⟩ (by decide) W
  rw [awR1.1, awR1.2] at hR1
  have hR2 := fun W => reads_calls ⟨#[114, 101, 97, 100, 58, 107, 105, 108, 108]⟩ (by decide) W
  rw [awR2.1, awR2.2] at hR2
  have hR3 := fun W => reads_calls ⟨#[58, 53]⟩ (by decide) W
  rw [awR3.1, awR3.2] at hR3
  have hR4 := fun W => reads_calls ⟨#[114, 101, 97, 100, 58, 120]⟩ (by decide) W
  rw [awR4.1, awR4.2] at hR4
  have hR5 := fun W => reads_calls ⟨#[97, 58, 53, 58, 54]⟩ (by decide) W
  rw [awR5.1, awR5.2] at hR5
  have hT1 := fun W => Turned_calls ⟨#[126, 97, 32, 98]⟩ W
  rw [awT1.1, awT1.2, show str [97, 32, 98] = ⟨#[97, 32, 98]⟩ from rfl] at hT1
  have hT2 := fun W => Turned_calls ⟨#[32, 126, 97]⟩ W
  rw [awT2] at hT2
  generalize str (Lib.trimPrefix (bytes ⟨#[32, 126, 97]⟩) [126]) = tz at *
  have HhW := Lib.hid hW
  clear hW
  have HhB0 := Lib.hid hB0
  clear hB0
  have HhB1 := Lib.hid hB1
  clear hB1
  have HhB2 := Lib.hid hB2
  clear hB2
  have HhR0 := Lib.hid hR0
  clear hR0
  have HhR1 := Lib.hid hR1
  clear hR1
  have HhR2 := Lib.hid hR2
  clear hR2
  have HhR3 := Lib.hid hR3
  clear hR3
  have HhR4 := Lib.hid hR4
  clear hR4
  have HhR5 := Lib.hid hR5
  clear hR5
  have HhT1 := Lib.hid hT1
  clear hT1
  have HhT2 := Lib.hid hT2
  clear hT2
  go_enter Tryd.func31, Tryd.ntmps31
  go_wp2_with fail
  refine (HhW.out _).mono ?_
  rintro e w0 ⟨v, rfl, hx0, ho0⟩
  obtain ⟨a, c, rfl, -, hc⟩ := rdS1_cell (rd_of_own encS1_len ho0)
  obtain ⟨b, o, rfl, d0⟩ := hc 0 (by decide)
  obtain ⟨b', o', e, d1⟩ := hc 1 (by decide)
  simp only [Option.some.injEq, Addr.mk.injEq, and_true] at e
  obtain ⟨rfl, rfl⟩ := e
  rw [Nat.add_zero] at d0
  have e0 : w0.cell? ⟨b, o, none⟩ = some (.string ⟨#[97]⟩) := d0
  have e1 : w0.cell? ⟨b, o + 1, none⟩ = some (.string ⟨#[98]⟩) := d1
  have HX0 := Lib.hid hx0
  have HY := Lib.hid (Ext.refl w0)
  clear hx0 ho0 hc d0 d1
  dsimp only [List.length_cons, List.length_nil]
  go_wp2_with fail
  refine (HhB0.out _).mono ?_
  rintro e w1 ⟨rfl, hx⟩
  have HY1 := Lib.hid (HY.out.trans hx)
  clear hx
  go_wp2_with fail
  refine (HhB1.out _).mono ?_
  rintro e w2 ⟨rfl, hx⟩
  have HY2 := Lib.hid (HY1.out.trans hx)
  clear hx
  go_wp2_with fail
  refine (HhB2.out _).mono ?_
  rintro e w3 ⟨rfl, hx⟩
  have HY3 := Lib.hid (HY2.out.trans hx)
  clear hx
  go_wp2_with fail
  refine (HhR0.out _).mono ?_
  rintro e w4 ⟨rfl, hx⟩
  have HY4 := Lib.hid (HY3.out.trans hx)
  clear hx
  go_wp2_with fail
  refine (HhR1.out _).mono ?_
  rintro e w5 ⟨rfl, hx⟩
  have HY5 := Lib.hid (HY4.out.trans hx)
  clear hx
  go_wp2_with fail
  refine (HhR2.out _).mono ?_
  rintro e w6 ⟨rfl, hx⟩
  have HY6 := Lib.hid (HY5.out.trans hx)
  clear hx
  go_wp2_with fail
  refine (HhR3.out _).mono ?_
  rintro e w7 ⟨rfl, hx⟩
  have HY7 := Lib.hid (HY6.out.trans hx)
  clear hx
  go_wp2_with fail
  refine (HhR4.out _).mono ?_
  rintro e w8 ⟨rfl, hx⟩
  have HY8 := Lib.hid (HY7.out.trans hx)
  clear hx
  go_wp2_with fail
  refine (HhR5.out _).mono ?_
  rintro e w9 ⟨rfl, hx⟩
  have HY9 := Lib.hid (HY8.out.trans hx)
  clear hx
  go_wp2_with fail
  refine (HhT1.out _).mono ?_
  rintro e w20 ⟨rfl, rfl⟩
  go_wp2_with fail
  refine (HhT2.out _).mono ?_
  rintro e w21 ⟨rfl, rfl⟩
  replace e0 := HY9.out.cell e0
  replace e1 := HY9.out.cell e1
  go_wp2_with fail
  go_ret
  exact ⟨rfl, HX0.out.trans HY9.out⟩
end L10
end Go.Proofs.YtojlpocpcakcbaaDoor
