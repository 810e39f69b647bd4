/- UnitWritten meets its given row: whatever the input, it returns true, and each argument reads behind the call as it read before. No condition of ours. -/
import Derived.Test.YteheegkdcphapaaUnitZ
namespace Go.Proofs.Yteheegkdcphapaa
open Go.RowKit Go.ChangeShapes Go.WideShapes Go.ChangeAt V
namespace L12
set_option maxRecDepth 100000 in
theorem UnitWritten_lifted (os : Os) (started : os.Started) (H : Type) (enc : TypeId × Value → H) :
    ReturnsInHanded {} Try.checked os 10 .any (Rows.unitWrittenSpec.pre6 enc Try.prog Try.f10 Rows.unitWrittenRow.domain false) (Rows.unitWrittenSpec.post enc Try.prog Try.f10 false true false false) := by
  refine law_lifted (C := Try.checked) (T := 4) Try.own started (by kernel_rfl) Try.func10 Try.laidOut (by kernel_rfl) rfl rfl Try.underlying4 ?_
    (ChangeSpec.witness6 (enc := enc) (C := Try.checked) false ⟨#[], #[.slice none 0 0, .bool false], []⟩ 8 (by kernel_rfl) (by kernel_rfl) (by kernel_rfl) (by kernel_rfl)) ?_
  · intro ds hd
    match ds, hd with
    | [_, _], _ => rfl
  intro W base args ds before hval0 hA0 hlt hsz0
  have hval : ∀ (j : Nat) t v, Try.f10.params[j]? = some t → args[j]? = some v → Value.okWide Try.prog W .any base t v := hval0
  have hA : DataW.TrodAll enc Try.prog W 0 (fun _ => true) true Try.f10.params.toList args.toList ds before := hA0
  have hsz : (DataW.weightsEach Try.prog Try.f10.params.toList ds).all (· ≤ reachBytes) = true := hsz0
  rw [Try.params10] at hA hval hsz
  obtain ⟨v0, v1, d0, d1, p0, p1, rfl, rfl, rfl, h0, h1⟩ := trodAll_two hA
  have hv0 := okWide_slice Try.underlying50 (hval 0 50 v0 rfl rfl)
  obtain ⟨fuel0, hf0⟩ := h0
  rw [slice_cells hv0] at hf0
  obtain ⟨x0, hR0, hl0, _⟩ := open_rd (n := 5) (fun cs x => cs = L12.encAI x ∧ L12.OkAI x) ⟨⟨#[]⟩, 0, [], [], []⟩ Try.underlying50 (by kernel_rfl) (by decide) (fun fuel cs y hy hyl hyn => L12.dec_AI fuel cs y hy hyl hyn) hf0 (light_of hsz (i := 0) rfl rfl)
  obtain ⟨hr0, hk0⟩ := hR0.rd
  obtain ⟨a1, rfl, rfl, rfl⟩ := open_bool Try.underlying4 (hval 1 4 v1 rfl rfl) h1
  exact UnitWritten_calls v0 x0 hl0 hk0 a1 W hr0
set_option maxRecDepth 100000 in
theorem UnitWritten_holds : Rows.UnitWrittenSaid :=
  OpenClaim.holds_of_wide 10 Try.f10 rfl rfl rfl rfl rfl rfl rfl ⟨rfl, rfl, rfl, rfl, rfl⟩ rfl rfl rfl rfl rfl (by kernel_rfl) Try.func10 (by kernel_rfl)
    (of_decide_eq_true (by kernel_rfl)) (by unfold Func.isWrapper; first | (rw [if_pos (by decide +kernel)]; kernel_rfl) | (rw [if_neg (by decide +kernel)]; exact ⟨rfl, rfl⟩))
    (fun os started H enc _ => UnitWritten_lifted os started H enc)
#print axioms UnitWritten_holds
end L12
end Go.Proofs.Yteheegkdcphapaa
