/- LinesJoined meets its given row: whatever the input, it returns true, and each argument reads behind the call as it read before. No condition of ours. -/
import Derived.Test.YteheegkdcphapaaLineR
namespace Go.Proofs.Yteheegkdcphapaa
open Go.RowKit Go.ChangeShapes Go.WideShapes Go.ChangeAt V
namespace L12
set_option maxRecDepth 100000 in
theorem LinesJoined_lifted (os : Os) (started : os.Started) (H : Type) (enc : TypeId × Value → H) :
    ReturnsInHanded {} Try.checked os 7 .any (Rows.linesJoinedSpec.pre6 enc Try.prog Try.f7 Rows.linesJoinedRow.domain false) (Rows.linesJoinedSpec.post enc Try.prog Try.f7 false true false false) := by
  refine law_lifted (C := Try.checked) (T := 4) Try.own started (by kernel_rfl) Try.func7 Try.laidOut (by kernel_rfl) rfl rfl Try.underlying4 ?_
    (ChangeSpec.witness6 (enc := enc) (C := Try.checked) false ⟨#[], #[.slice none 0 0, .int .i64 0, .bool false], []⟩ 8 (by kernel_rfl) (by kernel_rfl) (by kernel_rfl) (by kernel_rfl)) ?_
  · intro ds hd
    match ds, hd with
    | [_, _, _], _ => rfl
  intro W base args ds before hval0 hA0 hlt hsz0
  have hval : ∀ (j : Nat) t v, Try.f7.params[j]? = some t → args[j]? = some v → Value.okWide Try.prog W .any base t v := hval0
  have hA : DataW.TrodAll enc Try.prog W 0 (fun _ => true) true Try.f7.params.toList args.toList ds before := hA0
  have hsz : (DataW.weightsEach Try.prog Try.f7.params.toList ds).all (· ≤ reachBytes) = true := hsz0
  rw [Try.params7] at hA hval hsz
  obtain ⟨v0, v1, v2, d0, d1, d2, p0, p1, p2, rfl, rfl, rfl, h0, h1, h2⟩ := trodAll_three hA
  have hv0 := okWide_slice Try.underlying32 (hval 0 32 v0 rfl rfl)
  obtain ⟨fuel0, hf0⟩ := h0
  rw [slice_cells hv0] at hf0
  obtain ⟨x0, hR0, hl0, _⟩ := open_rd (n := 1) (fun cs x => cs = encS1 x ∧ x.length ≤ maxLen) [] Try.underlying32 (by kernel_rfl) (by decide) (fun fuel cs y hy hyl hyn => dec_S1 fuel cs y hy) hf0 (light_of hsz (i := 0) rfl rfl)
  obtain ⟨hr0, hk0⟩ := hR0.rd
  obtain ⟨a1, rfl, rfl, rfl, w1⟩ := open_int Try.underlying3 (hval 1 3 v1 rfl rfl) h1
  obtain ⟨a2, rfl, rfl, rfl⟩ := open_bool Try.underlying4 (hval 2 4 v2 rfl rfl) h2
  exact LinesJoined_calls v0 x0 hl0 hk0 a1 a2 W hr0
set_option maxRecDepth 100000 in
theorem LinesJoined_holds : Rows.LinesJoinedSaid :=
  OpenClaim.holds_of_wide 7 Try.f7 rfl rfl rfl rfl rfl rfl rfl ⟨rfl, rfl, rfl, rfl, rfl⟩ rfl rfl rfl rfl rfl (by kernel_rfl) Try.func7 (by kernel_rfl)
    (of_decide_eq_true (by kernel_rfl)) (by unfold Func.isWrapper; first | (rw [if_pos (by decide +kernel)]; kernel_rfl) | (rw [if_neg (by decide +kernel)]; exact ⟨rfl, rfl⟩))
    (fun os started H enc _ => LinesJoined_lifted os started H enc)
#print axioms LinesJoined_holds
end L12
end Go.Proofs.Yteheegkdcphapaa
