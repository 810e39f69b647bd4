/- CodeGuard meets its given row: whatever the input, it returns true, and each argument reads behind the call as it read before. No condition of ours. -/
import Derived.Test.YtkmhfjnjfghnjaaWrN
namespace Go.Proofs.Ytkmhfjnjfghnjaa
open Go.RowKit Go.ChangeShapes Go.WideShapes Go.ChangeAt V L25
namespace L25G
set_option maxRecDepth 100000 in
theorem CodeGuard_lifted (os : Os) (started : os.Started) (H : Type) (enc : TypeId × Value → H) :
    ReturnsInHanded {} Try.checked os 10 .any (Rows.codeGuardSpec.pre6 enc Try.prog Try.f10 Rows.codeGuardRow.domain false) (Rows.codeGuardSpec.post enc Try.prog Try.f10 false true false false) := by
  refine law_lifted (C := Try.checked) (T := 4) Try.own started (by kernel_rfl) Try.func10 Try.laidOut (by kernel_rfl) rfl rfl Try.underlying4 ?_
    (ChangeSpec.witness6 (enc := enc) (C := Try.checked) false ⟨#[], #[.slice none 0 0, .agg #[.int .u32 0, .int .u32 0, .int .u64 0, .int .u64 0, .int .u64 0, .int .u64 0, .int .u64 0, .int .u64 0, .int .u64 0]], []⟩ 8 (by kernel_rfl) (by kernel_rfl) (by kernel_rfl) (by kernel_rfl)) ?_
  · intro ds hd
    match ds, hd with
    | [_, _], _ => rfl
  intro W base args ds before hval0 hA0 hlt hsz0
  have hval : ∀ (j : Nat) t v, Try.f10.params[j]? = some t → args[j]? = some v → Value.okWide Try.prog W .any base t v := hval0
  have hA : DataW.TrodAll enc Try.prog W 0 (fun _ => true) true Try.f10.params.toList args.toList ds before := hA0
  have hsz : (DataW.weightsEach Try.prog Try.f10.params.toList ds).all (· ≤ reachBytes) = true := hsz0
  rw [Try.params10] at hA hval hsz
  obtain ⟨v0, v1, d0, d1, p0, p1, rfl, rfl, rfl, h0, h1⟩ := trodAll_two hA
  have hv0 := okWide_slice Try.underlying61 (hval 0 61 v0 rfl rfl)
  obtain ⟨fuel0, hf0⟩ := h0
  rw [slice_cells hv0] at hf0
  obtain ⟨x0, hR0, hl0, _⟩ := open_rd (n := 1) (fun cs x => cs = encI x ∧ OkI x) 0 Try.underlying61 (by kernel_rfl) (by decide) (fun fuel cs y hy hyl hyn => dec_I fuel cs y hy) hf0 (light_of hsz (i := 0) rfl rfl)
  obtain ⟨hr0, hk0⟩ := hR0.rd
  obtain ⟨x1, rfl, hd1⟩ := L25.dec_D (hval 1 40 v1 rfl rfl) h1 (light_of hsz (i := 1) rfl rfl)
  exact CodeGuard_calls v0 x0 x1 hd1 hl0 W hr0
set_option maxRecDepth 100000 in
theorem CodeGuard_holds : Rows.CodeGuardSaid :=
  OpenClaim.holds_of_wide 10 Try.f10 rfl rfl rfl rfl rfl rfl rfl ⟨rfl, rfl, rfl, rfl, rfl⟩ rfl rfl rfl rfl rfl (by kernel_rfl) Try.func10 (by kernel_rfl)
    (of_decide_eq_true (by kernel_rfl)) (by unfold Func.isWrapper; first | (rw [if_pos (by decide +kernel)]; kernel_rfl) | (rw [if_neg (by decide +kernel)]; exact ⟨rfl, rfl⟩))
    (fun os started H enc _ => CodeGuard_lifted os started H enc)
#print axioms CodeGuard_holds
end L25G
end Go.Proofs.Ytkmhfjnjfghnjaa
