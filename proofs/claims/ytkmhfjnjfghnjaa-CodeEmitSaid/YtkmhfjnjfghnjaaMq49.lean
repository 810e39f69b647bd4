import Derived.Test.YtkmhfjnjfghnjaaMq47
import Derived.Test.YtkmhfjnjfghnjaaMq48
/- CodeEmit meets its given row: whatever the input, it returns true, and each argument reads behind the call as it read before. No condition of ours. -/
namespace Go.Proofs.Ytkmhfjnjfghnjaa
open Go.RowKit Go.ChangeShapes Go.WideShapes Go.ChangeAt V
namespace L25M
set_option maxRecDepth 100000 in
theorem CodeEmit_lifted (os : Os) (started : os.Started) (H : Type) (enc : TypeId × Value → H) :
    ReturnsInHanded {} Try.checked os 11 .any (Rows.codeEmitSpec.pre6 enc Try.prog Try.f11 Rows.codeEmitRow.domain false) (Rows.codeEmitSpec.post enc Try.prog Try.f11 false true false false) := by
  refine law_lifted (C := Try.checked) (T := 4) Try.own started (by kernel_rfl) Try.func11 Try.laidOut (by kernel_rfl) rfl rfl Try.underlying4 ?_
    (ChangeSpec.witness6 (enc := enc) (C := Try.checked) false ⟨#[], #[.agg #[.int .i64 0, .slice none 0 0, .int .u32 0], .agg #[.int .u32 0, .int .u32 0, .int .u64 0, .int .u64 0, .int .u64 0, .int .u64 0, .int .u64 0, .int .u64 0, .int .u64 0], .int .i64 0], []⟩ 8 (by kernel_rfl) (by kernel_rfl) (by kernel_rfl) (by kernel_rfl)) ?_
  · intro ds hd
    match ds, hd with
    | [_, _, _], _ => rfl
  intro W base args ds before hval0 hA0 hlt hsz0
  have hval : ∀ (j : Nat) t v, Try.f11.params[j]? = some t → args[j]? = some v → Value.okWide Try.prog W .any base t v := hval0
  have hA : DataW.TrodAll enc Try.prog W 0 (fun _ => true) true Try.f11.params.toList args.toList ds before := hA0
  have hsz : (DataW.weightsEach Try.prog Try.f11.params.toList ds).all (· ≤ reachBytes) = true := hsz0
  rw [Try.params11] at hA hval hsz
  obtain ⟨v0, v1, v2, d0, d1, d2, p0, p1, p2, rfl, rfl, rfl, h0, h1, h2⟩ := trodAll_three hA
  obtain ⟨f0, u0, rfl, hu0, hf0⟩ := L21.dec_F (hval 0 25 v0 rfl rfl) h0 (light_of hsz (i := 0) rfl rfl)
  obtain ⟨x1, rfl, hd1⟩ := L25.dec_D (hval 1 40 v1 rfl rfl) h1 (light_of hsz (i := 1) rfl rfl)
  obtain ⟨a2, rfl, rfl, rfl, w2⟩ := open_int Try.underlying3 (hval 2 3 v2 rfl rfl) h2
  have b2 := wf_i64 w2
  exact CodeEmit_calls f0 u0 hf0 x1 hd1 a2 W hu0
set_option maxRecDepth 100000 in
theorem CodeEmit_holds : Rows.CodeEmitSaid :=
  OpenClaim.holds_of_wide 11 Try.f11 rfl rfl rfl rfl rfl rfl rfl ⟨rfl, rfl, rfl, rfl, rfl⟩ rfl rfl rfl rfl rfl (by kernel_rfl) Try.func11 (by kernel_rfl)
    (of_decide_eq_true (by kernel_rfl)) (by unfold Func.isWrapper; first | (rw [if_pos (by decide +kernel)]; kernel_rfl) | (rw [if_neg (by decide +kernel)]; exact ⟨rfl, rfl⟩))
    (fun os started H enc _ => CodeEmit_lifted os started H enc)
#print axioms CodeEmit_holds
end L25M
end Go.Proofs.Ytkmhfjnjfghnjaa

