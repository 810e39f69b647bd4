/- ArchTokens meets its given row: whatever the input, it returns true, and each argument reads behind the call as it read before. No condition of ours. -/
import Derived.Test.YtimpokibippenaaArchH
import Derived.Test.YtimpokibippenaaArchL
namespace Go.Proofs.Ytimpokibippenaa
open Go.RowKit Go.ChangeShapes Go.WideShapes Go.ChangeAt V
namespace L08
set_option maxRecDepth 100000 in
theorem ArchTokens_lifted (os : Os) (started : os.Started) (H : Type) (enc : TypeId × Value → H) :
    ReturnsInHanded {} Try.checked os 7 .any (Rows.archTokensSpec.pre6 enc Try.prog Try.f7 Rows.archTokensRow.domain false) (Rows.archTokensSpec.post enc Try.prog Try.f7 false true false false) := by
  refine law_lifted (C := Try.checked) (T := 4) Try.own started (by kernel_rfl) Try.func7 Try.laidOut (by kernel_rfl) rfl rfl Try.underlying4 ?_
    (ChangeSpec.witness6 (enc := enc) (C := Try.checked) false ⟨#[], #[.int .i64 0, .int .u32 0, .int .u32 0, .slice none 0 0], []⟩ 8 (by kernel_rfl) (by kernel_rfl) (by kernel_rfl) (by kernel_rfl)) ?_
  · intro ds hd
    match ds, hd with
    | [_, _, _, _], _ => rfl
  intro W base args ds before hval0 hA0 hlt hsz0
  have hval : ∀ (j : Nat) t v, Try.f7.params[j]? = some t → args[j]? = some v → Value.okWide Try.prog W .any base t v := hval0
  have hA : DataW.TrodAll enc Try.prog W 0 (fun _ => true) true Try.f7.params.toList args.toList ds before := hA0
  have hsz : (DataW.weightsEach Try.prog Try.f7.params.toList ds).all (· ≤ reachBytes) = true := hsz0
  rw [Try.params7] at hA hval hsz
  obtain ⟨v0, v1, v2, v3, d0, d1, d2, d3, p0, p1, p2, p3, rfl, rfl, rfl, h0, h1, h2, h3⟩ := trodAll_four hA
  obtain ⟨a0, rfl, rfl, rfl, w0⟩ := open_int Try.underlying3 (hval 0 3 v0 rfl rfl) h0
  have b0 := wf_i64 w0
  obtain ⟨a1, rfl, rfl, rfl, w1⟩ := open_int Try.underlying32 (hval 1 32 v1 rfl rfl) h1
  obtain ⟨a1, rfl, b1⟩ := wf_u32 w1
  obtain ⟨a2, rfl, rfl, rfl, w2⟩ := open_int Try.underlying32 (hval 2 32 v2 rfl rfl) h2
  obtain ⟨a2, rfl, b2⟩ := wf_u32 w2
  have hv3 := okWide_slice Try.underlying36 (hval 3 36 v3 rfl rfl)
  obtain ⟨fuel3, hf3⟩ := h3
  rw [slice_cells hv3] at hf3
  obtain ⟨x3, hR3, hl3, _⟩ := open_rd (n := 1) (fun cs x => cs = encI x ∧ OkI x) 0 Try.underlying36 (by kernel_rfl) (by decide) (fun fuel cs y hy hyl hyn => dec_I fuel cs y hy) hf3 (light_of hsz (i := 3) rfl rfl)
  obtain ⟨hr3, hk3⟩ := hR3.rd
  exact ArchTokens_calls a0 a1 a2 v3 x3 hl3 b2 W hr3
set_option maxRecDepth 100000 in
theorem ArchTokens_holds : Rows.ArchTokensSaid :=
  OpenClaim.holds_of_wide 7 Try.f7 rfl rfl rfl rfl rfl rfl rfl ⟨rfl, rfl, rfl, rfl, rfl⟩ rfl rfl rfl rfl rfl (by kernel_rfl) Try.func7 (by kernel_rfl)
    (of_decide_eq_true (by kernel_rfl)) (by unfold Func.isWrapper; first | (rw [if_pos (by decide +kernel)]; kernel_rfl) | (rw [if_neg (by decide +kernel)]; exact ⟨rfl, rfl⟩))
    (fun os started H enc _ => ArchTokens_lifted os started H enc)
#print axioms ArchTokens_holds
end L08
end Go.Proofs.Ytimpokibippenaa
