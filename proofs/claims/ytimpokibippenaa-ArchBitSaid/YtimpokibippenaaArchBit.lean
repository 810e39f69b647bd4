/- ArchBit meets its given row: whatever the input, it returns true, and each argument reads behind the call as it read before. No condition of ours. -/
import Derived.Test.YtimpokibippenaaArchF
import Derived.Test.YtimpokibippenaaArchL
namespace Go.Proofs.Ytimpokibippenaa
open Go.RowKit Go.ChangeShapes Go.WideShapes Go.ChangeAt V
namespace L08
set_option maxRecDepth 100000 in
theorem ArchBit_lifted (os : Os) (started : os.Started) (H : Type) (enc : TypeId × Value → H) :
    ReturnsInHanded {} Try.checked os 4 .any (Rows.archBitSpec.pre6 enc Try.prog Try.f4 Rows.archBitRow.domain false) (Rows.archBitSpec.post enc Try.prog Try.f4 false true false false) := by
  refine law_lifted (C := Try.checked) (T := 4) Try.own started (by kernel_rfl) Try.func4 Try.laidOut (by kernel_rfl) rfl rfl Try.underlying4 ?_
    (ChangeSpec.witness6 (enc := enc) (C := Try.checked) false ⟨#[], #[.int .u32 0, .int .u32 0], []⟩ 8 (by kernel_rfl) (by kernel_rfl) (by kernel_rfl) (by kernel_rfl)) ?_
  · intro ds hd
    match ds, hd with
    | [_, _], _ => rfl
  intro W base args ds before hval0 hA0 hlt hsz0
  have hval : ∀ (j : Nat) t v, Try.f4.params[j]? = some t → args[j]? = some v → Value.okWide Try.prog W .any base t v := hval0
  have hA : DataW.TrodAll enc Try.prog W 0 (fun _ => true) true Try.f4.params.toList args.toList ds before := hA0
  rw [Try.params4] at hA hval
  obtain ⟨v0, v1, d0, d1, p0, p1, rfl, rfl, rfl, h0, h1⟩ := trodAll_two hA
  obtain ⟨a0, rfl, rfl, rfl, w0⟩ := open_int Try.underlying32 (hval 0 32 v0 rfl rfl) h0
  obtain ⟨a0, rfl, b0⟩ := wf_u32 w0
  obtain ⟨a1, rfl, rfl, rfl, w1⟩ := open_int Try.underlying32 (hval 1 32 v1 rfl rfl) h1
  obtain ⟨a1, rfl, b1⟩ := wf_u32 w1
  exact ArchBit_calls a0 a1 b1 W
set_option maxRecDepth 100000 in
theorem ArchBit_holds : Rows.ArchBitSaid :=
  OpenClaim.holds_of_wide 4 Try.f4 rfl rfl rfl rfl rfl rfl rfl ⟨rfl, rfl, rfl, rfl, rfl⟩ rfl rfl rfl rfl rfl (by kernel_rfl) Try.func4 (by kernel_rfl)
    (of_decide_eq_true (by kernel_rfl)) (by unfold Func.isWrapper; first | (rw [if_pos (by decide +kernel)]; kernel_rfl) | (rw [if_neg (by decide +kernel)]; exact ⟨rfl, rfl⟩))
    (fun os started H enc _ => ArchBit_lifted os started H enc)
#print axioms ArchBit_holds
end L08
end Go.Proofs.Ytimpokibippenaa
