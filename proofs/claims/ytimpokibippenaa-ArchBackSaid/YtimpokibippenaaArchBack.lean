/- ArchBack meets its given row: whatever the input, it returns true, and each argument reads behind the call as it read before. No condition of ours. -/
import Derived.Test.YtimpokibippenaaArchI
import Derived.Test.YtimpokibippenaaArchL
namespace Go.Proofs.Ytimpokibippenaa
open Go.RowKit Go.ChangeShapes Go.WideShapes Go.ChangeAt V
namespace L08
set_option maxRecDepth 100000 in
theorem ArchBack_lifted (os : Os) (started : os.Started) (H : Type) (enc : TypeId × Value → H) :
    ReturnsInHanded {} Try.checked os 6 .any (Rows.archBackSpec.pre6 enc Try.prog Try.f6 Rows.archBackRow.domain false) (Rows.archBackSpec.post enc Try.prog Try.f6 false true false false) := by
  refine law_lifted (C := Try.checked) (T := 4) Try.own started (by kernel_rfl) Try.func6 Try.laidOut (by kernel_rfl) rfl rfl Try.underlying4 ?_
    (ChangeSpec.witness6 (enc := enc) (C := Try.checked) false ⟨#[], #[.int .u32 0, .int .u32 0], []⟩ 8 (by kernel_rfl) (by kernel_rfl) (by kernel_rfl) (by kernel_rfl)) ?_
  · intro ds hd
    match ds, hd with
    | [_, _], _ => rfl
  intro W base args ds before hval0 hA0 hlt hsz0
  have hval : ∀ (j : Nat) t v, Try.f6.params[j]? = some t → args[j]? = some v → Value.okWide Try.prog W .any base t v := hval0
  have hA : DataW.TrodAll enc Try.prog W 0 (fun _ => true) true Try.f6.params.toList args.toList ds before := hA0
  rw [Try.params6] at hA hval
  obtain ⟨v0, v1, d0, d1, p0, p1, rfl, rfl, rfl, h0, h1⟩ := trodAll_two hA
  obtain ⟨a0, rfl, rfl, rfl, w0⟩ := open_int Try.underlying32 (hval 0 32 v0 rfl rfl) h0
  obtain ⟨a0, rfl, b0⟩ := wf_u32 w0
  obtain ⟨a1, rfl, rfl, rfl, w1⟩ := open_int Try.underlying32 (hval 1 32 v1 rfl rfl) h1
  obtain ⟨a1, rfl, b1⟩ := wf_u32 w1
  exact ArchBack_calls a0 a1 b1 W
set_option maxRecDepth 100000 in
theorem ArchBack_holds : Rows.ArchBackSaid :=
  OpenClaim.holds_of_wide 6 Try.f6 rfl rfl rfl rfl rfl rfl rfl ⟨rfl, rfl, rfl, rfl, rfl⟩ rfl rfl rfl rfl rfl (by kernel_rfl) Try.func6 (by kernel_rfl)
    (of_decide_eq_true (by kernel_rfl)) (by unfold Func.isWrapper; first | (rw [if_pos (by decide +kernel)]; kernel_rfl) | (rw [if_neg (by decide +kernel)]; exact ⟨rfl, rfl⟩))
    (fun os started H enc _ => ArchBack_lifted os started H enc)
#print axioms ArchBack_holds
end L08
end Go.Proofs.Ytimpokibippenaa
