/- ValuesPlain meets its given row: whatever the input, it returns true, and each argument reads behind the call as it read before. No condition of ours. -/
import Derived.Test.YtojlpocpcakcbaaSeat
import Derived.Test.YtojlpocpcakcbaaValL
namespace Go.Proofs.Ytojlpocpcakcbaa
open Go.RowKit Go.ChangeShapes Go.WideShapes Go.ChangeAt V
namespace L10
set_option maxRecDepth 100000 in
theorem ValuesPlain_lifted (os : Os) (started : os.Started) (H : Type) (enc : TypeId × Value → H) :
    ReturnsInHanded {} Try.checked os 4 .any (Rows.valuesPlainSpec.pre6 enc Try.prog Try.f4 Rows.valuesPlainRow.domain false) (Rows.valuesPlainSpec.post enc Try.prog Try.f4 false true false false) := by
  refine law_lifted (C := Try.checked) (T := 4) Try.own started (by kernel_rfl) Try.func4 Try.laidOut (by kernel_rfl) rfl rfl Try.underlying4 ?_
    (ChangeSpec.witness6 (enc := enc) (C := Try.checked) false ⟨#[], #[.string ⟨#[]⟩], []⟩ 8 (by kernel_rfl) (by kernel_rfl) (by kernel_rfl) (by kernel_rfl)) ?_
  · intro ds hd
    match ds, hd with
    | [_], _ => rfl
  intro W base args ds before hval0 hA0 hlt hsz0
  have hval : ∀ (j : Nat) t v, Try.f4.params[j]? = some t → args[j]? = some v → Value.okWide Try.prog W .any base t v := hval0
  have hA : DataW.TrodAll enc Try.prog W 0 (fun _ => true) true Try.f4.params.toList args.toList ds before := hA0
  rw [Try.params4] at hA hval
  obtain ⟨v0, d0, rfl, rfl, h0⟩ := trodAll_one hA
  obtain ⟨a0, rfl, rfl, rfl, b0⟩ := open_str Try.underlying9 (hval 0 9 v0 rfl rfl) h0
  exact ValuesPlain_calls a0 W
set_option maxRecDepth 100000 in
theorem ValuesPlain_holds : Rows.ValuesPlainSaid :=
  OpenClaim.holds_of_wide 4 Try.f4 rfl rfl rfl rfl rfl rfl rfl ⟨rfl, rfl, rfl, rfl, rfl⟩ rfl rfl rfl rfl rfl (by kernel_rfl) Try.func4 (by kernel_rfl)
    (of_decide_eq_true (by kernel_rfl)) (by unfold Func.isWrapper; first | (rw [if_pos (by decide +kernel)]; kernel_rfl) | (rw [if_neg (by decide +kernel)]; exact ⟨rfl, rfl⟩))
    (fun os started H enc _ => ValuesPlain_lifted os started H enc)
#print axioms ValuesPlain_holds
end L10
end Go.Proofs.Ytojlpocpcakcbaa
