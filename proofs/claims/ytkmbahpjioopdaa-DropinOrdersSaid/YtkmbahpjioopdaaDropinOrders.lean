/- DropinOrders meets its given row: whatever the input, it returns true, and each argument reads behind the call as it read before. No condition of ours. -/
import Derived.Test.YtkmbahpjioopdaaDropZ
import Derived.Test.YtkmbahpjioopdaaDropS
namespace Go.Proofs.Ytkmbahpjioopdaa
open Go.RowKit Go.ChangeShapes Go.WideShapes Go.ChangeAt V
namespace L12
set_option maxRecDepth 100000 in
theorem DropinOrders_lifted (os : Os) (started : os.Started) (H : Type) (enc : TypeId × Value → H) :
    ReturnsInHanded {} Try.checked os 3 .any (Rows.dropinOrdersSpec.pre6 enc Try.prog Try.f3 Rows.dropinOrdersRow.domain false) (Rows.dropinOrdersSpec.post enc Try.prog Try.f3 false true false false) := by
  refine law_lifted (C := Try.checked) (T := 4) Try.own started (by kernel_rfl) Try.func3 Try.laidOut (by kernel_rfl) rfl rfl Try.underlying4 ?_
    (ChangeSpec.witness6 (enc := enc) (C := Try.checked) false ⟨#[], #[.agg #[.string ⟨#[]⟩, .int .i64 0, .slice none 0 0], .slice none 0 0, .string ⟨#[]⟩], []⟩ 8 (by kernel_rfl) (by kernel_rfl) (by kernel_rfl) (by kernel_rfl)) ?_
  · intro ds hd
    match ds, hd with
    | [_, _, _], _ => rfl
  intro W base args ds before hval0 hA0 hlt hsz0
  have hval : ∀ (j : Nat) t v, Try.f3.params[j]? = some t → args[j]? = some v → Value.okWide Try.prog W .any base t v := hval0
  have hA : DataW.TrodAll enc Try.prog W 0 (fun _ => true) true Try.f3.params.toList args.toList ds before := hA0
  have hsz : (DataW.weightsEach Try.prog Try.f3.params.toList ds).all (· ≤ reachBytes) = true := hsz0
  rw [Try.params3] at hA hval hsz
  obtain ⟨v0, v1, v2, d0, d1, d2, p0, p1, p2, rfl, rfl, rfl, h0, h1, h2⟩ := trodAll_three hA
  obtain ⟨p0, rfl, hp0⟩ := L12.dec_Main (hval 0 24 v0 rfl rfl) h0 (light_of hsz (i := 0) rfl rfl)
  have hv1 := okWide_slice Try.underlying25 (hval 1 25 v1 rfl rfl)
  obtain ⟨fuel1, hf1⟩ := h1
  rw [slice_cells hv1] at hf1
  obtain ⟨x1, hR1, hl1, _⟩ := open_rd (n := 3) (fun cs x => cs = encF x ∧ L12.GoodP W x) ⟨[],0,[],none,0⟩ Try.underlying25 (by kernel_rfl) (by decide) (fun fuel cs y hy hyl hyn => L12.dec_Fi fuel cs y hy hyl hyn) hf1 (light_of hsz (i := 1) rfl rfl)
  obtain ⟨hr1, hk1⟩ := hR1.rd
  obtain ⟨a2, rfl, rfl, rfl, b2⟩ := open_str Try.underlying9 (hval 2 9 v2 rfl rfl) h2
  exact DropinOrders_calls p0 v1 x1 a2 hl1 W hp0.1 hr1 (fun p hp => (hk1 p hp).1)
set_option maxRecDepth 100000 in
theorem DropinOrders_holds : Rows.DropinOrdersSaid :=
  OpenClaim.holds_of_wide 3 Try.f3 rfl rfl rfl rfl rfl rfl rfl ⟨rfl, rfl, rfl, rfl, rfl⟩ rfl rfl rfl rfl rfl (by kernel_rfl) Try.func3 (by kernel_rfl)
    (of_decide_eq_true (by kernel_rfl)) (by unfold Func.isWrapper; first | (rw [if_pos (by decide +kernel)]; kernel_rfl) | (rw [if_neg (by decide +kernel)]; exact ⟨rfl, rfl⟩))
    (fun os started H enc _ => DropinOrders_lifted os started H enc)
#print axioms DropinOrders_holds
end L12
end Go.Proofs.Ytkmbahpjioopdaa
