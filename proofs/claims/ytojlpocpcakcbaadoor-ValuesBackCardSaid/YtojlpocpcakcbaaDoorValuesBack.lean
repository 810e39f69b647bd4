/- ValuesBack meets its given row: whatever the input, it returns true, and each argument reads behind the call as it read before. No condition of ours. -/
import Derived.SevenTiedAt
import Derived.Test.YtojlpocpcakcbaaDoorCards
import Derived.Test.YtojlpocpcakcbaaDoorTie
import Derived.Test.YtojlpocpcakcbaaDoorNameK
import Derived.Test.YtojlpocpcakcbaaDoorValI
namespace Go.Proofs.YtojlpocpcakcbaaDoor
open Go.RowKit Go.ChangeShapes Go.WideShapes Go.ChangeAt V
namespace L10
set_option maxRecDepth 100000 in
theorem ValuesBack_lifted (os : Os) (started : os.Started) (H : Type) (enc : TypeId × Value → H) :
    ReturnsInHanded {} Tryd.checked os 8 .any (fun w args => (Rows.valuesBackSpec.pre enc Tryd.prog Tryd.f8 [] false w args ∧ laidMetH Tryd.prog L10.laidL w) ∧ sizedMet enc Tryd.prog Tryd.f8 (OpenSpec.ofChange Rows.valuesBackSpec) false w args) (Rows.valuesBackSpec.post enc Tryd.prog Tryd.f8 false true false false) := by
  refine law_lifted_laid (C := Tryd.checked) (L := L10.laidL) (T := 4) Tryd.own started (by kernel_rfl) Tryd.func8 Tryd.laidOut (by kernel_rfl) rfl rfl Tryd.underlying4 ?_
    (ChangeSpec.witness_shaped (enc := enc) (C := Tryd.checked) (os := os) (X := fun w _ => laidMetH Tryd.prog L10.laidL w) false (World.doorLaid Tryd.prog 24 os) #[.string ⟨#[]⟩, .string ⟨#[]⟩, .int .u32 0, .bool false, .bool false] 8 rfl (World.shaped_of_RefB (by kernel_rfl) (by kernel_rfl)) (by kernel_rfl) (by kernel_rfl) (by kernel_rfl) (L10.door_met os _)) ?_
  · intro ds hd
    match ds, hd with
    | [_, _, _, _, _], _ => rfl
  intro W base args ds before hval0 hA0 hlt hsz0 hL
  have ht := L10.tab_of hL
  have hval : ∀ (j : Nat) t v, Tryd.f8.params[j]? = some t → args[j]? = some v → Value.okWide Tryd.prog W .any base t v := hval0
  have hA : DataW.TrodAll enc Tryd.prog W 0 (fun _ => true) true Tryd.f8.params.toList args.toList ds before := hA0
  rw [Tryd.params8] at hA hval
  obtain ⟨v0, v1, v2, v3, v4, d0, d1, d2, d3, d4, p0, p1, p2, p3, p4, rfl, rfl, rfl, h0, h1, h2, h3, h4⟩ := trodAll_five hA
  obtain ⟨a0, rfl, rfl, rfl, b0⟩ := open_str Tryd.underlying9 (hval 0 9 v0 rfl rfl) h0
  obtain ⟨a1, rfl, rfl, rfl, b1⟩ := open_str Tryd.underlying9 (hval 1 9 v1 rfl rfl) h1
  obtain ⟨a2, rfl, rfl, rfl, w2⟩ := open_int Tryd.underlying22 (hval 2 22 v2 rfl rfl) h2
  obtain ⟨a2, rfl, b2⟩ := wf_u32 w2
  obtain ⟨a3, rfl, rfl, rfl⟩ := open_bool Tryd.underlying4 (hval 3 4 v3 rfl rfl) h3
  obtain ⟨a4, rfl, rfl, rfl⟩ := open_bool Tryd.underlying4 (hval 4 4 v4 rfl rfl) h4
  exact ValuesBack_calls a0 a1 a2 a3 a4 W ht
set_option maxRecDepth 100000 in
theorem ValuesBack_row : Rows.ValuesBackSaid :=
  OpenClaim.holds_of_wide 8 Tryd.f8 rfl rfl rfl rfl rfl rfl rfl ⟨rfl, rfl, rfl, rfl, rfl⟩ rfl rfl rfl rfl rfl (by kernel_rfl) Tryd.func8 (by kernel_rfl)
    (of_decide_eq_true (by kernel_rfl)) (by unfold Func.isWrapper; first | (rw [if_pos (by decide +kernel)]; kernel_rfl) | (rw [if_neg (by decide +kernel)]; exact ⟨rfl, rfl⟩))
    (fun os started H enc _ => ValuesBack_lifted os started H enc)

set_option maxRecDepth 100000 in
theorem ValuesBack_holds : Rows.ValuesBackCardSaid :=
  Claim7.holds_tied_plain_at .later [] [.data, .data, .data] true (true, "fec1a8a272dffacb5e7343738664fa4c7179a93881a39218eb1df79c7e385ecf") false
    ValuesBack_row (fun _ h => by cases h) (by kernel_rfl) (fun _ h => by cases h) valuesBack_row_tie rfl ⟨rfl, rfl⟩ (by kernel_rfl) rfl
    (fun f fn hf hfn => by
      obtain rfl : f = 8 := Option.some.inj ((show Tryd.prog.funcNamed "vestibule/vestibulelaw15.ValuesBack" = some 8 by kernel_rfl).symm.trans hf) |>.symm
      obtain rfl : fn = Tryd.f8 := (Option.some.inj (Tryd.func8.symm.trans hfn)).symm
      exact ⟨by kernel_rfl, fun j t ht => by
        rw [Tryd.params8] at ht
        have hm : t ∈ [9, 9, 22, 4, 4] := by simpa using Array.mem_of_getElem? ht
        have hall : ([9, 9, 22, 4, 4].all fun u => !Tryd.prog.wantsStandIn u) = true := by kernel_rfl
        exact (show Tryd.prog.wantsStandIn t = false by simpa using List.all_eq_true.1 hall t hm)⟩)
    (by kernel_rfl)
#print axioms ValuesBack_holds
end L10
end Go.Proofs.YtojlpocpcakcbaaDoor
