/- ValuesEntries meets its given row: whatever the input, it returns true, and each argument reads behind the call as it read before. No condition of ours. -/
import Derived.SevenTiedAt
import Derived.Test.YtojlpocpcakcbaaDoorCards
import Derived.Test.YtojlpocpcakcbaaDoorTie
import Derived.Test.YtojlpocpcakcbaaDoorNameK
import Derived.Test.YtojlpocpcakcbaaDoorValG
namespace Go.Proofs.YtojlpocpcakcbaaDoor
open Go.RowKit Go.ChangeShapes Go.WideShapes Go.ChangeAt V
namespace L10
set_option maxRecDepth 100000 in
theorem ValuesEntries_lifted (os : Os) (started : os.Started) (H : Type) (enc : TypeId × Value → H) :
    ReturnsInHanded {} Tryd.checked os 7 .any (fun w args => (Rows.valuesEntriesSpec.pre enc Tryd.prog Tryd.f7 [] false w args ∧ laidMetH Tryd.prog L10.laidL w) ∧ sizedMet enc Tryd.prog Tryd.f7 (OpenSpec.ofChange Rows.valuesEntriesSpec) false w args) (Rows.valuesEntriesSpec.post enc Tryd.prog Tryd.f7 false true false false) := by
  refine law_lifted_laid (C := Tryd.checked) (L := L10.laidL) (T := 4) Tryd.own started (by kernel_rfl) Tryd.func7 Tryd.laidOut (by kernel_rfl) rfl rfl Tryd.underlying4 ?_
    (ChangeSpec.witness_shaped (enc := enc) (C := Tryd.checked) (os := os) (X := fun w _ => laidMetH Tryd.prog L10.laidL w) false (World.doorLaid Tryd.prog 24 os) #[.string ⟨#[]⟩, .agg #[.string ⟨#[]⟩, .int .u32 0, .bool false]] 8 rfl (World.shaped_of_RefB (by kernel_rfl) (by kernel_rfl)) (by kernel_rfl) (by kernel_rfl) (by kernel_rfl) (L10.door_met os _)) ?_
  · intro ds hd
    match ds, hd with
    | [_, _], _ => rfl
  intro W base args ds before hval0 hA0 hlt hsz0 hL
  have ht := L10.tab_of hL
  have hval : ∀ (j : Nat) t v, Tryd.f7.params[j]? = some t → args[j]? = some v → Value.okWide Tryd.prog W .any base t v := hval0
  have hA : DataW.TrodAll enc Tryd.prog W 0 (fun _ => true) true Tryd.f7.params.toList args.toList ds before := hA0
  have hsz : (DataW.weightsEach Tryd.prog Tryd.f7.params.toList ds).all (· ≤ reachBytes) = true := hsz0
  rw [Tryd.params7] at hA hval hsz
  obtain ⟨v0, v1, d0, d1, p0, p1, rfl, rfl, rfl, h0, h1⟩ := trodAll_two hA
  obtain ⟨a0, rfl, rfl, rfl, b0⟩ := open_str Tryd.underlying9 (hval 0 9 v0 rfl rfl) h0
  obtain ⟨x1, rfl, he1, hn1⟩ := L10.dec_En (hval 1 47 v1 rfl rfl) h1 (light_of hsz (i := 1) rfl rfl)
  exact ValuesEntries_calls a0 x1 he1 W ht
set_option maxRecDepth 100000 in
theorem ValuesEntries_row : Rows.ValuesEntriesSaid :=
  OpenClaim.holds_of_wide 7 Tryd.f7 rfl rfl rfl rfl rfl rfl rfl ⟨rfl, rfl, rfl, rfl, rfl⟩ rfl rfl rfl rfl rfl (by kernel_rfl) Tryd.func7 (by kernel_rfl)
    (of_decide_eq_true (by kernel_rfl)) (by unfold Func.isWrapper; first | (rw [if_pos (by decide +kernel)]; kernel_rfl) | (rw [if_neg (by decide +kernel)]; exact ⟨rfl, rfl⟩))
    (fun os started H enc _ => ValuesEntries_lifted os started H enc)

set_option maxRecDepth 100000 in
theorem ValuesEntries_holds : Rows.ValuesEntriesCardSaid :=
  Claim7.holds_tied_plain_at .later [] [.data, .data, .data] true (true, "fec1a8a272dffacb5e7343738664fa4c7179a93881a39218eb1df79c7e385ecf") false
    ValuesEntries_row (fun _ h => by cases h) (by kernel_rfl) (fun _ h => by cases h) valuesEntries_row_tie rfl ⟨rfl, rfl⟩ (by kernel_rfl) rfl
    (fun f fn hf hfn => by
      obtain rfl : f = 7 := Option.some.inj ((show Tryd.prog.funcNamed "vestibule/vestibulelaw15.ValuesEntries" = some 7 by kernel_rfl).symm.trans hf) |>.symm
      obtain rfl : fn = Tryd.f7 := (Option.some.inj (Tryd.func7.symm.trans hfn)).symm
      exact ⟨by kernel_rfl, fun j t ht => by
        rw [Tryd.params7] at ht
        have hm : t ∈ [9, 47] := by simpa using Array.mem_of_getElem? ht
        have hall : ([9, 47].all fun u => !Tryd.prog.wantsStandIn u) = true := by kernel_rfl
        exact (show Tryd.prog.wantsStandIn t = false by simpa using List.all_eq_true.1 hall t hm)⟩)
    (by kernel_rfl)
#print axioms ValuesEntries_holds
end L10
end Go.Proofs.YtojlpocpcakcbaaDoor
