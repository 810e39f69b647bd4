/- AsmLines meets its given row: whatever the input, it returns true, and each argument reads behind the call as it read before. No condition of ours. -/
import Derived.SevenTiedAt
import Derived.Test.YtbpmokffhmiacaaDoorCards
import Derived.Test.YtbpmokffhmiacaaDoorTie
import Derived.Test.YtbpmokffhmiacaaDoorAsmX
import Derived.Test.YtbpmokffhmiacaaDoorAtN
import Derived.Test.YtbpmokffhmiacaaDoorAtV
namespace Go.Proofs.YtbpmokffhmiacaaDoor
open Go.RowKit Go.ChangeShapes Go.WideShapes Go.ChangeAt V
namespace L07
set_option maxRecDepth 100000 in
theorem AsmLines_lifted (os : Os) (started : os.Started) (H : Type) (enc : TypeId × Value → H) :
    ReturnsInHanded {} Tryd.checked os 5 .any (fun w args => (Rows.asmLinesSpec.pre enc Tryd.prog Tryd.f5 [] false w args ∧ laidMetH Tryd.prog L7B.laidL w) ∧ sizedMet enc Tryd.prog Tryd.f5 (OpenSpec.ofChange Rows.asmLinesSpec) false w args) (Rows.asmLinesSpec.post enc Tryd.prog Tryd.f5 false true false false) := by
  refine law_lifted_shaped (C := Tryd.checked) (L := L7B.laidL) (T := 4) Tryd.own started (by kernel_rfl) Tryd.func5 Tryd.laidOut (by kernel_rfl) rfl rfl Tryd.underlying4 ?_
    (ChangeSpec.witness_shaped (enc := enc) (C := Tryd.checked) (os := os) (X := fun w _ => laidMetH Tryd.prog L7B.laidL w) false (World.laidAll Tryd.prog os L7B.laidL) #[.slice none 0 0] 8 (World.laidAll_os _ _ _) (World.shaped_of_ZipB (by kernel_rfl) (by kernel_rfl)) (by kernel_rfl) (by kernel_rfl) (by kernel_rfl) (L7B.door_met os _)) ?_
  · intro ds hd
    match ds, hd with
    | [_], _ => rfl
  intro W base args ds before hval0 hA0 hlt hsz0 hL hSh
  have ht := L7B.tab_of hL hSh
  have hval : ∀ (j : Nat) t v, Tryd.f5.params[j]? = some t → args[j]? = some v → Value.okWide Tryd.prog W .any base t v := hval0
  have hA : DataW.TrodAll enc Tryd.prog W 0 (fun _ => true) true Tryd.f5.params.toList args.toList ds before := hA0
  have hsz : (DataW.weightsEach Tryd.prog Tryd.f5.params.toList ds).all (· ≤ reachBytes) = true := hsz0
  rw [Tryd.params5] at hA hval hsz
  obtain ⟨v0, d0, rfl, rfl, h0⟩ := trodAll_one hA
  have hv0 := okWide_slice Tryd.underlying28 (hval 0 28 v0 rfl rfl)
  obtain ⟨fuel0, hf0⟩ := h0
  rw [slice_cells hv0] at hf0
  obtain ⟨x0, hR0, hl0, _⟩ := open_rd (n := 4) (fun cs x => cs = encN x ∧ OkN x) noneI Tryd.underlying28 (by kernel_rfl) (by decide) (fun fuel cs y hy hyl hyn => dec_N fuel cs y hy hyl hyn) hf0 (light_of hsz (i := 0) rfl rfl)
  obtain ⟨hr0, hk0⟩ := hR0.rd
  exact AsmLines_calls x0 _ hk0 hl0 W ht hr0
set_option maxRecDepth 100000 in
theorem AsmLines_row : Rows.AsmLinesSaid :=
  OpenClaim.holds_of_wide 5 Tryd.f5 rfl rfl rfl rfl rfl rfl rfl ⟨rfl, rfl, rfl, rfl, rfl⟩ rfl rfl rfl rfl rfl (by kernel_rfl) Tryd.func5 (by kernel_rfl)
    (of_decide_eq_true (by kernel_rfl)) (by unfold Func.isWrapper; first | (rw [if_pos (by decide +kernel)]; kernel_rfl) | (rw [if_neg (by decide +kernel)]; exact ⟨rfl, rfl⟩))
    (fun os started H enc _ => AsmLines_lifted os started H enc)

set_option maxRecDepth 100000 in
theorem AsmLines_holds : Rows.AsmLinesCardSaid :=
  Claim7.holds_tied_plain_at .later [] [.data, .data, .data, .data, .sentinel, .sentinel, .pinned] true (true, "d36d839d5b4cc8c000d31725f22b6af59a68af782230c843f7a9ea1d741ee8cd") true
    AsmLines_row (fun _ h => by cases h) (by kernel_rfl) (fun _ h => by cases h) asmLines_row_tie rfl ⟨rfl, rfl⟩ (by kernel_rfl) rfl
    (fun f fn hf hfn => by
      obtain rfl : f = 5 := Option.some.inj ((show Tryd.prog.funcNamed "vestibule/vestibulelaw07.AsmLines" = some 5 by kernel_rfl).symm.trans hf) |>.symm
      obtain rfl : fn = Tryd.f5 := (Option.some.inj (Tryd.func5.symm.trans hfn)).symm
      exact ⟨by kernel_rfl, fun j t ht => by
        rw [Tryd.params5] at ht
        have hm : t ∈ [28] := by simpa using Array.mem_of_getElem? ht
        have hall : ([28].all fun u => !Tryd.prog.wantsStandIn u) = true := by kernel_rfl
        exact (show Tryd.prog.wantsStandIn t = false by simpa using List.all_eq_true.1 hall t hm)⟩)
    (by kernel_rfl)
#print axioms AsmLines_holds
end L07
end Go.Proofs.YtbpmokffhmiacaaDoor
