/- AsmText meets its given row: whatever the input, it returns true, and each argument reads behind the call as it read before. No condition of ours. -/
import Derived.SevenTiedAt
import Derived.Test.YtbpmokffhmiacaaDoorCards
import Derived.Test.YtbpmokffhmiacaaDoorTie
import Derived.Test.YtbpmokffhmiacaaDoorAsmX
namespace Go.Proofs.YtbpmokffhmiacaaDoor
open Go.RowKit Go.ChangeShapes Go.WideShapes Go.ChangeAt V
namespace L07
set_option maxRecDepth 100000 in
theorem AsmText_lifted (os : Os) (started : os.Started) (H : Type) (enc : TypeId × Value → H) :
    ReturnsInHanded {} Tryd.checked os 4 .any (fun w args => (Rows.asmTextSpec.pre enc Tryd.prog Tryd.f4 [] false w args ∧ laidMetH Tryd.prog L07.laidL w) ∧ sizedMet enc Tryd.prog Tryd.f4 (OpenSpec.ofChange Rows.asmTextSpec) false w args) (Rows.asmTextSpec.post enc Tryd.prog Tryd.f4 false true false false) := by
  refine law_lifted_laid (C := Tryd.checked) (L := L07.laidL) (T := 4) Tryd.own started (by kernel_rfl) Tryd.func4 Tryd.laidOut (by kernel_rfl) rfl rfl Tryd.underlying4 ?_
    (ChangeSpec.witness_shaped (enc := enc) (C := Tryd.checked) (os := os) (X := fun w _ => laidMetH Tryd.prog L07.laidL w) false (World.doorLaid Tryd.prog 65 os) #[.slice none 0 0] 8 rfl (World.shaped_of_RefB (by kernel_rfl) (by kernel_rfl)) (by kernel_rfl) (by kernel_rfl) (by kernel_rfl) (L07.door_met os _)) ?_
  · intro ds hd
    match ds, hd with
    | [_], _ => rfl
  intro W base args ds before hval0 hA0 hlt hsz0 hL
  have ht := L07.tab_of hL
  have hval : ∀ (j : Nat) t v, Tryd.f4.params[j]? = some t → args[j]? = some v → Value.okWide Tryd.prog W .any base t v := hval0
  have hA : DataW.TrodAll enc Tryd.prog W 0 (fun _ => true) true Tryd.f4.params.toList args.toList ds before := hA0
  have hsz : (DataW.weightsEach Tryd.prog Tryd.f4.params.toList ds).all (· ≤ reachBytes) = true := hsz0
  rw [Tryd.params4] at hA hval hsz
  obtain ⟨v0, d0, rfl, rfl, h0⟩ := trodAll_one hA
  have hv0 := okWide_slice Tryd.underlying28 (hval 0 28 v0 rfl rfl)
  obtain ⟨fuel0, hf0⟩ := h0
  rw [slice_cells hv0] at hf0
  obtain ⟨x0, hR0, hl0, _⟩ := open_rd (n := 4) (fun cs x => cs = encN x ∧ OkN x) noneI Tryd.underlying28 (by kernel_rfl) (by decide) (fun fuel cs y hy hyl hyn => dec_N fuel cs y hy hyl hyn) hf0 (light_of hsz (i := 0) rfl rfl)
  obtain ⟨hr0, hk0⟩ := hR0.rd
  exact AsmText_calls x0 _ hk0 hl0 W ht hr0
set_option maxRecDepth 100000 in
theorem AsmText_row : Rows.AsmTextSaid :=
  OpenClaim.holds_of_wide 4 Tryd.f4 rfl rfl rfl rfl rfl rfl rfl ⟨rfl, rfl, rfl, rfl, rfl⟩ rfl rfl rfl rfl rfl (by kernel_rfl) Tryd.func4 (by kernel_rfl)
    (of_decide_eq_true (by kernel_rfl)) (by unfold Func.isWrapper; first | (rw [if_pos (by decide +kernel)]; kernel_rfl) | (rw [if_neg (by decide +kernel)]; exact ⟨rfl, rfl⟩))
    (fun os started H enc _ => AsmText_lifted os started H enc)

set_option maxRecDepth 100000 in
theorem AsmText_holds : Rows.AsmTextCardSaid :=
  Claim7.holds_tied_plain_at .later [] [.data, .data, .data] true (true, "d36d839d5b4cc8c000d31725f22b6af59a68af782230c843f7a9ea1d741ee8cd") true
    AsmText_row (fun _ h => by cases h) (by kernel_rfl) (fun _ h => by cases h) asmText_row_tie rfl ⟨rfl, rfl⟩ (by kernel_rfl) rfl
    (fun f fn hf hfn => by
      obtain rfl : f = 4 := Option.some.inj ((show Tryd.prog.funcNamed "vestibule/vestibulelaw07.AsmText" = some 4 by kernel_rfl).symm.trans hf) |>.symm
      obtain rfl : fn = Tryd.f4 := (Option.some.inj (Tryd.func4.symm.trans hfn)).symm
      exact ⟨by kernel_rfl, fun j t ht => by
        rw [Tryd.params4] at ht
        have hm : t ∈ [28] := by simpa using Array.mem_of_getElem? ht
        have hall : ([28].all fun u => !Tryd.prog.wantsStandIn u) = true := by kernel_rfl
        exact (show Tryd.prog.wantsStandIn t = false by simpa using List.all_eq_true.1 hall t hm)⟩)
    (by kernel_rfl)
#print axioms AsmText_holds
end L07
end Go.Proofs.YtbpmokffhmiacaaDoor
