/- ActionPieces meets its given row: whatever the input, it returns true, and each argument reads behind the call as it read before. No condition of ours. -/
import Derived.SevenTiedAt
import Derived.Test.YtjgglocabjpmeaaDoorCards
import Derived.Test.YtjgglocabjpmeaaDoorTie
import Derived.Test.YtjgglocabjpmeaaDoorActV
import Derived.Test.YtjgglocabjpmeaaDoorActZ
namespace Go.Proofs.YtjgglocabjpmeaaDoor
open Go.RowKit Go.ChangeShapes Go.WideShapes Go.ChangeAt V
namespace L20
set_option maxRecDepth 100000 in
theorem ActionPieces_lifted (os : Os) (started : os.Started) (H : Type) (enc : TypeId × Value → H) :
    ReturnsInHanded {} Tryd.checked os 6 .any (fun w args => (Rows.actionPiecesSpec.pre enc Tryd.prog Tryd.f6 [] false w args ∧ laidMetH Tryd.prog L20.laidL w) ∧ sizedMet enc Tryd.prog Tryd.f6 (OpenSpec.ofChange Rows.actionPiecesSpec) false w args) (Rows.actionPiecesSpec.post enc Tryd.prog Tryd.f6 false true false false) := by
  refine law_lifted_laid (C := Tryd.checked) (L := L20.laidL) (T := 4) Tryd.own started (by kernel_rfl) Tryd.func6 Tryd.laidOut (by kernel_rfl) rfl rfl Tryd.underlying4 ?_
    (ChangeSpec.witness_shaped (enc := enc) (C := Tryd.checked) (os := os) (X := fun w _ => laidMetH Tryd.prog L20.laidL w) false (World.doorLaid Tryd.prog 62 os) #[.slice none 0 0, .slice none 0 0] 8 rfl (World.shaped_of_RefB (by kernel_rfl) (by kernel_rfl)) (by kernel_rfl) (by kernel_rfl) (by kernel_rfl) (L20.door_met os _)) ?_
  · intro ds hd
    match ds, hd with
    | [_, _], _ => rfl
  intro W base args ds before hval0 hA0 hlt hsz0 hL
  have ht := L20.tab_of hL
  have hval : ∀ (j : Nat) t v, Tryd.f6.params[j]? = some t → args[j]? = some v → Value.okWide Tryd.prog W .any base t v := hval0
  have hA : DataW.TrodAll enc Tryd.prog W 0 (fun _ => true) true Tryd.f6.params.toList args.toList ds before := hA0
  have hsz : (DataW.weightsEach Tryd.prog Tryd.f6.params.toList ds).all (· ≤ reachBytes) = true := hsz0
  rw [Tryd.params6] at hA hval hsz
  obtain ⟨v0, v1, d0, d1, p0, p1, rfl, rfl, rfl, h0, h1⟩ := trodAll_two hA
  have hv0 := okWide_slice Tryd.underlying29 (hval 0 29 v0 rfl rfl)
  obtain ⟨fuel0, hf0⟩ := h0
  rw [slice_cells hv0] at hf0
  obtain ⟨x0, hR0, hl0, _⟩ := open_rd (n := 1) (fun cs x => cs = encU x ∧ okU x) 0 Tryd.underlying29 (by kernel_rfl) (by decide) (fun fuel cs y hy hyl hyn => dec_U fuel cs y hy) hf0 (light_of hsz (i := 0) rfl rfl)
  obtain ⟨hr0, hk0⟩ := hR0.rd
  have hv1 := okWide_slice Tryd.underlying29 (hval 1 29 v1 rfl rfl)
  obtain ⟨fuel1, hf1⟩ := h1
  rw [slice_cells hv1] at hf1
  obtain ⟨x1, hR1, hl1, _⟩ := open_rd (n := 1) (fun cs x => cs = encU x ∧ okU x) 0 Tryd.underlying29 (by kernel_rfl) (by decide) (fun fuel cs y hy hyl hyn => dec_U fuel cs y hy) hf1 (light_of hsz (i := 1) rfl rfl)
  obtain ⟨hr1, hk1⟩ := hR1.rd
  exact ActionPieces_calls v0 v1 x0 x1 hl0 hl1 hk0 hk1 W ht hr0 hr1
set_option maxRecDepth 100000 in
theorem ActionPieces_row : Rows.ActionPiecesSaid :=
  OpenClaim.holds_of_wide 6 Tryd.f6 rfl rfl rfl rfl rfl rfl rfl ⟨rfl, rfl, rfl, rfl, rfl⟩ rfl rfl rfl rfl rfl (by kernel_rfl) Tryd.func6 (by kernel_rfl)
    (of_decide_eq_true (by kernel_rfl)) (by unfold Func.isWrapper; first | (rw [if_pos (by decide +kernel)]; kernel_rfl) | (rw [if_neg (by decide +kernel)]; exact ⟨rfl, rfl⟩))
    (fun os started H enc _ => ActionPieces_lifted os started H enc)

set_option maxRecDepth 100000 in
theorem ActionPieces_holds : Rows.ActionPiecesCardSaid :=
  Claim7.holds_tied_plain_at .later [] [.data, .data, .data, .sentinel, .sentinel] true (true, "45bf1e0682dc3c07cb73c12d5faae5bd4ae2622ca42ca3692531d5cac14e38db") true
    ActionPieces_row (fun _ h => by cases h) (by kernel_rfl) (fun _ h => by cases h) actionPieces_row_tie rfl ⟨rfl, rfl⟩ (by kernel_rfl) rfl
    (fun f fn hf hfn => by
      obtain rfl : f = 6 := Option.some.inj ((show Tryd.prog.funcNamed "vestibule/vestibulelaw20.ActionPieces" = some 6 by kernel_rfl).symm.trans hf) |>.symm
      obtain rfl : fn = Tryd.f6 := (Option.some.inj (Tryd.func6.symm.trans hfn)).symm
      exact ⟨by kernel_rfl, fun j t ht => by
        rw [Tryd.params6] at ht
        have hm : t ∈ [29, 29] := by simpa using Array.mem_of_getElem? ht
        have hall : ([29, 29].all fun u => !Tryd.prog.wantsStandIn u) = true := by kernel_rfl
        exact (show Tryd.prog.wantsStandIn t = false by simpa using List.all_eq_true.1 hall t hm)⟩)
    (by kernel_rfl)
#print axioms ActionPieces_holds
end L20
end Go.Proofs.YtjgglocabjpmeaaDoor
