/- ActionTurned meets its given row: whatever the input, it returns true, and each argument reads behind the call as it read before. No condition of ours. -/
import Derived.SevenTiedAt
import Derived.Test.YtjgglocabjpmeaaDoorCards
import Derived.Test.YtjgglocabjpmeaaDoorTie
import Derived.Test.YtjgglocabjpmeaaDoorActV
import Derived.Test.YtjgglocabjpmeaaDoorActTu
namespace Go.Proofs.YtjgglocabjpmeaaDoor
open Go.RowKit Go.ChangeShapes Go.WideShapes Go.ChangeAt V
namespace L20
set_option maxRecDepth 100000 in
theorem ActionTurned_lifted (os : Os) (started : os.Started) (H : Type) (enc : TypeId × Value → H) :
    ReturnsInHanded {} Tryd.checked os 5 .any (fun w args => (Rows.actionTurnedSpec.pre enc Tryd.prog Tryd.f5 [] false w args ∧ laidMetH Tryd.prog L20.laidL w) ∧ sizedMet enc Tryd.prog Tryd.f5 (OpenSpec.ofChange Rows.actionTurnedSpec) false w args) (Rows.actionTurnedSpec.post enc Tryd.prog Tryd.f5 false true false false) := by
  refine law_lifted_laid (C := Tryd.checked) (L := L20.laidL) (T := 4) Tryd.own started (by kernel_rfl) Tryd.func5 Tryd.laidOut (by kernel_rfl) rfl rfl Tryd.underlying4 ?_
    (ChangeSpec.witness_shaped (enc := enc) (C := Tryd.checked) (os := os) (X := fun w _ => laidMetH Tryd.prog L20.laidL w) false (World.doorLaid Tryd.prog 62 os) #[.int .u32 0, .int .u32 0, .slice none 0 0] 8 rfl (World.shaped_of_RefB (by kernel_rfl) (by kernel_rfl)) (by kernel_rfl) (by kernel_rfl) (by kernel_rfl) (L20.door_met os _)) ?_
  · intro ds hd
    match ds, hd with
    | [_, _, _], _ => rfl
  intro W base args ds before hval0 hA0 hlt hsz0 hL
  have ht := L20.tab_of hL
  have hval : ∀ (j : Nat) t v, Tryd.f5.params[j]? = some t → args[j]? = some v → Value.okWide Tryd.prog W .any base t v := hval0
  have hA : DataW.TrodAll enc Tryd.prog W 0 (fun _ => true) true Tryd.f5.params.toList args.toList ds before := hA0
  have hsz : (DataW.weightsEach Tryd.prog Tryd.f5.params.toList ds).all (· ≤ reachBytes) = true := hsz0
  rw [Tryd.params5] at hA hval hsz
  obtain ⟨v0, v1, v2, d0, d1, d2, p0, p1, p2, rfl, rfl, rfl, h0, h1, h2⟩ := trodAll_three hA
  obtain ⟨a0, rfl, rfl, rfl, w0⟩ := open_int Tryd.underlying22 (hval 0 22 v0 rfl rfl) h0
  obtain ⟨a0, rfl, b0⟩ := wf_u32 w0
  obtain ⟨a1, rfl, rfl, rfl, w1⟩ := open_int Tryd.underlying22 (hval 1 22 v1 rfl rfl) h1
  obtain ⟨a1, rfl, b1⟩ := wf_u32 w1
  have hv2 := okWide_slice Tryd.underlying29 (hval 2 29 v2 rfl rfl)
  obtain ⟨fuel2, hf2⟩ := h2
  rw [slice_cells hv2] at hf2
  obtain ⟨x2, hR2, hl2, _⟩ := open_rd (n := 1) (fun cs x => cs = encU x ∧ okU x) 0 Tryd.underlying29 (by kernel_rfl) (by decide) (fun fuel cs y hy hyl hyn => dec_U fuel cs y hy) hf2 (light_of hsz (i := 2) rfl rfl)
  obtain ⟨hr2, hk2⟩ := hR2.rd
  exact ActionTurned_calls a0 a1 v2 x2 b0 b1 hl2 hk2 W ht hr2
set_option maxRecDepth 100000 in
theorem ActionTurned_row : Rows.ActionTurnedSaid :=
  OpenClaim.holds_of_wide 5 Tryd.f5 rfl rfl rfl rfl rfl rfl rfl ⟨rfl, rfl, rfl, rfl, rfl⟩ rfl rfl rfl rfl rfl (by kernel_rfl) Tryd.func5 (by kernel_rfl)
    (of_decide_eq_true (by kernel_rfl)) (by unfold Func.isWrapper; first | (rw [if_pos (by decide +kernel)]; kernel_rfl) | (rw [if_neg (by decide +kernel)]; exact ⟨rfl, rfl⟩))
    (fun os started H enc _ => ActionTurned_lifted os started H enc)

set_option maxRecDepth 100000 in
theorem ActionTurned_holds : Rows.ActionTurnedCardSaid :=
  Claim7.holds_tied_plain_at .later [] [.data, .data, .data, .sentinel, .sentinel] true (true, "45bf1e0682dc3c07cb73c12d5faae5bd4ae2622ca42ca3692531d5cac14e38db") true
    ActionTurned_row (fun _ h => by cases h) (by kernel_rfl) (fun _ h => by cases h) actionTurned_row_tie rfl ⟨rfl, rfl⟩ (by kernel_rfl) rfl
    (fun f fn hf hfn => by
      obtain rfl : f = 5 := Option.some.inj ((show Tryd.prog.funcNamed "vestibule/vestibulelaw20.ActionTurned" = some 5 by kernel_rfl).symm.trans hf) |>.symm
      obtain rfl : fn = Tryd.f5 := (Option.some.inj (Tryd.func5.symm.trans hfn)).symm
      exact ⟨by kernel_rfl, fun j t ht => by
        rw [Tryd.params5] at ht
        have hm : t ∈ [22, 22, 29] := by simpa using Array.mem_of_getElem? ht
        have hall : ([22, 22, 29].all fun u => !Tryd.prog.wantsStandIn u) = true := by kernel_rfl
        exact (show Tryd.prog.wantsStandIn t = false by simpa using List.all_eq_true.1 hall t hm)⟩)
    (by kernel_rfl)
#print axioms ActionTurned_holds
end L20
end Go.Proofs.YtjgglocabjpmeaaDoor
