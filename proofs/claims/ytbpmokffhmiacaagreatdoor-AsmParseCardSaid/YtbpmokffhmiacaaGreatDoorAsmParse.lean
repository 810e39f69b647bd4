/- AsmParse meets its given row: whatever the input, it returns true, and each argument reads behind the call as it read before. No condition of ours. -/
import Derived.SevenTiedAt
import Derived.Test.YtbpmokffhmiacaaGreatDoorCards
import Derived.Test.YtbpmokffhmiacaaGreatDoorTie
import Derived.Test.YtbpmokffhmiacaaGreatDoorAtO
import Derived.Test.YtbpmokffhmiacaaGreatDoorAtV
namespace Go.Proofs.YtbpmokffhmiacaaGreatDoor
open Go.RowKit Go.ChangeShapes Go.WideShapes Go.ChangeAt V
namespace L07
set_option maxRecDepth 100000 in
theorem AsmParse_lifted (os : Os) (started : os.Started) (H : Type) (enc : TypeId × Value → H) :
    ReturnsInHanded {} Tryz.checked os 3 .any (fun w args => (Rows.asmParseSpec.pre enc Tryz.prog Tryz.f3 [] false w args ∧ laidMetH Tryz.prog L7B.laidL w) ∧ sizedMet enc Tryz.prog Tryz.f3 (OpenSpec.ofChange Rows.asmParseSpec) false w args) (Rows.asmParseSpec.post enc Tryz.prog Tryz.f3 false true false false) := by
  refine law_lifted_shaped (C := Tryz.checked) (L := L7B.laidL) (T := 4) Tryz.own started (by kernel_rfl) Tryz.func3 Tryz.laidOut (by kernel_rfl) rfl rfl Tryz.underlying4 ?_
    (ChangeSpec.witness_shaped (enc := enc) (C := Tryz.checked) (os := os) (X := fun w _ => laidMetH Tryz.prog L7B.laidL w) false (World.laidAll Tryz.prog os L7B.laidL) #[.string ⟨#[]⟩, .slice none 0 0, .int .i64 0, .int .u8 0] 8 (World.laidAll_os _ _ _) (World.shaped_of_ZipB (by kernel_rfl) (by kernel_rfl)) (by kernel_rfl) (by kernel_rfl) (by kernel_rfl) (L7B.door_met os _)) ?_
  · intro ds hd
    match ds, hd with
    | [_, _, _, _], _ => rfl
  intro W base args ds before hval0 hA0 hlt hsz0 hL hSh
  have ht := L7B.tab_of hL hSh
  have hval : ∀ (j : Nat) t v, Tryz.f3.params[j]? = some t → args[j]? = some v → Value.okWide Tryz.prog W .any base t v := hval0
  have hA : DataW.TrodAll enc Tryz.prog W 0 (fun _ => true) true Tryz.f3.params.toList args.toList ds before := hA0
  have hsz : (DataW.weightsEach Tryz.prog Tryz.f3.params.toList ds).all (· ≤ reachBytes) = true := hsz0
  rw [Tryz.params3] at hA hval hsz
  obtain ⟨v0, v1, v2, v3, d0, d1, d2, d3, p0, p1, p2, p3, rfl, rfl, rfl, h0, h1, h2, h3⟩ := trodAll_four hA
  obtain ⟨a0, rfl, rfl, rfl, b0⟩ := open_str Tryz.underlying9 (hval 0 9 v0 rfl rfl) h0
  have hv1 := okWide_slice Tryz.underlying22 (hval 1 22 v1 rfl rfl)
  obtain ⟨fuel1, hf1⟩ := h1
  rw [slice_cells hv1] at hf1
  obtain ⟨x1, hR1, hl1, _⟩ := open_rd (n := 4) (fun cs x => cs = encN x ∧ OkN x) noneP Tryz.underlying22 (by kernel_rfl) (by decide) (fun fuel cs y hy hyl hyn => dec_N fuel cs y hy hyl hyn) hf1 (light_of hsz (i := 1) rfl rfl)
  obtain ⟨hr1, hk1⟩ := hR1.rd
  obtain ⟨a2, rfl, rfl, rfl, w2⟩ := open_int Tryz.underlying3 (hval 2 3 v2 rfl rfl) h2
  have b2 := wf_i64 w2
  obtain ⟨a3, rfl, rfl, rfl, w3⟩ := open_int Tryz.underlying5 (hval 3 5 v3 rfl rfl) h3
  obtain ⟨a3, rfl, b3⟩ := L07.wf_u8 w3
  exact AsmParse_calls _ b0 x1 _ hk1 hl1 a2 b2 a3 b3 W ht hr1
set_option maxRecDepth 100000 in
theorem AsmParse_row : Rows.AsmParseSaid :=
  OpenClaim.holds_of_wide 3 Tryz.f3 rfl rfl rfl rfl rfl rfl rfl ⟨rfl, rfl, rfl, rfl, rfl⟩ rfl rfl rfl rfl rfl (by kernel_rfl) Tryz.func3 (by kernel_rfl)
    (of_decide_eq_true (by kernel_rfl)) (by unfold Func.isWrapper; first | (rw [if_pos (by decide +kernel)]; kernel_rfl) | (rw [if_neg (by decide +kernel)]; exact ⟨rfl, rfl⟩))
    (fun os started H enc _ => AsmParse_lifted os started H enc)

set_option maxRecDepth 100000 in
theorem AsmParse_holds : Rows.AsmParseCardSaid :=
  Claim7.holds_tied_plain_at .later [] [.data, .data, .data, .data, .sentinel, .sentinel, .pinned] true (true, "9b34ebefb2771f1eb9d9b8ee38c3cde4d25ef6a3dd4103aeef5198d3493dd303") true
    AsmParse_row (fun _ h => by cases h) (by kernel_rfl) (fun _ h => by cases h) asmParse_row_tie rfl ⟨rfl, rfl⟩ (by kernel_rfl) rfl
    (fun f fn hf hfn => by
      obtain rfl : f = 3 := Option.some.inj ((show Tryz.prog.funcNamed "vestibule/vestibulelaw07.AsmParse" = some 3 by kernel_rfl).symm.trans hf) |>.symm
      obtain rfl : fn = Tryz.f3 := (Option.some.inj (Tryz.func3.symm.trans hfn)).symm
      exact ⟨by kernel_rfl, fun j t ht => by
        rw [Tryz.params3] at ht
        have hm : t ∈ [9, 22, 3, 5] := by simpa using Array.mem_of_getElem? ht
        have hall : ([9, 22, 3, 5].all fun u => !Tryz.prog.wantsStandIn u) = true := by kernel_rfl
        exact (show Tryz.prog.wantsStandIn t = false by simpa using List.all_eq_true.1 hall t hm)⟩)
    (by kernel_rfl)
#print axioms AsmParse_holds
end L07
end Go.Proofs.YtbpmokffhmiacaaGreatDoor
