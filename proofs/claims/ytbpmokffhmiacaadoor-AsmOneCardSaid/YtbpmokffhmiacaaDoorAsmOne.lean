/- AsmOne meets its given row: whatever the input, it returns true, and each argument reads behind the call as it read before. No condition of ours. -/
import Derived.SevenTiedAt
import Derived.Test.YtbpmokffhmiacaaDoorCards
import Derived.Test.YtbpmokffhmiacaaDoorTie
import Derived.Test.YtbpmokffhmiacaaDoorAsmX
import Derived.Test.YtbpmokffhmiacaaDoorAtM
import Derived.Test.YtbpmokffhmiacaaDoorAtV
namespace Go.Proofs.YtbpmokffhmiacaaDoor
open Go.RowKit Go.ChangeShapes Go.WideShapes Go.ChangeAt V
namespace L07
set_option maxRecDepth 100000 in
theorem AsmOne_lifted (os : Os) (started : os.Started) (H : Type) (enc : TypeId × Value → H) :
    ReturnsInHanded {} Tryd.checked os 6 .any (fun w args => (Rows.asmOneSpec.pre enc Tryd.prog Tryd.f6 [] false w args ∧ laidMetH Tryd.prog L7B.laidL w) ∧ sizedMet enc Tryd.prog Tryd.f6 (OpenSpec.ofChange Rows.asmOneSpec) false w args) (Rows.asmOneSpec.post enc Tryd.prog Tryd.f6 false true false false) := by
  refine law_lifted_shaped (C := Tryd.checked) (L := L7B.laidL) (T := 4) Tryd.own started (by kernel_rfl) Tryd.func6 Tryd.laidOut (by kernel_rfl) rfl rfl Tryd.underlying4 ?_
    (ChangeSpec.witness_shaped (enc := enc) (C := Tryd.checked) (os := os) (X := fun w _ => laidMetH Tryd.prog L7B.laidL w) false (World.laidAll Tryd.prog os L7B.laidL) #[.agg #[.int .u16 0, .int .u8 0, .int .u8 0, .int .u32 0], .int .i64 0, .int .i64 0] 8 (World.laidAll_os _ _ _) (World.shaped_of_ZipB (by kernel_rfl) (by kernel_rfl)) (by kernel_rfl) (by kernel_rfl) (by kernel_rfl) (L7B.door_met os _)) ?_
  · intro ds hd
    match ds, hd with
    | [_, _, _], _ => rfl
  intro W base args ds before hval0 hA0 hlt hsz0 hL hSh
  have ht := L7B.tab_of hL hSh
  have hval : ∀ (j : Nat) t v, Tryd.f6.params[j]? = some t → args[j]? = some v → Value.okWide Tryd.prog W .any base t v := hval0
  have hA : DataW.TrodAll enc Tryd.prog W 0 (fun _ => true) true Tryd.f6.params.toList args.toList ds before := hA0
  have hsz : (DataW.weightsEach Tryd.prog Tryd.f6.params.toList ds).all (· ≤ reachBytes) = true := hsz0
  rw [Tryd.params6] at hA hval hsz
  obtain ⟨v0, v1, v2, d0, d1, d2, p0, p1, p2, rfl, rfl, rfl, h0, h1, h2⟩ := trodAll_three hA
  obtain ⟨x0, rfl, hx0⟩ := L07.dec_In (hval 0 25 v0 rfl rfl) h0 (light_of hsz (i := 0) rfl rfl)
  obtain ⟨a1, rfl, rfl, rfl, w1⟩ := open_int Tryd.underlying3 (hval 1 3 v1 rfl rfl) h1
  have b1 := wf_i64 w1
  obtain ⟨a2, rfl, rfl, rfl, w2⟩ := open_int Tryd.underlying3 (hval 2 3 v2 rfl rfl) h2
  have b2 := wf_i64 w2
  exact AsmOne_calls x0 hx0 a1 a2 b1.1 b2.1 W ht
set_option maxRecDepth 100000 in
theorem AsmOne_row : Rows.AsmOneSaid :=
  OpenClaim.holds_of_wide 6 Tryd.f6 rfl rfl rfl rfl rfl rfl rfl ⟨rfl, rfl, rfl, rfl, rfl⟩ rfl rfl rfl rfl rfl (by kernel_rfl) Tryd.func6 (by kernel_rfl)
    (of_decide_eq_true (by kernel_rfl)) (by unfold Func.isWrapper; first | (rw [if_pos (by decide +kernel)]; kernel_rfl) | (rw [if_neg (by decide +kernel)]; exact ⟨rfl, rfl⟩))
    (fun os started H enc _ => AsmOne_lifted os started H enc)

set_option maxRecDepth 100000 in
theorem AsmOne_holds : Rows.AsmOneCardSaid :=
  Claim7.holds_tied_plain_at .later [] [.data, .data, .data, .data, .sentinel, .sentinel, .pinned] true (true, "d36d839d5b4cc8c000d31725f22b6af59a68af782230c843f7a9ea1d741ee8cd") true
    AsmOne_row (fun _ h => by cases h) (by kernel_rfl) (fun _ h => by cases h) asmOne_row_tie rfl ⟨rfl, rfl⟩ (by kernel_rfl) rfl
    (fun f fn hf hfn => by
      obtain rfl : f = 6 := Option.some.inj ((show Tryd.prog.funcNamed "vestibule/vestibulelaw07.AsmOne" = some 6 by kernel_rfl).symm.trans hf) |>.symm
      obtain rfl : fn = Tryd.f6 := (Option.some.inj (Tryd.func6.symm.trans hfn)).symm
      exact ⟨by kernel_rfl, fun j t ht => by
        rw [Tryd.params6] at ht
        have hm : t ∈ [25, 3, 3] := by simpa using Array.mem_of_getElem? ht
        have hall : ([25, 3, 3].all fun u => !Tryd.prog.wantsStandIn u) = true := by kernel_rfl
        exact (show Tryd.prog.wantsStandIn t = false by simpa using List.all_eq_true.1 hall t hm)⟩)
    (by kernel_rfl)
#print axioms AsmOne_holds
end L07
end Go.Proofs.YtbpmokffhmiacaaDoor
