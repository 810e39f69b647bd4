/- Layer 20: ActionCombine meets its given row: of every list of numbers it returns true, and nothing that lay in memory turns. No condition. -/
import Derived.Test.YtjgglocabjpmeaaActD
import Derived.Test.YtjgglocabjpmeaaOwn
import Derived.Test.YtjgglocabjpmeaaLift
namespace Go.Proofs.Ytjgglocabjpmeaa
open Go.RowKit Go.ChangeShapes Go.WideShapes Go.ChangeAt V
theorem Try.own : ownKnob Try.prog.godebug = none := by kernel_rfl
theorem Try.laidOut : laidOutB Try.prog = true := by kernel_rfl
namespace L20
theorem infoU : (Try.prog.info? 22).map (fun i => (i.zero, i.size, i.bytes)) = some (some (.int .u32 0), 1, 4) := by kernel_rfl
theorem encU_len (x : Nat) : (encU x).length = 1 := rfl
theorem encU_one (x : Nat) : ∀ u ∈ encU x, u.oneCell' = true := by intro u hu; simp [encU] at hu; subst hu; rfl
theorem rdU_cell {w : World} {v : Value} {xs : List Nat} (h : Rd w 1 encU v xs) : ∃ a c, v = .slice a xs.length c ∧ xs.length ≤ c ∧ ∀ i, (hi : i < xs.length) → ∃ b o, a = some ⟨b, o, none⟩ ∧ w.cell? ⟨b, o + i, none⟩ = some (.int .u32 (xs[i] : Nat)) := by
  obtain ⟨a, c, h1, h2, h3, h4⟩ := h
  refine ⟨a, c, h1, h2, fun i hi => ?_⟩
  obtain ⟨b, o, e, k⟩ := h4 i hi
  have := k 0 (by simp [encU])
  exact ⟨b, o, e, by simpa [encU] using this⟩
set_option maxRecDepth 100000 in
theorem ActionCombine_calls (v : Value) (xs : List Nat) (hn : xs.length ≤ 9223372036854775807) (hx : ∀ x ∈ xs, x < 4294967296) (w : World) (hI : Rd w 1 encU v xs) :
    Calls Try.prog 4 #[v] w fun e w' => e = .returned (.bool true) ∧ Ext w w' := by
  obtain ⟨a, c, rfl, hle, _⟩ := rdU_cell hI
  obtain ⟨i0, hi, hz0, hz1, hz2⟩ := info_parts infoU
  by_cases hlen : 300 < xs.length
  · go_enter Try.func4, Try.ntmps4
    go_wp2_with fail
    go_ret
    exact ⟨rfl, Ext.refl _⟩
  · go_enter Try.func4, Try.ntmps4
    have hrd0 := hI
    go_wp2_with (first
      | (at_make; refine wpList_make_full _ rfl _ _ 26 rfl w.heap.size 22 i0 (.int .u32 0) 1 Try.underlying26 hi hz0 hz1 _ _ _ _ xs.length rfl rfl (by omega) (by omega) (by rw [hz2]; omega) (by unfold maxLen; omega) (Nat.le_refl _) ?_; intro w1 hown1 hg1; have hE1 : Ext w w1 := (Ext.refl w).grown hg1 (by intro k hk; cases hk); have HO := Lib.hid hown1; clear hown1)
      | ((with_reducible show wpList _ _ _ (⟨some 13, _, _, _, _, _⟩ :: _) _ _); refine wpList_copy_full rfl (.tmp 11) (.tmp 12) 26 26 rfl 22 1 Try.underlying26 (by rw [hi]; simp [hz1]) encU encU_len encU_one w.heap.size w.heap.size _ _ xs rfl rfl HO.out (hrd0.ext hE1) ?_; intro w2 hown2 hg2; have hE2 : Ext w w2 := hE1.grown hg2 (by intro k hk; cases hk; exact Nat.le_refl _); have hrdM := rd_of_own encU_len hown2; clear hown2)
      | (go_at_call 11; refine (Combine_calls _ xs hn hx _ hrdM).mono ?_; rintro e w3 ⟨rfl, hE3⟩; have hrd3 := hrdM.ext hE3; have hrd4 := hrd0.ext (hE2.trans hE3))
      | (go_at_call 12; refine (refCombine_calls _ xs hn hx _ hrd4).mono ?_; rintro e w' ⟨rfl, rfl⟩))
    have hE4 := hE2.trans hE3
    obtain ⟨a3, c3, e3, hle3, hcell3⟩ := rdU_cell hrd3
    obtain ⟨a4, c4, e4, hle4, hcell4⟩ := rdU_cell hrd4
    have HE := Lib.hid hE4
    clear hE1 hE2 hE3 hE4 hrd0 hrdM hrd3 hrd4 HO
    obtain ⟨rfl, -, -⟩ := Value.slice.inj e3
    obtain ⟨rfl, -, -⟩ := Value.slice.inj e4
    clear e3 e4
    go_loopw [4] (fun i wr => ∃ k : Nat, k ≤ xs.length ∧ i = .int .i64 k ∧ Ext w3 wr) (fun i _ => xs.length - (intOf i).toNat)
    case atStart => exact ⟨0, by omega, rfl, Ext.refl _⟩
    case round =>
      obtain ⟨k, hk, rfl, hx3⟩ := hrel
      by_cases hlt : k < xs.length
      · obtain ⟨b3, o3, e3, h3⟩ := hcell3 k hlt
        obtain ⟨b4, o4, rfl, h4⟩ := hcell4 k hlt
        obtain ⟨rfl, rfl⟩ : w.heap.size = b3 ∧ 0 = o3 := by simpa using e3
        have h3' := hx3.cell h3
        have h4' := hx3.cell h4
        rw [Nat.zero_add] at h3'
        have HX := Lib.hid hx3
        clear hcell3 hcell4 e3 h3 h4 hx3
        go_wp2_with (go_quiet (fail))
        go_roundw
        case rel => exact ⟨k + 1, by omega, by go_num, HX.out.drewN _⟩
        case measure => simp [intOf]; omega
      · go_wp2
        go_ret
        exact ⟨rfl, HE.out.trans hx3⟩
theorem ActionCombine_lifted (os : Os) (started : os.Started) (H : Type) (enc : TypeId × Value → H) :
    ReturnsInHanded {} Try.checked os 4 .any (Rows.actionCombineSpec.pre6 enc Try.prog Try.f4 Rows.actionCombineRow.domain false) (Rows.actionCombineSpec.post enc Try.prog Try.f4 false true false false) := by
  refine law_lifted (C := Try.checked) (T := 4) Try.own started (by kernel_rfl) Try.func4 Try.laidOut (by kernel_rfl) rfl rfl Try.underlying4 ?_
    (ChangeSpec.witness6 (enc := enc) (C := Try.checked) false ⟨#[], #[.slice none 0 0], []⟩ 8 (by kernel_rfl) (by kernel_rfl) (by kernel_rfl) (by kernel_rfl)) ?_
  · intro ds hd
    match ds, hd with
    | [_], _ => rfl
  intro W base args ds before hval0 hA0 hlt hsz0
  have hval : ∀ (j : Nat) t v, Try.f4.params[j]? = some t → args[j]? = some v → Value.okWide Try.prog W .any base t v := hval0
  have hA : DataW.TrodAll enc Try.prog W 0 (fun _ => true) true Try.f4.params.toList args.toList ds before := hA0
  rw [Try.params4] at hA hval
  obtain ⟨v0, d0, rfl, rfl, h0⟩ := trodAll_one hA
  obtain ⟨xs, hR, hlen, _⟩ := open_rdR (n := 1) (fun cs x => cs = encU x ∧ x < 4294967296) 0 Try.underlying26 (by kernel_rfl) (by decide) (fun fuel cs y hy _ => by
      obtain ⟨a, e0, _, wa⟩ := DataW.trod_int Try.underlying22 hy
      obtain ⟨n, rfl, hn⟩ := wf_u32 wa
      exact ⟨n, e0, hn⟩) (okWide_slice Try.underlying26 (hval 0 26 v0 rfl rfl)) h0
  obtain ⟨hrd, hok⟩ := hR.rd
  exact ActionCombine_calls v0 xs (by unfold maxLen at hlen; omega) hok W hrd
theorem ActionCombine_holds : Rows.ActionCombineSaid :=
  OpenClaim.holds_of_wide 4 Try.f4 rfl rfl rfl rfl rfl rfl rfl ⟨rfl, rfl, rfl, rfl, rfl⟩ rfl rfl rfl rfl rfl (by kernel_rfl) Try.func4 (by kernel_rfl)
    (of_decide_eq_true (by kernel_rfl)) (by unfold Func.isWrapper; first | (rw [if_pos (by decide +kernel)]; kernel_rfl) | (rw [if_neg (by decide +kernel)]; exact ⟨rfl, rfl⟩))
    (fun os started H enc _ => ActionCombine_lifted os started H enc)
#print axioms ActionCombine_holds
end L20
end Go.Proofs.Ytjgglocabjpmeaa
