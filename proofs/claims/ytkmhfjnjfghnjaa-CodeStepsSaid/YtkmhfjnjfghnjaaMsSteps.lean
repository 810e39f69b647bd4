import Derived.Test.YtkmhfjnjfghnjaaMp47
import Derived.Test.YtkmhfjnjfghnjaaMp21
import Derived.Test.YtkmhfjnjfghnjaaMp48
/- Layer 25: the walk of the law CodeSteps. -/
namespace Go.Proofs.Ytkmhfjnjfghnjaa
open Go.RowKit V
attribute [local go_sem] Oper.semAt_some Option.isSome_some
namespace L25M
open L21
open L25 (Sy encY OkY Dat datV OkD mayA runA runE mayOne_calls)
open L25W
open L24 (fnd)
theorem idx_find (nr : Nat) : ∀ (rs : List Rule) (k : Nat), (idxR nr rs k = -1 ∧ rs.find? (fun r => r.nr == nr) = none) ∨ ∃ i, ∃ h : i < rs.length, idxR nr rs k = ((k + i : Nat) : Int) ∧ rs.find? (fun r => r.nr == nr) = some rs[i]
  | [], k => .inl ⟨rfl, rfl⟩
  | r :: l, k => by
    unfold idxR
    rw [List.find?_cons]
    cases hb : r.nr == nr
    · rw [if_neg (by simp)]
      rcases idx_find nr l (k + 1) with ⟨h1, h2⟩ | ⟨i, h, h1, h2⟩
      · exact .inl ⟨h1, h2⟩
      · exact .inr ⟨i + 1, by simp; omega, by rw [h1]; congr 1; omega, h2⟩
    · rw [if_pos rfl]
      exact .inr ⟨0, by simp, rfl, rfl⟩
theorem tst_fnd {d : Dat} {rs : List Rule} {r : Rule} (h : FndI d.nr rs r) : tstN d rs = if decide (0 ≤ idxR d.nr rs 0) = true then r.tests.length else 0 := by
  unfold tstN
  rcases idx_find d.nr rs 0 with ⟨h1, h2⟩ | ⟨i, hi, h1, h2⟩
  · rw [h2, h1]; rfl
  · rw [h2, h1, if_pos (by simp)]
    rcases h with ⟨h3, -⟩ | ⟨j, hj, h3, rfl⟩
    · rw [h1] at h3; omega
    · rw [h1] at h3
      obtain rfl : i = j := by omega
      rfl
theorem Two.nr {W : World} {b : Nat} {f : Filter} {u : Value} {d : Dat} (h : Two W b f u d) (n : Nat) : Two (W.setCell ⟨b + 1, 0, none⟩ (.int .u32 (n : Int))) b f u { d with nr := n } :=
  have o : ∀ (p : Addr) (x : Value), W.cell? p = some x → (⟨b + 1, 0, none⟩ : Addr) ≠ p → (W.setCell ⟨b + 1, 0, none⟩ (.int .u32 (n : Int))).cell? p = some x := fun p x hx hne => (World.cell?_setCell_other _ _ _ _ hne).trans hx
  ⟨o _ _ h.z0 (by simp), o _ _ h.z1 (by simp), o _ _ h.z2 (by simp), World.cell?_setCell_same' _ _ _ (by rw [h.c0]; rfl), o _ _ h.c1 (by simp), o _ _ h.c2 (by simp), o _ _ h.c3 (by simp), o _ _ h.c4 (by simp), o _ _ h.c5 (by simp), o _ _ h.c6 (by simp), o _ _ h.c7 (by simp), o _ _ h.c8 (by simp)⟩
theorem run_steps {f : Filter} (hf : OkF f) (hm : mayF f = true) (d : Dat) (hd : OkD d) (q : Nat) (hq : 2 * f.rules.length + 1 ≤ 2 ^ q) (v : Value) (w : World) (hv : Rd w 4 encY v ((emS f (treeF f)).map SS.fin)) :
    Calls Try.prog 32 #[v, datV d] w fun e w' => ∃ st : Nat, e = .returned (.tuple #[.int .u32 (denA f d : Nat), .int .i64 (st : Int), .int .i64 0]) ∧ (1 ≤ st ∧ st ≤ 6 + q + 7 * tstN d f.rules) ∧ Ext w w' := by
  refine (run_emit hf hm d hd v w hv).mono ?_
  rintro e w' ⟨⟨st, rfl, h1⟩, hx⟩
  have hnr : ∀ r ∈ f.rules, r.nr < 4294967296 := fun r hr => (hf.r r hr).n
  obtain ⟨-, -, -, -, hT⟩ := treeF_facts hm hnr
  obtain ⟨hL, hLq⟩ := treeF_leads hm hnr hd.nr (q := q) hq
  obtain ⟨st', h4, h5, h6⟩ := emit_run hd hm hT hL
  rw [h1] at h4
  obtain rfl : st = st' := by simpa using congrArg Prod.snd h4
  exact ⟨st, rfl, ⟨h5, by omega⟩, hx⟩
set_option maxRecDepth 100000 in
set_option maxHeartbeats 4000000 in
theorem CodeSteps_calls (f : Filter) (u : Value) (hf : OkF f) (d : Dat) (hd : OkD d) (i : Int) (w : World) (hu : RdR w 3 (IsR w) u f.rules) :
    Calls Try.prog 13 #[.agg #[.int .i64 f.arch, u, .int .u32 (f.dflt : Int)], datV d, .int .i64 i] w fun e w' => e = .returned (.bool true) ∧ Ext w w' := by
  have hG := fun W (hx : Ext w W) => Great25_calls f u hf W (rdRR_ext hx hu)
  have HAW : Hid (∀ W, Calls Try.prog 41 #[] W fun e w' => e = .returned (.bool true) ∧ Ext W w') := Lib.hid (fun W => L25.awake_calls W)
  have hM := fun W (hx : Ext w W) => May_calls f u hf W (rdRR_ext hx hu)
  have htw := two_new w f u d
  have hE0 : Ext w ((w.alloc (.cells #[.int .i64 f.arch, u, .int .u32 (f.dflt : Int)] 25)).alloc (.cells #[.int .u32 (d.nr : Int), .int .u32 (d.ar : Int), .int .u64 (d.ip : Int), .int .u64 (d.a0 : Int), .int .u64 (d.a1 : Int), .int .u64 (d.a2 : Int), .int .u64 (d.a3 : Int), .int .u64 (d.a4 : Int), .int .u64 (d.a5 : Int)] 40)) := ((Ext.refl _).alloc _).alloc _
  obtain ⟨av, cv, hua, -, -⟩ := rdR_cell hu
  have HU := Lib.hid hu
  clear hu
  subst hua
  have HF := Lib.hid hf
  have HD := Lib.hid hd
  clear hf hd
  cases hgr : great 0 f.rules
  case true =>
    rw [hgr] at hG
    unfold datV
    have HhG := Lib.hid hG
    clear hG
    have Hhgr := Lib.hid hgr
    clear hgr
    have HhM := Lib.hid hM
    clear hM
    have Hhtw := Lib.hid htw
    clear htw
    have HhE0 := Lib.hid hE0
    clear hE0
    go_enter Try.func13, Try.ntmps13
    go_wp2_with fail
    refine (HAW.out _).mono ?_
    rintro e w1 ⟨rfl, hx1⟩
    obtain ⟨z0, z1, z2, -, -, -, -, -, -, -, -, -⟩ := Hhtw.out.ext hx1
    have HX1 := Lib.hid (HhE0.out.trans hx1)
    clear hx1
    go_wp2_with fail
    refine (HhG.out _ HX1.out).mono ?_
    rintro e w2 ⟨rfl, hx2⟩
    go_wp2_with fail
    go_ret
    exact ⟨rfl, HX1.out.trans hx2⟩
  rw [hgr] at hG
  obtain ⟨hl, hlr⟩ := great_bd hgr
  cases hm : mayF f
  case false =>
    rw [hm] at hM
    unfold datV
    have HhG := Lib.hid hG
    clear hG
    have Hhgr := Lib.hid hgr
    clear hgr
    have HhM := Lib.hid hM
    clear hM
    have Hhm := Lib.hid hm
    clear hm
    have Hhtw := Lib.hid htw
    clear htw
    have HhE0 := Lib.hid hE0
    clear hE0
    go_enter Try.func13, Try.ntmps13
    go_wp2_with fail
    refine (HAW.out _).mono ?_
    rintro e w1 ⟨rfl, hx1⟩
    have htw1 := Hhtw.out.ext hx1
    have HTW1 := Lib.hid htw1
    obtain ⟨z0, z1, z2, -, -, -, -, -, -, -, -, -⟩ := HTW1.out
    have HX1 := Lib.hid (HhE0.out.trans hx1)
    clear hx1 htw1
    go_wp2_with fail
    refine (HhG.out _ HX1.out).mono ?_
    rintro e w2 ⟨rfl, hx2⟩
    clear z0 z1 z2
    obtain ⟨z0, z1, z2, -, -, -, -, -, -, -, -, -⟩ := HTW1.out.ext hx2
    have HX2 := Lib.hid (HX1.out.trans hx2)
    clear hx2
    go_wp2_with fail
    refine (HhM.out _ HX2.out).mono ?_
    rintro e w3 ⟨rfl, hx3⟩
    go_wp2_with fail
    go_ret
    exact ⟨rfl, HX2.out.trans hx3⟩
  have hfz : ∀ W, Ext ((w.alloc (.cells #[.int .i64 f.arch, .slice av f.rules.length cv, .int .u32 (f.dflt : Int)] 25)).alloc (.cells #[.int .u32 (d.nr : Int), .int .u32 (d.ar : Int), .int .u64 (d.ip : Int), .int .u64 (d.a0 : Int), .int .u64 (d.a1 : Int), .int .u64 (d.a2 : Int), .int .u64 (d.a3 : Int), .int .u64 (d.a4 : Int), .int .u64 (d.a5 : Int)] 40)) W → W.frozen? ⟨w.heap.size + 1, 0, none⟩ = false := fun W hW => (World.frozen?_of_block (a := ⟨w.heap.size + 1, 0, none⟩) (hW.block (by simp))).trans (by simp [go_sem])
  have hEm := fun W (hx : Ext w W) => Emit_calls f _ HF.out hm W (rdRR_ext hx HU.out)
  have hRu := fun d hd q hq v W (h : Rd W 4 encY v ((emS f (treeF f)).map SS.fin)) => run_steps HF.out hm d hd q hq v W h
  have hFd := fun nr W (hx : Ext w W) => Find_calls f _ nr hl hlr W (rdRR_ext hx HU.out)
  obtain ⟨-, -, h400, -, -⟩ := may_rules hm
  have hrc := fun W (hx : Ext w W) => rdR_cell (rdRR_ext hx HU.out)
  rw [hm] at hM
  unfold datV at hRu ⊢
  have HhG := Lib.hid hG
  clear hG
  have Hhgr := Lib.hid hgr
  clear hgr
  have HhM := Lib.hid hM
  clear hM
  have Hhm := Lib.hid hm
  clear hm
  have Hhfz := Lib.hid hfz
  clear hfz
  have HhEm := Lib.hid hEm
  clear hEm
  have HhRu := Lib.hid hRu
  clear hRu
  have HhFd := Lib.hid hFd
  clear hFd
  have Hhrc := Lib.hid hrc
  clear hrc
  have Hhtw := Lib.hid htw
  clear htw
  have HhE0 := Lib.hid hE0
  clear hE0
  have Hhlr := Lib.hid hlr
  clear hlr
  go_enter Try.func13, Try.ntmps13
  go_wp2_with fail
  refine (HAW.out _).mono ?_
  rintro e w1 ⟨rfl, hx1⟩
  have htw1 := Hhtw.out.ext hx1
  have HTW1 := Lib.hid htw1
  obtain ⟨z0, z1, z2, -, -, -, -, -, -, -, -, -⟩ := HTW1.out
  have HX1 := Lib.hid (HhE0.out.trans hx1)
  have HY1 := Lib.hid hx1
  clear hx1 htw1
  go_wp2_with fail
  refine (HhG.out _ HX1.out).mono ?_
  rintro e w2 ⟨rfl, hx2⟩
  clear z0 z1 z2
  have htw2 := HTW1.out.ext hx2
  have HTW2 := Lib.hid htw2
  obtain ⟨z0, z1, z2, -, -, -, -, -, -, -, -, -⟩ := HTW2.out
  have HX2 := Lib.hid (HX1.out.trans hx2)
  have HY2 := Lib.hid (HY1.out.trans hx2)
  clear hx2 htw2
  go_wp2_with fail
  refine (HhM.out _ HX2.out).mono ?_
  rintro e w3 ⟨rfl, hx3⟩
  clear z0 z1 z2
  have htw3 := HTW2.out.ext hx3
  have HTW3 := Lib.hid htw3
  obtain ⟨z0, z1, z2, c0, -, -, -, -, -, -, -, -⟩ := HTW3.out
  have HX3 := Lib.hid (HX2.out.trans hx3)
  have hfz3 := Hhfz.out _ (HY2.out.trans hx3)
  clear hx3 htw3
  have hjoin : ∃ d' : Dat, OkD d' := ⟨d, HD.out⟩
  by_cases hi : 0 ≤ i ∧ i < (f.rules.length : Int)
  focus
    obtain ⟨k, rfl⟩ : ∃ k : Nat, i = (k : Int) := ⟨i.toNat, by omega⟩
    have hkl : k < f.rules.length := by omega
    have hcc := Hhrc.out _ HX3.out
    obtain ⟨a', c', e1, -, hcc⟩ := hcc
    simp only [Value.slice.injEq, true_and] at e1
    obtain ⟨rfl, rfl⟩ := e1
    obtain ⟨b, o, ut, rfl, n1, -, -, -⟩ := hcc k hkl
    have htw4 := HTW3.out.nr f.rules[k].nr
    have hx4 := HX3.out.setCell (p := ⟨w.heap.size + 1, 0, none⟩) (by simp) (.int .u32 (f.rules[k].nr : Int))
    have hd4 : OkD { d with nr := f.rules[k].nr } := { HD.out with nr := (HF.out.r _ (List.getElem_mem hkl)).n }
    clear hcc
    go_upto_region 7 with fail
    generalize w3.setCell ⟨w.heap.size + 1, 0, none⟩ (.int .u32 (f.rules[k].nr : Int)) = w4 at *
    generalize ({ d with nr := f.rules[k].nr } : Dat) = d4 at *
    have HTW4 := Lib.hid htw4
    have HX4 := Lib.hid hx4
    have HD4 := Lib.hid hd4
    clear htw4 hx4 hd4 n1
  rotate_left 1
  focus
    have HTW4 := HTW3
    have HX4 := HX3
    have HD4 := HD
    by_cases hi0 : 0 ≤ i
    focus
      have hi1 : ¬ i < (f.rules.length : Int) := fun h => hi ⟨hi0, h⟩
      go_upto_region 7 with fail
    rotate_left 1
    focus
      go_upto_region 7 with fail
  all_goals
    clear z0 z1 z2 c0 hfz3
    obtain ⟨z0, z1, z2, c0, c1, c2, c3, c4, c5, c6, c7, c8⟩ := HTW4.out
    go_wp2_with fail
    go_loop [7, 8] (fun most k => ∃ q kk : Nat, kk = 2 ^ q ∧ most = .int .i64 ((9 + q : Nat) : Int) ∧ k = .int .i64 kk ∧ q < kk ∧ kk ≤ 1602) (fun _ k => 2000 - (intOf k).toNat)
    case atStart => exact ⟨0, 1, rfl, rfl, rfl, by omega, by omega⟩
    case round =>
      obtain ⟨q, kk, hkk, rfl, rfl, hq, hk16⟩ := hrel
      by_cases hlt : kk < 2 * f.rules.length + 1
      · have HKK := Lib.hid hkk
        clear hkk
        go_wp2_with fail
        go_round
        case rel => exact ⟨q + 1, 2 * kk, by rw [HKK.out, Nat.pow_succ]; omega, by go_num, by go_num, by omega, by omega⟩
        case measure => simp [intOf]; omega
      · have hqq : 2 * f.rules.length + 1 ≤ 2 ^ q := by rw [← hkk]; omega
        have Hhqq := Lib.hid hqq
        clear hqq
        clear hkk
        go_wp2_with fail
        refine (HhFd.out _ _ HX4.out).mono ?_
        rintro e w5 ⟨r, ar, cr, rfl, hro, hx5, hfn⟩
        have htst := tst_fnd hfn
        have hrl : r.tests.length ≤ 1000 := by
          rcases hfn with ⟨-, rfl⟩ | ⟨j, hj, -, rfl⟩
          · simp
          · exact Hhlr.out _ (List.getElem_mem hj)
        have HX5 := Lib.hid (HX4.out.trans (hx5.alloc (.cells #[.int .u32 (r.nr : Int), .slice ar r.tests.length cr, .int .u32 (r.action : Int)] 34)))
        have HTW5 := Lib.hid (HTW4.out.ext (hx5.alloc (.cells #[.int .u32 (r.nr : Int), .slice ar r.tests.length cr, .int .u32 (r.action : Int)] 34)))
        clear z0 z1 z2 c0 c1 c2 c3 c4 c5 c6 c7 c8 hro hfn hx5
        obtain ⟨z0, z1, z2, -, -, -, -, -, -, -, -, -⟩ := HTW5.out
        generalize r.tests.length = rl at *
        have Hhtst := Lib.hid htst
        clear htst
        generalize hbv : decide (0 ≤ idxR _ f.rules 0) = bv at *
        cases bv
        all_goals
          go_wp2_with fail
          refine (HhEm.out _ HX5.out).mono ?_
          rintro e w6 ⟨v6, rfl, hx6, hr6⟩
          have HTW6 := Lib.hid (HTW5.out.ext hx6)
          have HX6 := Lib.hid (HX5.out.trans hx6)
          have HR6 := Lib.hid hr6
          clear hx6 hr6 z0 z1 z2
          obtain ⟨-, -, -, c0, c1, c2, c3, c4, c5, c6, c7, c8⟩ := HTW6.out
          go_wp2_with fail
          refine (HhRu.out _ HD4.out q Hhqq.out _ _ HR6.out).mono ?_
          rintro e w7 ⟨st, rfl, ⟨hs1, hs2⟩, hx7⟩
          rw [Hhtst.out] at hs2
          simp only [if_true, if_false, Bool.false_eq_true] at hs2
          have HX7 := Lib.hid (HX6.out.trans hx7)
          clear hx7 c0 c1 c2 c3 c4 c5 c6 c7 c8
          go_wp2_with fail
          go_ret
          first
            | (have e1 : decide ((st : Int) ≤ 9 + (q : Int)) = true := decide_eq_true (by omega)
               rw [e1]
               exact ⟨rfl, HX7.out⟩)
            | (have e1 : decide ((st : Int) ≤ 9 + (q : Int) + 7 * (rl : Int)) = true := decide_eq_true (by omega)
               rw [e1]
               exact ⟨rfl, HX7.out⟩)
end L25M
end Go.Proofs.Ytkmhfjnjfghnjaa

/- CodeSteps meets its given row: whatever the input, it returns true, and each argument reads behind the call as it read before. No condition of ours. -/
namespace Go.Proofs.Ytkmhfjnjfghnjaa
open Go.RowKit Go.ChangeShapes Go.WideShapes Go.ChangeAt V
namespace L25M
set_option maxRecDepth 100000 in
theorem CodeSteps_lifted (os : Os) (started : os.Started) (H : Type) (enc : TypeId × Value → H) :
    ReturnsInHanded {} Try.checked os 13 .any (Rows.codeStepsSpec.pre6 enc Try.prog Try.f13 Rows.codeStepsRow.domain false) (Rows.codeStepsSpec.post enc Try.prog Try.f13 false true false false) := by
  refine law_lifted (C := Try.checked) (T := 4) Try.own started (by kernel_rfl) Try.func13 Try.laidOut (by kernel_rfl) rfl rfl Try.underlying4 ?_
    (ChangeSpec.witness6 (enc := enc) (C := Try.checked) false ⟨#[], #[.agg #[.int .i64 0, .slice none 0 0, .int .u32 0], .agg #[.int .u32 0, .int .u32 0, .int .u64 0, .int .u64 0, .int .u64 0, .int .u64 0, .int .u64 0, .int .u64 0, .int .u64 0], .int .i64 0], []⟩ 8 (by kernel_rfl) (by kernel_rfl) (by kernel_rfl) (by kernel_rfl)) ?_
  · intro ds hd
    match ds, hd with
    | [_, _, _], _ => rfl
  intro W base args ds before hval0 hA0 hlt hsz0
  have hval : ∀ (j : Nat) t v, Try.f13.params[j]? = some t → args[j]? = some v → Value.okWide Try.prog W .any base t v := hval0
  have hA : DataW.TrodAll enc Try.prog W 0 (fun _ => true) true Try.f13.params.toList args.toList ds before := hA0
  have hsz : (DataW.weightsEach Try.prog Try.f13.params.toList ds).all (· ≤ reachBytes) = true := hsz0
  rw [Try.params13] at hA hval hsz
  obtain ⟨v0, v1, v2, d0, d1, d2, p0, p1, p2, rfl, rfl, rfl, h0, h1, h2⟩ := trodAll_three hA
  obtain ⟨f0, u0, rfl, hu0, hf0⟩ := L21.dec_F (hval 0 25 v0 rfl rfl) h0 (light_of hsz (i := 0) rfl rfl)
  obtain ⟨x1, rfl, hd1⟩ := L25.dec_D (hval 1 40 v1 rfl rfl) h1 (light_of hsz (i := 1) rfl rfl)
  obtain ⟨a2, rfl, rfl, rfl, w2⟩ := open_int Try.underlying3 (hval 2 3 v2 rfl rfl) h2
  have b2 := wf_i64 w2
  exact CodeSteps_calls f0 u0 hf0 x1 hd1 a2 W hu0
set_option maxRecDepth 100000 in
theorem CodeSteps_holds : Rows.CodeStepsSaid :=
  OpenClaim.holds_of_wide 13 Try.f13 rfl rfl rfl rfl rfl rfl rfl ⟨rfl, rfl, rfl, rfl, rfl⟩ rfl rfl rfl rfl rfl (by kernel_rfl) Try.func13 (by kernel_rfl)
    (of_decide_eq_true (by kernel_rfl)) (by unfold Func.isWrapper; first | (rw [if_pos (by decide +kernel)]; kernel_rfl) | (rw [if_neg (by decide +kernel)]; exact ⟨rfl, rfl⟩))
    (fun os started H enc _ => CodeSteps_lifted os started H enc)
#print axioms CodeSteps_holds
end L25M
end Go.Proofs.Ytkmhfjnjfghnjaa

