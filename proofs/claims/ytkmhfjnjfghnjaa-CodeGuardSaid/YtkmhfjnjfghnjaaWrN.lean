/- Layer 25: the walks of the reference's Guarded, of Guard at any list, of the law CodeGuard. -/
import Derived.Test.YtkmhfjnjfghnjaaWrJ
import Derived.Test.YtkmhfjnjfghnjaaCodeM
import Derived.Test.YtkmhfjnjfghnjaaCodeP
namespace Go.Proofs.Ytkmhfjnjfghnjaa
open Go.RowKit Go.ChangeShapes Go.WideShapes Go.ChangeAt V
namespace L25G
open L25
open L08 (ofA refOf_calls)
def gdR (ts : List Int) (ar nr : Nat) : Nat := if ((ofA ar nr).2 && ts.contains (ofA ar nr).1) = true then 2147418112 else 2147483648
theorem ofA_nn (ar nr : Nat) : 0 ≤ (ofA ar nr).1 := by
  unfold ofA
  split
  · exact Int.le_refl _
  split
  · decide
  · omega
theorem gdA_R (ts : List Int) (ar nr : Nat) : gdA (mOf ts) ar nr = gdR ts ar nr := by
  unfold gdA gdR mOf
  rw [Int.toNat_of_nonneg (ofA_nn ar nr)]
theorem contains_step {a : Int} {xs : List Int} {k : Nat} (h : k < xs.length) : (xs.drop k).contains a = ((a == xs[k]) || (xs.drop (k + 1)).contains a) := by
  rw [List.drop_eq_getElem_cons h, List.contains_cons]
set_option maxRecDepth 100000 in
set_option maxHeartbeats 1000000 in
theorem refGuarded_calls (v : Value) (ts : List Int) (hl : ts.length ≤ 1000000) (d : Dat) (hd : OkD d) (w : World) (hv : Rd w 1 encI v ts) :
    Calls Try.prog 38 #[v, datV d] w fun e w' => e = .returned (.int .u32 (gdR ts d.ar d.nr : Nat)) ∧ Ext w w' := by
  have hO := fun W => refOf_calls d.ar d.nr hd.nr W
  have HV := Lib.hid hv
  obtain ⟨a, c, rfl, hac, hca⟩ := rdI_cell hv
  clear hv
  obtain ⟨gv, hgv⟩ : ∃ gv, gv = gdR ts d.ar d.nr := ⟨_, rfl⟩
  rw [← hgv]
  unfold gdR at hgv
  unfold datV
  generalize (ofA d.ar d.nr).1 = x at *
  generalize (ofA d.ar d.nr).2 = ok at *
  have Hhgv := Lib.hid hgv
  clear hgv
  have HhO := Lib.hid hO
  clear hO
  have Hhca := Lib.hid hca
  clear hca
  cases ok
  case false =>
    go_enter Try.func38, Try.ntmps38
    go_wp2_with fail
    refine (HhO.out _).mono ?_
    rintro e w1 ⟨rfl, hx1⟩
    go_wp2_with fail
    go_loopw [7] (fun i wr => i = .int .i64 0 ∧ w1 = wr) (fun _ _ => 0)
    case atStart => exact ⟨rfl, rfl⟩
    case round =>
      obtain ⟨rfl, rfl⟩ := hrel
      by_cases hp : 0 < ts.length
      all_goals
        go_wp2_with fail
        go_ret
        exact ⟨by rw [Hhgv.out]; rfl, ((Ext.refl _).alloc _).trans hx1⟩
  case true =>
    go_enter Try.func38, Try.ntmps38
    go_wp2_with fail
    refine (HhO.out _).mono ?_
    rintro e w1 ⟨rfl, hx1⟩
    have HX1 := Lib.hid (((Ext.refl w).alloc _).trans hx1)
    clear hx1
    go_wp2_with fail
    go_loopw [7] (fun i wr => ∃ k : Nat, k ≤ ts.length ∧ i = .int .i64 k ∧ w1 = wr ∧ ts.contains x = (ts.drop k).contains x) (fun i _ => ts.length - (intOf i).toNat)
    case atStart => exact ⟨0, by omega, rfl, rfl, rfl⟩
    case round =>
      obtain ⟨k, hk, rfl, rfl, heq⟩ := hrel
      by_cases hlt : k < ts.length
      · obtain ⟨b, o, rfl, h1⟩ := Hhca.out k hlt
        replace h1 := HX1.out.cell h1
        rw [contains_step hlt] at heq
        generalize ts[k]'hlt = t at *
        have hq : (t == x) = (x == t) := by rw [Bool.eq_iff_iff]; simp; exact eq_comm
        cases hxt : x == t
        · rw [hxt, Bool.false_or] at heq
          rw [hxt] at hq
          have Hheq := Lib.hid heq
          clear heq
          have Hhxt := Lib.hid hxt
          clear hxt
          go_wp2_with fail
          go_roundw
          case rel => exact ⟨k + 1, by omega, by go_num, trivial, Hheq.out⟩
          case measure => simp [intOf]; omega
        · rw [hxt, Bool.true_or] at heq
          rw [hxt] at hq
          have Hheq := Lib.hid heq
          clear heq
          have Hhxt := Lib.hid hxt
          clear hxt
          go_wp2_with fail
          go_ret
          exact ⟨by rw [Hhgv.out, Hheq.out]; rfl, HX1.out⟩
      · obtain rfl : k = ts.length := by omega
        rw [List.drop_length] at heq
        have Hheq := Lib.hid heq
        clear heq
        go_wp2_with fail
        go_ret
        exact ⟨by rw [Hhgv.out, Hheq.out]; rfl, HX1.out⟩
def badA (ts : List Int) : Bool := (ts.length == 0) || ts.any badI
def GP (ts : List Int) (w : World) (e : Ending) (w' : World) : Prop := ∃ (v : Value) (er : Int), e = .returned (.tuple #[v, .int .i64 er]) ∧ Ext w w' ∧ ((badA ts = true ∧ er = 2 ∧ v = .slice none 0 0) ∨ (badA ts = false ∧ er = 0 ∧ Rd w' 4 encY v (guardL (mOf ts))))
set_option maxRecDepth 100000 in
theorem Guard_none (a : Option Addr) (c : Nat) (w : World) : Calls Try.prog 37 #[.slice a 0 c] w fun e w' => e = .returned (.tuple #[.slice none 0 0, .int .i64 2]) ∧ Ext w w' := by
  go_enter Try.func37, Try.ntmps37
  go_wp2
  go_ret2
  exact ⟨rfl, Ext.refl _⟩
theorem Guard_all (v : Value) (ts : List Int) (hl : ts.length ≤ 1000) (w : World) (hv : Rd w 1 encI v ts) : Calls Try.prog 37 #[v] w (GP ts w) := by
  by_cases h0 : ts.length = 0
  · obtain ⟨a, c, rfl, -, -⟩ := rdI_cell hv
    rw [h0]
    refine (Guard_none a c w).mono ?_
    rintro e w' ⟨rfl, hx⟩
    exact ⟨_, _, rfl, hx, .inl ⟨by unfold badA; rw [h0]; rfl, rfl, rfl⟩⟩
  cases hb : ts.any badI
  · refine (Guard_calls v ts hl hb (by omega) w hv).mono ?_
    rintro e w' ⟨u, rfl, hx, hr⟩
    exact ⟨_, _, rfl, hx, .inr ⟨by unfold badA; rw [hb, Bool.or_false, beq_eq_false_iff_ne]; exact h0, rfl, hr⟩⟩
  · refine (Guard_bad v ts (by omega) hb w hv).mono ?_
    rintro e w' ⟨rfl, hx⟩
    exact ⟨_, _, rfl, hx, .inl ⟨by unfold badA; rw [hb, Bool.or_true], rfl, rfl⟩⟩
def okYB (s : Sy) : Bool := decide (s.c < 65536) && decide (s.k < 4294967296) && decide (0 ≤ s.th) && decide (s.th ≤ 1000) && decide (0 ≤ s.el) && decide (s.el ≤ 1000)
set_option maxRecDepth 100000 in
theorem guardL_okB (m : Nat → Bool) : (guardL m).all okYB = true := by
  rw [guardL_fB]
  generalize m 0 = b0, m 1 = b1, m 2 = b2, m 3 = b3, m 4 = b4, m 5 = b5
  revert b0 b1 b2 b3 b4 b5
  decide +kernel
theorem guardL_ok (m : Nat → Bool) : ∀ s ∈ guardL m, OkY s := fun s hs => by
  have h := List.all_eq_true.1 (guardL_okB m) s hs
  simp only [okYB, Bool.and_eq_true, decide_eq_true_eq] at h
  obtain ⟨⟨⟨⟨⟨h1, h2⟩, h3⟩, h4⟩, h5⟩, h6⟩ := h
  exact ⟨h1, h2, by omega, by omega, by omega, by omega⟩
theorem any_step {xs : List Int} {k : Nat} (h : k < xs.length) : (xs.take (k + 1)).any badI = ((xs.take k).any badI || badI xs[k]) := by
  rw [List.take_succ_eq_append_getElem h, List.any_append]; simp
theorem encI_info : (Try.prog.info? 3).map (fun i => (i.zero, i.size, i.bytes)) = some (some (.int .i64 0), 1, 8) := by kernel_rfl
def OkI (i : Int) : Prop := -9223372036854775808 ≤ i ∧ i ≤ 9223372036854775807
theorem dec_I {H : Type} {enc : TypeId × Value → H} {W : World} (fuel : Nat) (cs : List Value) (y : DataW H × List MemPlace) (h : DataW.trod enc Try.prog W 0 (fun _ => true) true fuel 3 cs = some y) :
    ∃ n : Int, cs = encI n ∧ OkI n := by
  obtain ⟨a, e0, _, wa⟩ := DataW.trod_int Try.underlying3 h
  exact ⟨a, e0, wf_i64 wa⟩
set_option maxRecDepth 100000 in
set_option maxHeartbeats 4000000 in
theorem CodeGuard_calls (v : Value) (ts : List Int) (d : Dat) (hd : OkD d) (hnl : ts.length ≤ maxLen) (w : World) (hv : Rd w 1 encI v ts) :
    Calls Try.prog 10 #[v, datV d] w fun e w' => e = .returned (.bool true) ∧ Ext w w' := by
  have HV := Lib.hid hv
  obtain ⟨a, c, rfl, hac, hca⟩ := rdI_cell hv
  obtain ⟨i0, hi, hz0, hz1, hz2⟩ := info_parts encI_info
  clear hv
  unfold maxLen at hnl
  by_cases hlen : 50 < ts.length
  · have h1 : decide (50 < ts.length) = true := decide_eq_true hlen
    have h1' : decide (50 < (ts.length : Int)) = true := decide_eq_true (by omega)
    have Hhlen := Lib.hid hlen
    clear hlen
    have Hhca := Lib.hid hca
    clear hca
    have Hhi := Lib.hid hi
    clear hi
    have Hhz2 := Lib.hid hz2
    clear hz2
    unfold datV
    go_enter Try.func10, Try.ntmps10
    go_wp2
    go_ret
    exact ⟨rfl, (Ext.refl _).alloc _⟩
  have h1 : decide (50 < ts.length) = false := decide_eq_false hlen
  have h1' : decide (50 < (ts.length : Int)) = false := decide_eq_false (by omega)
  have hG := fun u W (h : Rd W 1 encI u ts) => Guard_all u ts (by omega) W h
  have hGd := fun W (hx : Ext w W) => refGuarded_calls _ ts (by omega) d hd W (HV.out.ext hx)
  have hM := fun u W (h : Rd W 4 encY u (guardL (mOf ts))) => refMay_calls u _ (by have := (guardL_may (mOf ts)).2; omega) W h
  have hR := fun u W (h : Rd W 4 encY u (guardL (mOf ts))) => refRun_calls u _ (guardL_ok _) d hd (by have := (guardL_may (mOf ts)).2; omega) W h
  have hgl := (guardL_may (mOf ts)).2
  have hmt := (guardL_may (mOf ts)).1
  have hrE : runE (guardL (mOf ts)) = 0 := by unfold runE; rw [if_pos hmt]
  rw [hmt] at hM
  rw [guard_run, gdA_R, hrE] at hR
  unfold datV at hR hGd
  unfold datV
  unfold GP at hG
  generalize gdR ts d.ar d.nr = gv at *
  generalize guardL (mOf ts) = G at *
  have HhG := Lib.hid hG
  clear hG
  have HhGd := Lib.hid hGd
  clear hGd
  have HhM := Lib.hid hM
  clear hM
  have HhR := Lib.hid hR
  clear hR
  have Hhmt := Lib.hid hmt
  clear hmt
  have HhrE := Lib.hid hrE
  clear hrE
  have Hhca := Lib.hid hca
  clear hca
  have Hhi := Lib.hid hi
  clear hi
  have Hhz2 := Lib.hid hz2
  clear hz2
  go_enter Try.func10, Try.ntmps10
  go_upto_region 3 with fail
  obtain ⟨W1, hW1⟩ : ∃ W1, W1 = w.alloc (.cells #[.int .u32 (d.nr : Int), .int .u32 (d.ar : Int), .int .u64 (d.ip : Int), .int .u64 (d.a0 : Int), .int .u64 (d.a1 : Int), .int .u64 (d.a2 : Int), .int .u64 (d.a3 : Int), .int .u64 (d.a4 : Int), .int .u64 (d.a5 : Int)] 40) := ⟨_, rfl⟩
  have hx1 : Ext w W1 := by rw [hW1]; exact (Ext.refl _).alloc _
  have hcd : Cd W1 w.heap.size d := by
    refine ⟨?_, ?_, ?_, ?_, ?_, ?_, ?_, ?_, ?_⟩ <;> (rw [hW1]; simp [go_sem])
  have hHV := HV.out
  rw [← hW1]
  clear hW1
  go_wp2_with (first
    | (at_make; refine wpList_make_full _ rfl _ _ 61 rfl w.heap.size 3 i0 (.int .i64 0) 1 Try.underlying61 Hhi.out hz0 hz1 _ _ _ _ ts.length rfl rfl (by omega) (by omega) (by rw [Hhz2.out]; omega) (by unfold maxLen; omega) hx1.size ?_; intro w1 hown1 hg1; have hE1 : Ext W1 w1 := (Ext.refl W1).grown hg1 (by intro k hk; cases hk); have HO := Lib.hid hown1; clear hown1)
    | ((with_reducible show wpList _ _ _ (⟨some 21, _, _, _, _, _⟩ :: _) _ _); refine wpList_copy_full rfl (.tmp 19) (.tmp 20) 61 61 rfl 3 1 Try.underlying61 (by rw [Hhi.out]; simp [hz1]) encI encI_len encI_one W1.heap.size w.heap.size _ _ ts rfl rfl HO.out (hHV.ext (hx1.trans hE1)) ?_; intro w2 hown2 hg2; have hE2 : Ext W1 w2 := hE1.grown hg2 (by intro k hk; cases hk; exact Nat.le_refl _); have hrdM := rd_of_own encI_len hown2; clear hown2))
  refine (HhG.out _ _ hrdM).mono ?_
  rintro e w3 ⟨u, er, rfl, hx3, hres⟩
  obtain ⟨am, cm, e3, -, hcm⟩ := rdI_cell (hrdM.ext hx3)
  simp only [Value.slice.injEq] at e3
  obtain ⟨rfl, -, rfl⟩ := e3
  have HX3 := Lib.hid (hE2.trans hx3)
  have HXw := Lib.hid (hx1.trans (hE2.trans hx3))
  have HCM := Lib.hid hcm
  have HRES := Lib.hid hres
  have HCD := Lib.hid hcd
  clear hrdM hx3 hE1 hE2 HO hcm hres hcd hx1 hHV
  obtain ⟨b0, hb0⟩ : ∃ b0, b0 = (ts.length == 0) := ⟨_, rfl⟩
  have hb0' : ((ts.length : Int) == 0) = b0 := by rw [hb0, Bool.eq_iff_iff]; simp
  have Hhb0 := Lib.hid hb0
  clear hb0
  go_wp2_with fail
  go_loopw [8, 9] (fun b i wr => ∃ (k : Nat) (bb : Bool), k ≤ ts.length ∧ i = .int .i64 k ∧ b = .bool bb ∧ bb = (b0 || (ts.take k).any badI) ∧ Ext w3 wr) (fun _ i _ => ts.length - (intOf i).toNat)
  case atStart => exact ⟨0, b0, by omega, rfl, rfl, by simp, Ext.refl _⟩
  case round =>
    obtain ⟨k, bb, hk, rfl, rfl, hbb, hx⟩ := hrel
    have HX := Lib.hid hx
    clear hx hb0'
    by_cases hlt : k < ts.length
    · obtain ⟨b, o, rfl, c1⟩ := Hhca.out k hlt
      obtain ⟨b', o', e4, c2⟩ := HCM.out k hlt
      simp only [Option.some.injEq, Addr.mk.injEq, and_true] at e4
      obtain ⟨rfl, rfl⟩ := e4
      replace c1 := (HXw.out.trans HX.out).cell c1
      replace c2 := HX.out.cell c2
      rw [Nat.zero_add] at c2
      have hst2 : (b0 || (ts.take (k + 1)).any badI) = (bb || badI (ts[k]'hlt)) := by rw [any_step hlt, hbb, Bool.or_assoc]
      have hbx : badI (ts[k]'hlt) = (decide ((ts[k]'hlt) < 0) || decide (5 < (ts[k]'hlt))) := by
        unfold badI
        congr 1
      rw [hbx] at hst2
      clear hbx
      generalize ts[k]'hlt = x at *
      have Hhbb := Lib.hid hbb
      clear hbb
      have Hhst2 := Lib.hid hst2
      clear hst2
      cases bb
      · cases d1 : decide (x < 0)
        · cases d2 : decide (5 < x)
          all_goals
            go_wp2_with (go_quiet (fail))
            go_roundw
            case rel => exact ⟨k + 1, _, by omega, by go_num, rfl, by rw [Hhst2.out, d1, d2]; rfl, (by repeat (first | exact HX.out | apply Ext.drewN | apply Ext.alloc | apply Ext.drew))⟩
            case measure => simp [intOf]; omega
        · go_wp2_with (go_quiet (fail))
          go_roundw
          case rel => exact ⟨k + 1, _, by omega, by go_num, rfl, by rw [Hhst2.out, d1]; rfl, (by repeat (first | exact HX.out | apply Ext.drewN | apply Ext.alloc | apply Ext.drew))⟩
          case measure => simp [intOf]; omega
      · go_wp2_with (go_quiet (fail))
        go_roundw
        case rel => exact ⟨k + 1, _, by omega, by go_num, rfl, by rw [Hhst2.out]; rfl, (by repeat (first | exact HX.out | apply Ext.drewN | apply Ext.alloc | apply Ext.drew))⟩
        case measure => simp [intOf]; omega
    · obtain rfl : k = ts.length := by omega
      rw [List.take_length] at hbb
      have hbA : bb = badA ts := by rw [hbb, Hhb0.out]; rfl
      have hres := HRES.out
      try rw [← hbA] at hres
      have Hhbb := Lib.hid hbb
      clear hbb
      have HhbA := Lib.hid hbA
      clear hbA
      rcases hres with ⟨rfl, rfl, rfl⟩ | ⟨rfl, rfl, hr⟩
      · go_wp2_with fail
        go_ret
        exact ⟨rfl, HXw.out.trans HX.out⟩
      · obtain ⟨q0, q1, q2, q3, q4, q5, q6, q7, q8⟩ := HCD.out.ext (HX3.out.trans HX.out)
        have HR := Lib.hid (hr.ext HX.out)
        obtain ⟨au, cu, rfl, -, -⟩ := rdY_cell hr
        clear hr
        have hg30 : decide (30 < G.length) = false := decide_eq_false (by omega)
        have hg30' : decide (30 < (G.length : Int)) = false := decide_eq_false (by omega)
        go_wp2_with fail
        refine (HhM.out _ _ HR.out).mono ?_
        rintro e w5 ⟨rfl, hx5⟩
        obtain ⟨q0, q1, q2, q3, q4, q5, q6, q7, q8⟩ := HCD.out.ext ((HX3.out.trans HX.out).trans hx5)
        have HX5' := Lib.hid hx5
        have HX5 := Lib.hid ((HXw.out.trans HX.out).trans hx5)
        have HR5 := Lib.hid (HR.out.ext hx5)
        clear hx5
        go_wp2_with fail
        refine (HhR.out _ _ HR5.out).mono ?_
        rintro e w6 ⟨rfl, hx6⟩
        obtain ⟨q0, q1, q2, q3, q4, q5, q6, q7, q8⟩ := HCD.out.ext (((HX3.out.trans HX.out).trans HX5'.out).trans hx6)
        have HX6 := Lib.hid (HX5.out.trans hx6)
        clear hx6
        go_wp2_with fail
        refine (HhGd.out _ HX6.out).mono ?_
        rintro e w7 ⟨rfl, hx7⟩
        go_wp2_with fail
        go_ret
        exact ⟨by simp, HX6.out.trans hx7⟩
end L25G
end Go.Proofs.Ytkmhfjnjfghnjaa
