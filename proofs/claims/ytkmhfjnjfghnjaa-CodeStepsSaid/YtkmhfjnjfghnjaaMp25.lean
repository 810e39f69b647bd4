import Derived.Test.YtkmhfjnjfghnjaaMp24
/- Layer 25: the walks of Guard's closure, of ContainsFunc by it, of Guard and Emit where they tell no row. -/
namespace Go.Proofs.Ytkmhfjnjfghnjaa
open Go.RowKit V
namespace L25
def encI (a : Int) : List Value := [.int .i64 a]
theorem encI_len (a : Int) : (encI a).length = 1 := rfl
theorem encI_one (s : Int) : ∀ u ∈ encI s, u.oneCell' = true := by intro u hu; simp [encI] at hu; subst hu; rfl
theorem rdI_cell {w : World} {v : Value} {xs : List Int} (h : Rd w 1 encI v xs) : ∃ a c, v = .slice a xs.length c ∧ xs.length ≤ c ∧ ∀ i, (hi : i < xs.length) → ∃ b o, a = some ⟨b, o, none⟩ ∧ w.cell? ⟨b, o + i, none⟩ = some (.int .i64 xs[i]) := by
  obtain ⟨a, c, h1, h2, h3, h4⟩ := h
  refine ⟨a, c, h1, h2, fun i hi => ?_⟩
  obtain ⟨b, o, e, k⟩ := h4 i hi
  have := k 0 (by simp [encI])
  rw [Nat.mul_one, Nat.add_zero] at this
  exact ⟨b, o, e, this⟩
def badI (a : Int) : Bool := decide (a < 0) || decide (6 ≤ a)
def idxI (p : Int → Bool) : List Int → Nat → Int
  | [], _ => -1
  | t :: r, k => if p t = true then (k : Int) else idxI p r (k + 1)
theorem idxI_step {p : Int → Bool} {ts : List Int} {k : Nat} (h : k < ts.length) : idxI p (ts.drop k) k = if p ts[k] = true then (k : Int) else idxI p (ts.drop (k + 1)) (k + 1) := by
  rw [List.drop_eq_getElem_cons h]; rfl
theorem idxI_end (p : Int → Bool) (ts : List Int) (k : Nat) : idxI p (ts.drop ts.length) k = -1 := by rw [List.drop_length]; rfl
theorem idxI_any (p : Int → Bool) : ∀ (ts : List Int) (k : Nat), decide (0 ≤ idxI p ts k) = ts.any p
  | [], k => rfl
  | t :: r, k => by
    rw [List.any_cons]
    unfold idxI
    cases hp : p t
    · rw [if_neg (by simp), Bool.false_or]; exact idxI_any p r (k + 1)
    · rw [if_pos rfl, Bool.true_or]; exact decide_eq_true (by omega)
set_option maxHeartbeats 400000 in
theorem badI_calls (a : Int) (w : World) : Calls Try.prog 63 #[.int .i64 a] w fun e w' => e = .returned (.bool (badI a)) ∧ Ext w w' := by
  unfold badI
  cases h1 : decide (a < 0)
  · cases h2 : decide (6 ≤ a)
    all_goals
      go_enter Try.func63, Try.ntmps63
      go_wp2
      go_ret
      exact ⟨rfl, Ext.refl _⟩
  · go_enter Try.func63, Try.ntmps63
    go_wp2
    go_ret
    exact ⟨by simp, Ext.refl _⟩
set_option maxRecDepth 100000 in
set_option maxHeartbeats 400000 in
theorem idxBadI_calls (v : Value) (ts : List Int) (hl : ts.length ≤ 140737488351232) (w : World) (hv : Rd w 1 encI v ts) :
    Calls Try.prog 94 #[v, .func (.func 63) #[] #[]] w fun e w' => e = .returned (.int .i64 (idxI badI ts 0)) ∧ Ext w w' := by
  obtain ⟨a, c, rfl, hac, hca⟩ := rdI_cell hv
  clear hv
  have Hhca := Lib.hid hca
  clear hca
  go_enter Try.func94, Try.ntmps94
  go_wp2
  go_loopw [8] (fun i wr => ∃ k : Nat, k ≤ ts.length ∧ i = .int .i64 k ∧ Ext w wr ∧ idxI badI ts 0 = idxI badI (ts.drop k) k) (fun i _ => ts.length - (intOf i).toNat)
  case atStart => exact ⟨0, by omega, rfl, Ext.refl _, rfl⟩
  case round =>
    obtain ⟨k, hk, rfl, hx, heq⟩ := hrel
    have HX := Lib.hid hx
    by_cases hlt : k < ts.length
    · obtain ⟨b, o, rfl, h1⟩ := Hhca.out k hlt
      replace h1 := hx.cell h1
      rw [idxI_step hlt] at heq
      have hC := fun W => badI_calls (ts[k]'hlt) W
      clear hx
      generalize ts[k]'hlt = t at *
      cases hp : badI t
      all_goals
        rw [hp] at hC heq
        simp only [if_true, if_false, Bool.false_eq_true] at heq
        have HhC := Lib.hid hC
        clear hC
        have Hheq := Lib.hid heq
        clear heq
        have Hhp := Lib.hid hp
        clear hp
        go_wp2_with fail
        refine (HhC.out _).mono ?_
        rintro e w2 ⟨rfl, hx2⟩
        go_wp2_with fail
      · first
          | (go_roundw
             case rel => exact ⟨k + 1, by omega, by go_num, HX.out.trans hx2, Hheq.out⟩
             case measure => simp [intOf]; omega)
          | exact ⟨⟨k + 1, by omega, by go_num, HX.out.trans hx2, Hheq.out⟩, by simp [intOf]; omega⟩
      · go_ret
        exact ⟨by rw [Hheq.out]; rfl, HX.out.trans hx2⟩
    · obtain rfl : k = ts.length := by omega
      rw [idxI_end] at heq
      have Hheq := Lib.hid heq
      clear heq
      clear hx
      go_wp2
      go_ret
      exact ⟨by rw [Hheq.out]; rfl, HX.out⟩
set_option maxHeartbeats 400000 in
theorem anyBadI_calls (v : Value) (ts : List Int) (hl : ts.length ≤ 140737488351232) (w : World) (hv : Rd w 1 encI v ts) :
    Calls Try.prog 62 #[v, .func (.func 63) #[] #[]] w fun e w' => e = .returned (.bool (ts.any badI)) ∧ Ext w w' := by
  have hI := idxBadI_calls v ts hl w hv
  have hA := idxI_any badI ts 0
  obtain ⟨a, c, rfl, hac, hca⟩ := rdI_cell hv
  clear hv hca
  generalize idxI badI ts 0 = ix at *
  have HhI := Lib.hid hI
  clear hI
  have HhA := Lib.hid hA
  clear hA
  go_enter Try.func62, Try.ntmps62
  go_wp2_with fail
  refine HhI.out.mono ?_
  rintro e w1 ⟨rfl, hx1⟩
  go_wp2_with fail
  go_ret
  exact ⟨by rw [← HhA.out]; rfl, hx1⟩
set_option maxRecDepth 100000 in
set_option maxHeartbeats 400000 in
theorem Guard_nil (w : World) : Calls Try.prog 37 #[.slice none 0 0] w fun e w' => e = .returned (.tuple #[.slice none 0 0, .int .i64 2]) ∧ Ext w w' := by
  go_enter Try.func37, Try.ntmps37
  go_wp2
  go_ret2
  exact ⟨rfl, Ext.refl _⟩
set_option maxRecDepth 100000 in
set_option maxHeartbeats 400000 in
theorem Guard_bad (v : Value) (ts : List Int) (hl : ts.length ≤ 140737488351232) (hb : ts.any badI = true) (w : World) (hv : Rd w 1 encI v ts) : Calls Try.prog 37 #[v] w fun e w' => e = .returned (.tuple #[.slice none 0 0, .int .i64 2]) ∧ Ext w w' := by
  have hA := anyBadI_calls v ts hl w hv
  rw [hb] at hA
  obtain ⟨a, c, rfl, hac, -⟩ := rdI_cell hv
  have hp : ((ts.length : Int) == 0) = false := by
    cases ts with
    | nil => cases hb
    | cons t r => simp; omega
  clear hv
  have HhA := Lib.hid hA
  clear hA
  have Hhb := Lib.hid hb
  clear hb
  go_enter Try.func37, Try.ntmps37
  go_wp2_with fail
  refine HhA.out.mono ?_
  rintro e w1 ⟨rfl, hx1⟩
  go_wp2_with fail
  go_ret2
  exact ⟨rfl, hx1⟩
open L21 in
set_option maxRecDepth 100000 in
set_option maxHeartbeats 400000 in
theorem Emit_no (f : Filter) (u : Value) (hf : OkF f) (hm : mayF f = false) (w : World) (hu : RdR w 3 (IsR w) u f.rules) :
    Calls Try.prog 40 #[.agg #[.int .i64 f.arch, u, .int .u32 (f.dflt : Int)]] w fun e w' => e = .returned (.tuple #[.slice none 0 0, .int .i64 210]) ∧ Ext w w' := by
  have hM := fun W (hx : Ext w W) => May_calls f u hf W (rdRR_ext hx hu)
  rw [hm] at hM
  obtain ⟨av, cv, rfl, -, -⟩ := rdR_cell hu
  have HhM := Lib.hid hM
  clear hM
  have Hhm := Lib.hid hm
  clear hm
  clear hu
  go_enter Try.func40, Try.ntmps40
  go_wp2_with fail
  refine (HhM.out _ ((Ext.refl _).alloc _)).mono ?_
  rintro e w1 ⟨rfl, hx1⟩
  go_wp2_with fail
  go_ret2
  exact ⟨rfl, ((Ext.refl _).alloc _).trans hx1⟩
end L25
end Go.Proofs.Ytkmhfjnjfghnjaa

