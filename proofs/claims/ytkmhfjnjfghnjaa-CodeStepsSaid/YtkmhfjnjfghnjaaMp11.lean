import Derived.Test.YtkmhfjnjfghnjaaMp10
/- Layer 21: the walks of the closures that ask for a rule's number, and of the search by them. -/
namespace Go.Proofs.Ytkmhfjnjfghnjaa
open Go.RowKit V
namespace L21
/-- the place of the first rule of a number, or -1 -/
def idxR (nr : Nat) : List Rule → Nat → Int
  | [], _ => -1
  | r :: l, k => if (r.nr == nr) = true then (k : Int) else idxR nr l (k + 1)
theorem idxR_step {nr : Nat} {rs : List Rule} {k : Nat} (h : k < rs.length) : idxR nr (rs.drop k) k = if (rs[k].nr == nr) = true then (k : Int) else idxR nr (rs.drop (k + 1)) (k + 1) := by
  rw [List.drop_eq_getElem_cons h]; rfl
theorem idxR_end (nr : Nat) (rs : List Rule) (k : Nat) : idxR nr (rs.drop rs.length) k = -1 := by rw [List.drop_length]; rfl
theorem idxR_cases (nr : Nat) : ∀ (rs : List Rule) (k : Nat), (idxR nr rs k = -1 ∧ ∀ r ∈ rs, r.nr ≠ nr) ∨ ∃ i, ∃ h : i < rs.length, idxR nr rs k = ((k + i : Nat) : Int) ∧ (rs[i]'h).nr = nr
  | [], k => .inl ⟨rfl, fun r h => by cases h⟩
  | t :: r, k => by
    cases hp : (t.nr == nr)
    · rcases idxR_cases nr r (k + 1) with ⟨h1, h2⟩ | ⟨i, h, h1, h2⟩
      · refine .inl ⟨by simp only [idxR, hp]; exact h1, fun x hx => ?_⟩
        rcases List.mem_cons.1 hx with rfl | hx
        · exact ne_of_beq_false hp
        · exact h2 x hx
      · refine .inr ⟨i + 1, by simp; omega, ?_, by simpa using h2⟩
        simp only [idxR, hp]
        have e : ((k + 1 + i : Nat) : Int) = ((k + (i + 1) : Nat) : Int) := by omega
        rw [← e]; exact h1
    · exact .inr ⟨0, by simp, by simp [idxR, hp], by simpa using hp⟩
set_option maxHeartbeats 400000 in
theorem find1_calls (rn x nr B : Nat) (v : Value) (w : World) (hB : w.cell? ⟨B, 0, none⟩ = some (.int .u32 (nr : Int))) :
    Calls Try.prog 47 #[.agg #[.int .u32 (rn : Int), v, .int .u32 (x : Int)], .pointer (some ⟨B, 0, none⟩)] w fun e w' => e = .returned (.bool (rn == nr)) ∧ Ext w w' := by
  have hlt : B < w.heap.size := World.block_lt_of_cell? _ _ hB
  have hq : ((rn : Int) == (nr : Int)) = (rn == nr) := by rw [Bool.eq_iff_iff]; simp; omega
  cases he : rn == nr
  all_goals
    rw [he] at hq
    have Hhe := Lib.hid he
    clear he
    go_enter Try.func47, Try.ntmps47
    go_wp2
    go_ret
    exact ⟨rfl, (Ext.refl _).alloc _⟩
set_option maxRecDepth 100000 in
set_option maxHeartbeats 400000 in
theorem findIdx_calls (v : Value) (rs : List Rule) (nr B : Nat) (hl : rs.length ≤ 140737488351232) (w : World) (hB : w.cell? ⟨B, 0, none⟩ = some (.int .u32 (nr : Int))) (hv : RdR w 3 (IsR w) v rs) :
    Calls Try.prog 81 #[v, .func (.func 47) #[] #[.pointer (some ⟨B, 0, none⟩)]] w fun e w' => e = .returned (.int .i64 (idxR nr rs 0)) ∧ Ext w w' := by
  obtain ⟨a, c, rfl, hac, hca⟩ := rdR_cell hv
  clear hv
  have hB0 := hB
  have HhB0 := Lib.hid hB0
  clear hB0
  have Hhca := Lib.hid hca
  clear hca
  go_enter Try.func81, Try.ntmps81
  go_wp2
  go_loopw [8] (fun i wr => ∃ k : Nat, k ≤ rs.length ∧ i = .int .i64 k ∧ Ext w wr ∧ idxR nr rs 0 = idxR nr (rs.drop k) k) (fun i _ => rs.length - (intOf i).toNat)
  case atStart => exact ⟨0, by omega, rfl, Ext.refl _, rfl⟩
  case round =>
    obtain ⟨k, hk, rfl, hx, heq⟩ := hrel
    have HX := Lib.hid hx
    by_cases hlt : k < rs.length
    · obtain ⟨b, o, u, rfl, h1, h2, h3, -⟩ := Hhca.out k hlt
      replace h1 := hx.cell h1; replace h2 := hx.cell h2; replace h3 := hx.cell h3
      have hb := hx.cell HhB0.out
      rw [idxR_step hlt] at heq
      have hC := fun W h => find1_calls (rs[k]'hlt).nr (rs[k]'hlt).action nr B u W h
      clear hx hB
      generalize rs[k]'hlt = t at *
      cases hp : (t.nr == nr)
      all_goals
        rw [hp] at hC heq
        simp only [if_true, if_false, Bool.false_eq_true] at heq
        have HhC := Lib.hid hC
        clear hC
        have Hheq := Lib.hid heq
        clear heq
        have Hhp := Lib.hid hp
        clear hp
        go_wp2_with fail
        refine (HhC.out _ hb).mono ?_
        rintro e w2 ⟨rfl, hx2⟩
        go_wp2_with fail
      · first
          | (go_roundw
             case rel => exact ⟨k + 1, by omega, by go_num, HX.out.trans hx2, Hheq.out⟩
             case measure => simp [intOf]; omega)
          | exact ⟨⟨k + 1, by omega, by go_num, HX.out.trans hx2, Hheq.out⟩, by simp [intOf]; omega⟩
      · go_ret
        exact ⟨by rw [Hheq.out]; rfl, HX.out.trans hx2⟩
    · obtain rfl : k = rs.length := by omega
      rw [idxR_end] at heq
      have Hheq := Lib.hid heq
      clear heq
      clear hx
      go_wp2
      go_ret
      exact ⟨by rw [Hheq.out]; rfl, HX.out⟩
set_option maxHeartbeats 400000 in
theorem denote1_calls (rn x nr B : Nat) (v : Value) (w : World) (hB : w.cell? ⟨B, 0, none⟩ = some (.int .u32 (nr : Int))) :
    Calls Try.prog 52 #[.agg #[.int .u32 (rn : Int), v, .int .u32 (x : Int)], .pointer (some ⟨B, 0, none⟩)] w fun e w' => e = .returned (.bool (rn == nr)) ∧ Ext w w' := by
  have hlt : B < w.heap.size := World.block_lt_of_cell? _ _ hB
  have hq : ((rn : Int) == (nr : Int)) = (rn == nr) := by rw [Bool.eq_iff_iff]; simp; omega
  cases he : rn == nr
  all_goals
    rw [he] at hq
    have Hhe := Lib.hid he
    clear he
    go_enter Try.func52, Try.ntmps52
    go_wp2
    go_ret
    exact ⟨rfl, (Ext.refl _).alloc _⟩
set_option maxRecDepth 100000 in
set_option maxHeartbeats 400000 in
theorem denoteIdx_calls (v : Value) (rs : List Rule) (nr B : Nat) (hl : rs.length ≤ 140737488351232) (w : World) (hB : w.cell? ⟨B, 0, none⟩ = some (.int .u32 (nr : Int))) (hv : RdR w 3 (IsR w) v rs) :
    Calls Try.prog 81 #[v, .func (.func 52) #[] #[.pointer (some ⟨B, 0, none⟩)]] w fun e w' => e = .returned (.int .i64 (idxR nr rs 0)) ∧ Ext w w' := by
  obtain ⟨a, c, rfl, hac, hca⟩ := rdR_cell hv
  clear hv
  have hB0 := hB
  have HhB0 := Lib.hid hB0
  clear hB0
  have Hhca := Lib.hid hca
  clear hca
  go_enter Try.func81, Try.ntmps81
  go_wp2
  go_loopw [8] (fun i wr => ∃ k : Nat, k ≤ rs.length ∧ i = .int .i64 k ∧ Ext w wr ∧ idxR nr rs 0 = idxR nr (rs.drop k) k) (fun i _ => rs.length - (intOf i).toNat)
  case atStart => exact ⟨0, by omega, rfl, Ext.refl _, rfl⟩
  case round =>
    obtain ⟨k, hk, rfl, hx, heq⟩ := hrel
    have HX := Lib.hid hx
    by_cases hlt : k < rs.length
    · obtain ⟨b, o, u, rfl, h1, h2, h3, -⟩ := Hhca.out k hlt
      replace h1 := hx.cell h1; replace h2 := hx.cell h2; replace h3 := hx.cell h3
      have hb := hx.cell HhB0.out
      rw [idxR_step hlt] at heq
      have hC := fun W h => denote1_calls (rs[k]'hlt).nr (rs[k]'hlt).action nr B u W h
      clear hx hB
      generalize rs[k]'hlt = t at *
      cases hp : (t.nr == nr)
      all_goals
        rw [hp] at hC heq
        simp only [if_true, if_false, Bool.false_eq_true] at heq
        have HhC := Lib.hid hC
        clear hC
        have Hheq := Lib.hid heq
        clear heq
        have Hhp := Lib.hid hp
        clear hp
        go_wp2_with fail
        refine (HhC.out _ hb).mono ?_
        rintro e w2 ⟨rfl, hx2⟩
        go_wp2_with fail
      · first
          | (go_roundw
             case rel => exact ⟨k + 1, by omega, by go_num, HX.out.trans hx2, Hheq.out⟩
             case measure => simp [intOf]; omega)
          | exact ⟨⟨k + 1, by omega, by go_num, HX.out.trans hx2, Hheq.out⟩, by simp [intOf]; omega⟩
      · go_ret
        exact ⟨by rw [Hheq.out]; rfl, HX.out.trans hx2⟩
    · obtain rfl : k = rs.length := by omega
      rw [idxR_end] at heq
      have Hheq := Lib.hid heq
      clear heq
      clear hx
      go_wp2
      go_ret
      exact ⟨by rw [Hheq.out]; rfl, HX.out⟩
end L21
end Go.Proofs.Ytkmhfjnjfghnjaa

