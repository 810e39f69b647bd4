import Derived.Test.YtkmhfjnjfghnjaaMq6
/- Layer 21: the walks of the closures that ask for a rule's number, and of the search by them. -/
namespace Go.Proofs.Ytkmhfjnjfghnjaa
open Go.RowKit V
namespace L21
/-- the place of the first rule of a number, or -1 -/
def idxR (nr : Nat) : List Rule → Nat → Int
  | [], _ => -1
  | r :: l, k => if (r.nr == nr) = true then (k : Int) else idxR nr l (k + 1)
theorem idxR_step {nr : Nat} {rs : List Rule} {k : Nat} (h : k < rs.length) : idxR nr (rs.drop k) k = if (rs[k].nr == nr) = true then (k : Int) else idxR nr (rs.drop (k + 1)) (k + 1) := by
  rw [List.drop_eq_getElem_cons h]; rfl
theorem idxR_end (nr : Nat) (rs : List Rule) (k : Nat) : idxR nr (rs.drop rs.length) k = -1 := by rw [List.drop_length]; rfl
theorem idxR_cases (nr : Nat) : ∀ (rs : List Rule) (k : Nat), (idxR nr rs k = -1 ∧ ∀ r ∈ rs, r.nr ≠ nr) ∨ ∃ i, ∃ h : i < rs.length, idxR nr rs k = ((k + i : Nat) : Int) ∧ (rs[i]'h).nr = nr
  | [], k => .inl ⟨rfl, fun r h => by cases h⟩
  | t :: r, k => by
    cases hp : (t.nr == nr)
    · rcases idxR_cases nr r (k + 1) with ⟨h1, h2⟩ | ⟨i, h, h1, h2⟩
      · refine .inl ⟨by simp only [idxR, hp]; exact h1, fun x hx => ?_⟩
        rcases List.mem_cons.1 hx with rfl | hx
        · exact ne_of_beq_false hp
        · exact h2 x hx
      · refine .inr ⟨i + 1, by simp; omega, ?_, by simpa using h2⟩
        simp only [idxR, hp]
        have e : ((k + 1 + i : Nat) : Int) = ((k + (i + 1) : Nat) : Int) := by omega
        rw [← e]; exact h1
    · exact .inr ⟨0, by simp, by simp [idxR, hp], by simpa using hp⟩
set_option maxHeartbeats 400000 in
theorem find1_calls (rn x nr B : Nat) (v : Value) (w : World) (hB : w.cell? ⟨B, 0, none⟩ = some (.int .u32 (nr : Int))) :
    Calls Try.prog 47 #[.agg #[.int .u32 (rn : Int), v, .int .u32 (x : Int)], .pointer (some ⟨B, 0, none⟩)] w fun e w' => e = .returned (.bool (rn == nr)) ∧ Ext w w' := by
  have hlt : B < w.heap.size := World.block_lt_of_cell? _ _ hB
  have hq : ((rn : Int) == (nr : Int)) = (rn == nr) := by rw [Bool.eq_iff_iff]; simp; omega
  cases he : rn == nr
  all_goals
    rw [he] at hq
    have Hhe := Lib.hid he
    clear he
    go_enter Try.func47, Try.ntmps47
    go_wp2
    go_ret
    exact ⟨rfl, (Ext.refl _).alloc _⟩
set_option maxRecDepth 100000 in
set_option maxHeartbeats 400000 in
theorem findIdx_calls (v : Value) (rs : List Rule) (nr B : Nat) (hl : rs.length ≤ 140737488351232) (w : World) (hB : w.cell? ⟨B, 0, none⟩ = some (.int .u32 (nr : Int))) (hv : RdR w 3 (IsR w) v rs) :
    Calls Try.prog 81 #[v, .func (.func 47) #[] #[.pointer (some ⟨B, 0, none⟩)]] w fun e w' => e = .returned (.int .i64 (idxR nr rs 0)) ∧ Ext w w' := by
  obtain ⟨a, c, rfl, hac, hca⟩ := rdR_cell hv
  clear hv
  have hB0 := hB
  have HhB0 := Lib.hid hB0
  clear hB0
  have Hhca := Lib.hid hca
  clear hca
  go_enter Try.func81, Try.ntmps81
  go_wp2
  go_loopw [8] (fun i wr => ∃ k : Nat, k ≤ rs.length ∧ i = .int .i64 k ∧ Ext w wr ∧ idxR nr rs 0 = idxR nr (rs.drop k) k) (fun i _ => rs.length - (intOf i).toNat)
  case atStart => exact ⟨0, by omega, rfl, Ext.refl _, rfl⟩
  case round =>
    obtain ⟨k, hk, rfl, hx, heq⟩ := hrel
    have HX := Lib.hid hx
    by_cases hlt : k < rs.length
    · obtain ⟨b, o, u, rfl, h1, h2, h3, -⟩ := Hhca.out k hlt
      replace h1 := hx.cell h1; replace h2 := hx.cell h2; replace h3 := hx.cell h3
      have hb := hx.cell HhB0.out
      rw [idxR_step hlt] at heq
      have hC := fun W h => find1_calls (rs[k]'hlt).nr (rs[k]'hlt).action nr B u W h
      clear hx hB
      generalize rs[k]'hlt = t at *
      cases hp : (t.nr == nr)
      all_goals
        rw [hp] at hC heq
        simp only [if_true, if_false, Bool.false_eq_true] at heq
        have HhC := Lib.hid hC
        clear hC
        have Hheq := Lib.hid heq
        clear heq
        have Hhp := Lib.hid hp
        clear hp
        go_wp2_with fail
        refine (HhC.out _ hb).mono ?_
        rintro e w2 ⟨rfl, hx2⟩
        go_wp2_with fail
      · first
          | (go_roundw
             case rel => exact ⟨k + 1, by omega, by go_num, HX.out.trans hx2, Hheq.out⟩
             case measure => simp [intOf]; omega)
          | exact ⟨⟨k + 1, by omega, by go_num, HX.out.trans hx2, Hheq.out⟩, by simp [intOf]; omega⟩
      · go_ret
        exact ⟨by rw [Hheq.out]; rfl, HX.out.trans hx2⟩
    · obtain rfl : k = rs.length := by omega
      rw [idxR_end] at heq
      have Hheq := Lib.hid heq
      clear heq
      clear hx
      go_wp2
      go_ret
      exact ⟨by rw [Hheq.out]; rfl, HX.out⟩
set_option maxHeartbeats 400000 in
theorem denote1_calls (rn x nr B : Nat) (v : Value) (w : World) (hB : w.cell? ⟨B, 0, none⟩ = some (.int .u32 (nr : Int))) :
    Calls Try.prog 52 #[.agg #[.int .u32 (rn : Int), v, .int .u32 (x : Int)], .pointer (some ⟨B, 0, none⟩)] w fun e w' => e = .returned (.bool (rn == nr)) ∧ Ext w w' := by
  have hlt : B < w.heap.size := World.block_lt_of_cell? _ _ hB
  have hq : ((rn : Int) == (nr : Int)) = (rn == nr) := by rw [Bool.eq_iff_iff]; simp; omega
  cases he : rn == nr
  all_goals
    rw [he] at hq
    have Hhe := Lib.hid he
    clear he
    go_enter Try.func52, Try.ntmps52
    go_wp2
    go_ret
    exact ⟨rfl, (Ext.refl _).alloc _⟩
set_option maxRecDepth 100000 in
set_option maxHeartbeats 400000 in
theorem denoteIdx_calls (v : Value) (rs : List Rule) (nr B : Nat) (hl : rs.length ≤ 140737488351232) (w : World) (hB : w.cell? ⟨B, 0, none⟩ = some (.int .u32 (nr : Int))) (hv : RdR w 3 (IsR w) v rs) :
    Calls Try.prog 81 #[v, .func (.func 52) #[] #[.pointer (some ⟨B, 0, none⟩)]] w fun e w' => e = .returned (.int .i64 (idxR nr rs 0)) ∧ Ext w w' := by
  obtain ⟨a, c, rfl, hac, hca⟩ := rdR_cell hv
  clear hv
  have hB0 := hB
  have HhB0 := Lib.hid hB0
  clear hB0
  have Hhca := Lib.hid hca
  clear hca
  go_enter Try.func81, Try.ntmps81
  go_wp2
  go_loopw [8] (fun i wr => ∃ k : Nat, k ≤ rs.length ∧ i = .int .i64 k ∧ Ext w wr ∧ idxR nr rs 0 = idxR nr (rs.drop k) k) (fun i _ => rs.length - (intOf i).toNat)
  case atStart => exact ⟨0, by omega, rfl, Ext.refl _, rfl⟩
  case round =>
    obtain ⟨k, hk, rfl, hx, heq⟩ := hrel
    have HX := Lib.hid hx
    by_cases hlt : k < rs.length
    · obtain ⟨b, o, u, rfl, h1, h2, h3, -⟩ := Hhca.out k hlt
      replace h1 := hx.cell h1; replace h2 := hx.cell h2; replace h3 := hx.cell h3
      have hb := hx.cell HhB0.out
      rw [idxR_step hlt] at heq
      have hC := fun W h => denote1_calls (rs[k]'hlt).nr (rs[k]'hlt).action nr B u W h
      clear hx hB
      generalize rs[k]'hlt = t at *
      cases hp : (t.nr == nr)
      all_goals
        rw [hp] at hC heq
        simp only [if_true, if_false, Bool.false_eq_true] at heq
        have HhC := Lib.hid hC
        clear hC
        have Hheq := Lib.hid heq
        clear heq
        have Hhp := Lib.hid hp
        clear hp
        go_wp2_with fail
        refine (HhC.out _ hb).mono ?_
        rintro e w2 ⟨rfl, hx2⟩
        go_wp2_with fail
      · first
          | (go_roundw
             case rel => exact ⟨k + 1, by omega, by go_num, HX.out.trans hx2, Hheq.out⟩
             case measure => simp [intOf]; omega)
          | exact ⟨⟨k + 1, by omega, by go_num, HX.out.trans hx2, Hheq.out⟩, by simp [intOf]; omega⟩
      · go_ret
        exact ⟨by rw [Hheq.out]; rfl, HX.out.trans hx2⟩
    · obtain rfl : k = rs.length := by omega
      rw [idxR_end] at heq
      have Hheq := Lib.hid heq
      clear heq
      clear hx
      go_wp2
      go_ret
      exact ⟨by rw [Hheq.out]; rfl, HX.out⟩
end L21
end Go.Proofs.Ytkmhfjnjfghnjaa

/- Layer 21: the walks of first over rules by Find's and Denote's closures. -/
namespace Go.Proofs.Ytkmhfjnjfghnjaa
open Go.RowKit V
namespace L21
/-- what is told of the first rule of a number: its cells, its tests -/
def FndR (w : World) (nr : Nat) (rs : List Rule) (r : Rule) (u : Value) : Prop :=
  (idxR nr rs 0 = -1 ∧ r = ⟨0, [], 0⟩ ∧ u = .slice none 0 0) ∨ ∃ i, ∃ h : i < rs.length, idxR nr rs 0 = (i : Int) ∧ r = rs[i]'h ∧ Rd w 4 encT u r.tests
set_option maxRecDepth 100000 in
set_option maxHeartbeats 400000 in
theorem findFirst_calls (v : Value) (rs : List Rule) (nr B : Nat) (hl : rs.length ≤ 140737488351232) (w : World) (hB : w.cell? ⟨B, 0, none⟩ = some (.int .u32 (nr : Int))) (hv : RdR w 3 (IsR w) v rs) :
    Calls Try.prog 46 #[v, .func (.func 47) #[] #[.pointer (some ⟨B, 0, none⟩)]] w fun e w' =>
      ∃ (r : Rule) (u : Value), e = .returned (.tuple #[.agg #[.int .u32 (r.nr : Int), u, .int .u32 (r.action : Int)], .bool (decide (0 ≤ idxR nr rs 0))]) ∧ Ext w w' ∧ FndR w nr rs r u := by
  have hI := fun W (hx : Ext w W) => findIdx_calls v rs nr B hl W (hx.cell hB) (rdRR_ext hx hv)
  obtain ⟨a, c, rfl, hac, hca⟩ := rdR_cell hv
  clear hv hB
  rcases idxR_cases nr rs 0 with ⟨h1, -⟩ | ⟨i, hi, h1, -⟩
  · rw [h1] at hI
    rw [h1]
    have HhI := Lib.hid hI
    clear hI
    have Hh1 := Lib.hid h1
    clear h1
    clear hca
    go_enter Try.func46, Try.ntmps46
    go_wp2_with fail
    refine (HhI.out _ ((Ext.refl _).alloc _)).mono ?_
    rintro e w1 ⟨rfl, hx1⟩
    have z0 := hx1.cell (p := ⟨w.heap.size, 0, none⟩) (by simp [go_sem]; rfl)
    have z1 := hx1.cell (p := ⟨w.heap.size, 1, none⟩) (by simp [go_sem]; rfl)
    have z2 := hx1.cell (p := ⟨w.heap.size, 2, none⟩) (by simp [go_sem]; rfl)
    have hsz : w.heap.size < w1.heap.size := World.block_lt_of_cell? _ _ z0
    have hf : ∀ j, w1.frozen? ⟨w.heap.size, j, none⟩ = false := fun j => (World.frozen?_of_block (hx1.block (by simp))).trans (by simp [go_sem])
    have f0 := hf 0
    have f1 := hf 1
    have f2 := hf 2
    have HX1 := Lib.hid (((Ext.refl w).alloc _).trans hx1)
    clear hx1 hf
    go_wp2_with fail
    have hne : ¬ w.heap.size = w1.heap.size := by omega
    refine bodyPost_ret (v := .tuple #[.agg #[.int .u32 0, .slice none 0 0, .int .u32 0], .bool false]) (by first | (simp [results, Try.results46, go_sem, World.cell?_alloc_old, hne, z0, z1, z2]; done) | (simp [results, Try.results46, go_sem, World.cell?_alloc_old, hne, z0, z1, z2]; rfl)) rfl ⟨⟨0, [], 0⟩, _, rfl, ?_, .inl ⟨Hh1.out, rfl, rfl⟩⟩
    repeat (first | exact HX1.out | refine Ext.alloc ?_ _ | refine Ext.setCell ?_ (by simp) _)
  · have hi0 : (((0 + i : Nat) : Int)) = (i : Int) := by omega
    rw [hi0] at h1
    rw [h1] at hI
    rw [h1]
    obtain ⟨b, o, u, rfl, g0, g1, g2, g3⟩ := hca i hi
    have g3b := g3
    obtain ⟨au, cu, rfl, -, -⟩ := rdT_cell g3b
    clear g3b
    have hF : FndR w nr rs (rs[i]'hi) (.slice au (rs[i]'hi).tests.length cu) := .inr ⟨i, hi, h1, rfl, g3⟩
    generalize rs[i]'hi = t at *
    have HhI := Lib.hid hI
    clear hI
    have Hh1 := Lib.hid h1
    clear h1
    have HhF := Lib.hid hF
    clear hF
    have Hg3 := Lib.hid g3
    clear g3
    clear hca hi0
    have d0 : decide ((0 : Int) ≤ (i : Int)) = true := decide_eq_true (by omega)
    go_enter Try.func46, Try.ntmps46
    go_wp2_with fail
    refine (HhI.out _ ((Ext.refl _).alloc _)).mono ?_
    rintro e w1 ⟨rfl, hx1⟩
    have z0 := hx1.cell (p := ⟨w.heap.size, 0, none⟩) (by simp [go_sem]; rfl)
    have z1 := hx1.cell (p := ⟨w.heap.size, 1, none⟩) (by simp [go_sem]; rfl)
    have z2 := hx1.cell (p := ⟨w.heap.size, 2, none⟩) (by simp [go_sem]; rfl)
    have hsz : w.heap.size < w1.heap.size := World.block_lt_of_cell? _ _ z0
    have hf : ∀ j, w1.frozen? ⟨w.heap.size, j, none⟩ = false := fun j => (World.frozen?_of_block (hx1.block (by simp))).trans (by simp [go_sem])
    have f0 := hf 0
    have f1 := hf 1
    have f2 := hf 2
    have hxx := ((Ext.refl w).alloc (.cells #[.int .u32 0, .slice none 0 0, .int .u32 0] 34)).trans hx1
    replace g0 := hxx.cell g0
    replace g1 := hxx.cell g1
    replace g2 := hxx.cell g2
    have HX1 := Lib.hid hxx
    clear hx1 hf hxx
    go_wp2_with fail
    refine bodyPost_ret (v := .tuple #[.agg #[.int .u32 (t.nr : Int), .slice au t.tests.length cu, .int .u32 (t.action : Int)], .bool true]) (by first | (simp [results, Try.results46, go_sem, z0, z1, z2]; done) | (simp [results, Try.results46, go_sem, z0, z1, z2]; rfl)) rfl ⟨t, _, rfl, ?_, HhF.out⟩
    repeat (first | exact HX1.out | refine Ext.alloc ?_ _ | refine Ext.setCell ?_ (by simp) _)
set_option maxRecDepth 100000 in
set_option maxHeartbeats 400000 in
theorem denoteFirst_calls (v : Value) (rs : List Rule) (nr B : Nat) (hl : rs.length ≤ 140737488351232) (w : World) (hB : w.cell? ⟨B, 0, none⟩ = some (.int .u32 (nr : Int))) (hv : RdR w 3 (IsR w) v rs) :
    Calls Try.prog 46 #[v, .func (.func 52) #[] #[.pointer (some ⟨B, 0, none⟩)]] w fun e w' =>
      ∃ (r : Rule) (u : Value), e = .returned (.tuple #[.agg #[.int .u32 (r.nr : Int), u, .int .u32 (r.action : Int)], .bool (decide (0 ≤ idxR nr rs 0))]) ∧ Ext w w' ∧ FndR w nr rs r u := by
  have hI := fun W (hx : Ext w W) => denoteIdx_calls v rs nr B hl W (hx.cell hB) (rdRR_ext hx hv)
  obtain ⟨a, c, rfl, hac, hca⟩ := rdR_cell hv
  clear hv hB
  rcases idxR_cases nr rs 0 with ⟨h1, -⟩ | ⟨i, hi, h1, -⟩
  · rw [h1] at hI
    rw [h1]
    have HhI := Lib.hid hI
    clear hI
    have Hh1 := Lib.hid h1
    clear h1
    clear hca
    go_enter Try.func46, Try.ntmps46
    go_wp2_with fail
    refine (HhI.out _ ((Ext.refl _).alloc _)).mono ?_
    rintro e w1 ⟨rfl, hx1⟩
    have z0 := hx1.cell (p := ⟨w.heap.size, 0, none⟩) (by simp [go_sem]; rfl)
    have z1 := hx1.cell (p := ⟨w.heap.size, 1, none⟩) (by simp [go_sem]; rfl)
    have z2 := hx1.cell (p := ⟨w.heap.size, 2, none⟩) (by simp [go_sem]; rfl)
    have hsz : w.heap.size < w1.heap.size := World.block_lt_of_cell? _ _ z0
    have hf : ∀ j, w1.frozen? ⟨w.heap.size, j, none⟩ = false := fun j => (World.frozen?_of_block (hx1.block (by simp))).trans (by simp [go_sem])
    have f0 := hf 0
    have f1 := hf 1
    have f2 := hf 2
    have HX1 := Lib.hid (((Ext.refl w).alloc _).trans hx1)
    clear hx1 hf
    go_wp2_with fail
    have hne : ¬ w.heap.size = w1.heap.size := by omega
    refine bodyPost_ret (v := .tuple #[.agg #[.int .u32 0, .slice none 0 0, .int .u32 0], .bool false]) (by first | (simp [results, Try.results46, go_sem, World.cell?_alloc_old, hne, z0, z1, z2]; done) | (simp [results, Try.results46, go_sem, World.cell?_alloc_old, hne, z0, z1, z2]; rfl)) rfl ⟨⟨0, [], 0⟩, _, rfl, ?_, .inl ⟨Hh1.out, rfl, rfl⟩⟩
    repeat (first | exact HX1.out | refine Ext.alloc ?_ _ | refine Ext.setCell ?_ (by simp) _)
  · have hi0 : (((0 + i : Nat) : Int)) = (i : Int) := by omega
    rw [hi0] at h1
    rw [h1] at hI
    rw [h1]
    obtain ⟨b, o, u, rfl, g0, g1, g2, g3⟩ := hca i hi
    have g3b := g3
    obtain ⟨au, cu, rfl, -, -⟩ := rdT_cell g3b
    clear g3b
    have hF : FndR w nr rs (rs[i]'hi) (.slice au (rs[i]'hi).tests.length cu) := .inr ⟨i, hi, h1, rfl, g3⟩
    generalize rs[i]'hi = t at *
    have HhI := Lib.hid hI
    clear hI
    have Hh1 := Lib.hid h1
    clear h1
    have HhF := Lib.hid hF
    clear hF
    have Hg3 := Lib.hid g3
    clear g3
    clear hca hi0
    have d0 : decide ((0 : Int) ≤ (i : Int)) = true := decide_eq_true (by omega)
    go_enter Try.func46, Try.ntmps46
    go_wp2_with fail
    refine (HhI.out _ ((Ext.refl _).alloc _)).mono ?_
    rintro e w1 ⟨rfl, hx1⟩
    have z0 := hx1.cell (p := ⟨w.heap.size, 0, none⟩) (by simp [go_sem]; rfl)
    have z1 := hx1.cell (p := ⟨w.heap.size, 1, none⟩) (by simp [go_sem]; rfl)
    have z2 := hx1.cell (p := ⟨w.heap.size, 2, none⟩) (by simp [go_sem]; rfl)
    have hsz : w.heap.size < w1.heap.size := World.block_lt_of_cell? _ _ z0
    have hf : ∀ j, w1.frozen? ⟨w.heap.size, j, none⟩ = false := fun j => (World.frozen?_of_block (hx1.block (by simp))).trans (by simp [go_sem])
    have f0 := hf 0
    have f1 := hf 1
    have f2 := hf 2
    have hxx := ((Ext.refl w).alloc (.cells #[.int .u32 0, .slice none 0 0, .int .u32 0] 34)).trans hx1
    replace g0 := hxx.cell g0
    replace g1 := hxx.cell g1
    replace g2 := hxx.cell g2
    have HX1 := Lib.hid hxx
    clear hx1 hf hxx
    go_wp2_with fail
    refine bodyPost_ret (v := .tuple #[.agg #[.int .u32 (t.nr : Int), .slice au t.tests.length cu, .int .u32 (t.action : Int)], .bool true]) (by first | (simp [results, Try.results46, go_sem, z0, z1, z2]; done) | (simp [results, Try.results46, go_sem, z0, z1, z2]; rfl)) rfl ⟨t, _, rfl, ?_, HhF.out⟩
    repeat (first | exact HX1.out | refine Ext.alloc ?_ _ | refine Ext.setCell ?_ (by simp) _)
end L21
end Go.Proofs.Ytkmhfjnjfghnjaa

