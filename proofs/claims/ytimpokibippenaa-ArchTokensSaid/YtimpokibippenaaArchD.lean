/- Layer 8: the walks of All, of In and what it calls, and of the reference's In. -/
import Derived.Test.YtimpokibippenaaArchB
namespace Go.Proofs.Ytimpokibippenaa
open Go.RowKit V
namespace L08
def encI (i : Int) : List Value := [.int .i64 i]
theorem encI_len (x : Int) : (encI x).length = 1 := rfl
theorem encI_one (x : Int) : ∀ u ∈ encI x, u.oneCell' = true := by intro u hu; simp [encI] at hu; subst hu; rfl
theorem infoI : (Try.prog.info? 3).map (fun i => (i.zero, i.size, i.bytes)) = some (some (.int .i64 0), 1, 8) := by kernel_rfl
theorem rdI_lit (W : World) (xs : List Int) (t g : Nat) (hg : g = W.heap.size) : Rd (W.alloc (.cells (xs.flatMap encI).toArray t)) 1 encI (.slice (some ⟨g, 0, none⟩) xs.length xs.length) xs := rd_lit encI_len W xs t g hg
theorem rdI_cell {w : World} {v : Value} {xs : List Int} (h : Rd w 1 encI v xs) : ∃ a c, v = .slice a xs.length c ∧ xs.length ≤ c ∧ ∀ i, (hi : i < xs.length) → ∃ b o, a = some ⟨b, o, none⟩ ∧ w.cell? ⟨b, o + i, none⟩ = some (.int .i64 xs[i]) := by
  obtain ⟨a, c, h1, h2, h3, h4⟩ := h
  refine ⟨a, c, h1, h2, fun i hi => ?_⟩
  obtain ⟨b, o, e, k⟩ := h4 i hi
  have := k 0 (by simp [encI])
  rw [Nat.mul_one] at this
  exact ⟨b, o, e, this⟩
/-- the place of the first one that is a number -/
def idxI (a : Int) : List Int → Nat → Int
  | [], _ => -1
  | x :: r, k => if (a == x) = true then (k : Int) else idxI a r (k + 1)
theorem idxI_step {a : Int} {xs : List Int} {k : Nat} (h : k < xs.length) : idxI a (xs.drop k) k = if (a == xs[k]) = true then (k : Int) else idxI a (xs.drop (k + 1)) (k + 1) := by
  rw [List.drop_eq_getElem_cons h]; rfl
theorem idxI_end (a : Int) (xs : List Int) (k : Nat) : idxI a (xs.drop xs.length) k = -1 := by rw [List.drop_length]; rfl
theorem idxI_mem (a : Int) : ∀ (xs : List Int) (k : Nat), decide (0 ≤ idxI a xs k) = xs.contains a
  | [], k => rfl
  | x :: r, k => by
    unfold idxI
    rw [List.contains_cons]
    cases h : a == x
    · rw [if_neg (by simp), idxI_mem a r (k + 1)]; rfl
    · rw [if_pos rfl]; simp
set_option maxRecDepth 100000 in
set_option maxHeartbeats 400000 in
theorem IndexI_calls (v : Value) (xs : List Int) (a : Int) (hl : xs.length ≤ 140737488351232) (w : World) (hv : Rd w 1 encI v xs) :
    Calls Try.prog 27 #[v, .int .i64 a] w fun e w' => e = .returned (.int .i64 (idxI a xs 0)) ∧ Ext w w' := by
  obtain ⟨ad, c, rfl, hac, hca⟩ := rdI_cell hv
  clear hv
  have Hhca := Lib.hid hca
  clear hca
  go_enter Try.func27, Try.ntmps27
  go_wp2
  go_loopw [8] (fun i wr => ∃ k : Nat, k ≤ xs.length ∧ i = .int .i64 k ∧ Ext w wr ∧ idxI a xs 0 = idxI a (xs.drop k) k) (fun i _ => xs.length - (intOf i).toNat)
  case atStart => exact ⟨0, by omega, rfl, Ext.refl _, rfl⟩
  case round =>
    obtain ⟨k, hk, rfl, hx, heq⟩ := hrel
    have HX := Lib.hid hx
    by_cases hlt : k < xs.length
    · obtain ⟨b, o, rfl, h1⟩ := Hhca.out k hlt
      replace h1 := hx.cell h1
      rw [idxI_step hlt] at heq
      clear hx
      generalize xs[k] = x at *
      cases he : a == x
      · rw [he, if_neg (by simp)] at heq
        have Hheq := Lib.hid heq
        clear heq
        go_wp2_with (go_quiet (fail))
        go_roundw
        case rel => exact ⟨k + 1, by omega, by go_num, (by repeat (first | exact HX.out | apply Ext.drewN | apply Ext.alloc | apply Ext.drew)), Hheq.out⟩
        case measure => simp [intOf]; omega
      · rw [he, if_pos rfl] at heq
        have Hheq := Lib.hid heq
        clear heq
        go_wp2_with (go_quiet (fail))
        go_ret
        exact ⟨by rw [Hheq.out]; rfl, (by repeat (first | exact HX.out | apply Ext.drewN | apply Ext.alloc | apply Ext.drew))⟩
    · obtain rfl : k = xs.length := by omega
      rw [idxI_end] at heq
      have Hheq := Lib.hid heq
      clear heq
      clear hx
      go_wp2
      go_ret
      exact ⟨by rw [Hheq.out]; rfl, HX.out⟩
theorem ContainsI_calls (v : Value) (xs : List Int) (a : Int) (hl : xs.length ≤ 140737488351232) (w : World) (hv : Rd w 1 encI v xs) :
    Calls Try.prog 25 #[v, .int .i64 a] w fun e w' => e = .returned (.bool (xs.contains a)) ∧ Ext w w' := by
  have hI := IndexI_calls v xs a hl w hv
  have hm := idxI_mem a xs 0
  rw [← hm]
  generalize idxI a xs 0 = q at *
  obtain ⟨ad, c, rfl, -⟩ := rdI_cell hv
  have Hhm := Lib.hid hm
  clear hm
  have HhI := Lib.hid hI
  clear hI
  go_enter Try.func25, Try.ntmps25
  go_wp2_with (go_at_call 27; refine HhI.out.mono ?_; rintro e w1 ⟨rfl, hx1⟩)
  go_ret
  exact ⟨rfl, hx1⟩
/-- is an architecture in a list? -/
def inA (xs : List Int) (a : Int) : Bool := decide (xs.length = 0) || xs.contains a
set_option maxRecDepth 100000 in
theorem In_calls (v : Value) (xs : List Int) (a : Int) (hl : xs.length ≤ 140737488351232) (w : World) (hv : Rd w 1 encI v xs) :
    Calls Try.prog 14 #[v, .int .i64 a] w fun e w' => e = .returned (.bool (inA xs a)) ∧ Ext w w' := by
  have hC := ContainsI_calls v xs a hl w hv
  obtain ⟨ad, c, rfl, -⟩ := rdI_cell hv
  by_cases h0 : xs.length = 0
  · have hA : inA xs a = true := by unfold inA; rw [decide_eq_true h0]; rfl
    have hd : ((xs.length : Int) == 0) = true := by rw [h0]; rfl
    rw [hA]
    have HhA := Lib.hid hA
    clear hA
    have Hh0 := Lib.hid h0
    clear h0
    have HhC := Lib.hid hC
    clear hC
    go_enter Try.func14, Try.ntmps14
    go_wp2
    go_ret
    exact ⟨rfl, Ext.refl _⟩
  · have hA : inA xs a = xs.contains a := by unfold inA; rw [decide_eq_false h0]; rfl
    have hd : ((xs.length : Int) == 0) = false := beq_eq_false_iff_ne.2 (by omega)
    rw [hA]
    generalize xs.contains a = r at *
    have HhA := Lib.hid hA
    clear hA
    have Hh0 := Lib.hid h0
    clear h0
    have HhC := Lib.hid hC
    clear hC
    go_enter Try.func14, Try.ntmps14
    go_wp2_with (go_at_call 25; refine HhC.out.mono ?_; rintro e w1 ⟨rfl, hx1⟩)
    go_ret
    exact ⟨rfl, hx1⟩
def inR (a : Int) : List Int → Bool
  | [] => false
  | x :: r => (x == a) || inR a r
theorem inR_step {a : Int} {xs : List Int} {k : Nat} (h : k < xs.length) : inR a (xs.drop k) = ((xs[k] == a) || inR a (xs.drop (k + 1))) := by
  rw [List.drop_eq_getElem_cons h]; rfl
theorem inR_eq (a : Int) : ∀ xs : List Int, inR a xs = xs.contains a
  | [] => rfl
  | x :: r => by rw [List.contains_cons]; unfold inR; rw [inR_eq a r]; congr 1; rw [Bool.eq_iff_iff]; simp; exact eq_comm
set_option maxRecDepth 100000 in
set_option maxHeartbeats 400000 in
theorem refIn_calls (v : Value) (xs : List Int) (a : Int) (hl : xs.length ≤ 140737488351232) (w : World) (hv : Rd w 1 encI v xs) :
    Calls Try.prog 20 #[v, .int .i64 a] w fun e w' => e = .returned (.bool (inA xs a)) ∧ Ext w w' := by
  obtain ⟨ad, c, rfl, hac, hca⟩ := rdI_cell hv
  clear hv
  have Hhca := Lib.hid hca
  clear hca
  have hA : inA xs a = (decide (xs.length = 0) || inR a xs) := by rw [inR_eq]; rfl
  rw [hA]
  have HhA := Lib.hid hA
  clear hA
  go_enter Try.func20, Try.ntmps20
  go_wp2
  go_loopw [5] (fun i wr => ∃ k : Nat, k ≤ xs.length ∧ i = .int .i64 k ∧ Ext w wr ∧ inR a xs = inR a (xs.drop k)) (fun i _ => xs.length - (intOf i).toNat)
  case atStart => exact ⟨0, by omega, rfl, Ext.refl _, rfl⟩
  case round =>
    obtain ⟨k, hk, rfl, hx, heq⟩ := hrel
    have HX := Lib.hid hx
    by_cases hlt : k < xs.length
    · obtain ⟨b, o, rfl, h1⟩ := Hhca.out k hlt
      replace h1 := hx.cell h1
      rw [inR_step hlt] at heq
      clear hx
      generalize xs[k] = x at *
      cases he : x == a
      · rw [he, Bool.false_or] at heq
        have Hheq := Lib.hid heq
        clear heq
        go_wp2_with (go_quiet (fail))
        go_roundw
        case rel => exact ⟨k + 1, by omega, by go_num, (by repeat (first | exact HX.out | apply Ext.drewN | apply Ext.alloc | apply Ext.drew)), Hheq.out⟩
        case measure => simp [intOf]; omega
      · rw [he, Bool.true_or] at heq
        have Hheq := Lib.hid heq
        clear heq
        go_wp2_with (go_quiet (fail))
        go_ret
        exact ⟨by rw [Hheq.out]; simp, (by repeat (first | exact HX.out | apply Ext.drewN | apply Ext.alloc | apply Ext.drew))⟩
    · obtain rfl : k = xs.length := by omega
      rw [List.drop_length] at heq
      by_cases h0 : xs.length = 0
      · have hd : ((xs.length : Int) == 0) = true := by rw [h0]; rfl
        have hr : (decide (xs.length = 0) || inR a xs) = true := by rw [decide_eq_true h0]; rfl
        have Hheq := Lib.hid heq
        clear heq
        have Hh0 := Lib.hid h0
        clear h0
        have Hhr := Lib.hid hr
        clear hr
        clear hx
        go_wp2
        go_ret
        exact ⟨by rw [Hhr.out]; rfl, HX.out⟩
      · have hd : ((xs.length : Int) == 0) = false := beq_eq_false_iff_ne.2 (by omega)
        have hr : (decide (xs.length = 0) || inR a xs) = false := by rw [decide_eq_false h0, heq]; rfl
        have Hheq := Lib.hid heq
        clear heq
        have Hh0 := Lib.hid h0
        clear h0
        have Hhr := Lib.hid hr
        clear hr
        clear hx
        go_wp2
        go_ret
        exact ⟨by rw [Hhr.out]; rfl, HX.out⟩
set_option maxRecDepth 100000 in
set_option maxHeartbeats 400000 in
theorem All_calls (w : World) :
    Calls Try.prog 15 #[] w fun e w' => ∃ g c, e = .returned (.slice (some ⟨g, 0, none⟩) 6 c) ∧ Ext w w' ∧ ∀ i, i < 6 → w'.cell? ⟨g, i, none⟩ = some (.int .i64 (i : Int)) := by
  go_enter Try.func15, Try.ntmps15
  go_wp2
  go_loopw [1, 3] (fun u i wr => ∃ k : Nat, k ≤ 6 ∧ i = .int .i64 k ∧ Ext w wr ∧ ∃ a c, u = .slice a k c ∧ wr.ownsRow w.heap.size 3 1 (.slice a k c) k (((List.range k).map fun j : Nat => (j : Int)).flatMap encI)) (fun _ i _ => 6 - (intOf i).toNat)
  case atStart => exact ⟨0, by omega, rfl, Ext.refl _, none, 0, rfl, World.ownsRow_nil _ _ _ _⟩
  case round =>
    obtain ⟨k, hk, rfl, hx, a, c, rfl, hown⟩ := hrel
    have HX := Lib.hid hx
    have HO := Lib.hid hown
    clear hx
    by_cases hlt : k < 6
    · have hlr : ((List.range k).map fun j : Nat => (j : Int)).length = k := by simp
      have hl2 : ((List.range k).map fun j : Nat => (j : Int)).length + [(k : Int)].length = k + 1 := by simp
      have hr2 : (((List.range k).map fun j : Nat => (j : Int)) ++ [(k : Int)]) = ((List.range (k + 1)).map fun j : Nat => (j : Int)) := by rw [List.range_succ]; simp
      have Hhlr := Lib.hid hlr
      clear hlr
      have Hhr2 := Lib.hid hr2
      clear hr2
      clear hown
      go_wp2_with (at_builtin; refine wpList_app_rd rfl (.tmp 6) (.tmp 8) _ rfl Try.underlying36 infoI rfl (by decide) encI_len encI_one w _ _ ((List.range k).map fun j : Nat => (j : Int)) [(k : Int)] rfl rfl (by rw [Hhlr.out]; exact World.ownsRow.alloc HO.out _) (rdI_lit _ [(k : Int)] _ _ rfl) (by rw [hl2]; omega) (by decide) (by repeat (first | exact HX.out | apply Ext.alloc)) ?_; intro a2 c2 w2 ho2 hx2; rw [hl2, Hhr2.out] at ho2; rw [hl2])
      go_roundw
      case rel => exact ⟨k + 1, by omega, by go_num, hx2, a2, c2, rfl, ho2⟩
      case measure => simp [intOf]; omega
    · obtain rfl : k = 6 := by omega
      clear hown
      go_wp2
      go_ret
      have hrd := rd_of_own (n := 1) (enc := encI) (xs := (List.range 6).map fun j : Nat => (j : Int)) encI_len (by simpa using HO.out)
      obtain ⟨g, c', e, -, h4⟩ := rdI_cell hrd
      simp only [Value.slice.injEq] at e
      obtain ⟨rfl, -, rfl⟩ := e
      obtain ⟨b, o, rfl, -⟩ := h4 0 (by simp)
      have hb0 : o = 0 := by
        rcases HO.out.2 with ⟨hv, _⟩ | ⟨g, cap, cur, hv, _⟩
        · cases hv
        · simp only [Value.slice.injEq, Option.some.injEq, Addr.mk.injEq] at hv; exact hv.1.2.1
      subst hb0
      refine ⟨b, c, rfl, HX.out, fun i hi => ?_⟩
      obtain ⟨b', o', e', h5⟩ := h4 i (by simpa using hi)
      obtain ⟨rfl, rfl⟩ : b = b' ∧ 0 = o' := by simpa using e'
      rw [Nat.zero_add] at h5
      simpa using h5
end L08
end Go.Proofs.Ytimpokibippenaa
