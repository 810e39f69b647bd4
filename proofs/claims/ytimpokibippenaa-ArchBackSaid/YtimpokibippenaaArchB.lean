/- Layer 8: the walks of Name, Token, Of64, All, In, Parse, and of the reference's Names, Parse, In. -/
import Derived.Test.YtimpokibippenaaArchA
namespace Go.Proofs.Ytimpokibippenaa
open Go.RowKit V
namespace L08
def nmE (k : Nat) : ByteArray := ⟨(anames.getD k []).toArray⟩
def nameB (l : List UInt8) (k : Nat) : Bool := anames.getD k [] == l
theorem nmE_list (k : Nat) : (nmE k).toList = anames.getD k [] := by rw [ByteArray.toList_eq]; unfold nmE; simp
theorem nmEq_calls (k : Nat) (tk : Nat) (s : ByteArray) (B : Nat) (w : World) (hB : w.cell? ⟨B, 0, none⟩ = some (.string s)) :
    Calls Try.prog 22 #[.agg #[.string (nmE k), .int .u32 (tk : Int)], .pointer (some ⟨B, 0, none⟩)] w fun e w' => e = .returned (.bool (nameB s.toList k)) ∧ Ext w w' := by
  have hlt : B < w.heap.size := World.block_lt_of_cell? _ _ hB
  have hq : ((nmE k).toList == s.toList) = nameB s.toList k := by rw [nmE_list]; rfl
  generalize nmE k = nm at *
  cases he : nameB s.toList k
  all_goals
    rw [he] at hq
    have Hhe := Lib.hid he
    clear he
    go_enter Try.func22, Try.ntmps22
    go_wp2
    go_ret
    exact ⟨rfl, (Ext.refl _).alloc _⟩
set_option maxRecDepth 100000 in
set_option maxHeartbeats 400000 in
theorem idxName_calls (g : Nat) (s : ByteArray) (B : Nat) (w : World) (hB : w.cell? ⟨B, 0, none⟩ = some (.string s)) (hc : ∀ i, i < 6 → w.cell? ⟨g, i * 2, none⟩ = some (.string ⟨(anames.getD i []).toArray⟩) ∧ w.cell? ⟨g, i * 2 + 1, none⟩ = some (.int .u32 (toks.getD i 0 : Nat))) :
    Calls Try.prog 26 #[.slice (some ⟨g, 0, none⟩) 6 6, .func (.func 22) #[] #[.pointer (some ⟨B, 0, none⟩)]] w fun e w' => e = .returned (.int .i64 (findFrom (nameB s.toList) 0)) ∧ Ext w w' := by
  have Hhc := Lib.hid hc
  clear hc
  have hB0 := hB
  have HhB0 := Lib.hid hB0
  clear hB0
  go_enter Try.func26, Try.ntmps26
  go_wp2
  go_loopw [8] (fun i wr => ∃ k : Nat, k ≤ 6 ∧ i = .int .i64 k ∧ Ext w wr ∧ findFrom (nameB s.toList) 0 = findFrom (nameB s.toList) k) (fun i _ => 6 - (intOf i).toNat)
  case atStart => exact ⟨0, by omega, rfl, Ext.refl _, rfl⟩
  case round =>
    obtain ⟨k, hk, rfl, hx, heq⟩ := hrel
    have HX := Lib.hid hx
    by_cases hlt : k < 6
    · obtain ⟨c1, c2⟩ := Hhc.out k hlt
      replace c1 := hx.cell c1; replace c2 := hx.cell c2
      have hb := hx.cell HhB0.out
      rw [findFrom_step hlt] at heq
      clear hx
      have hK := fun tk W (h : W.cell? ⟨B, 0, none⟩ = some (.string s)) => nmEq_calls k tk s B W h
      rw [show (⟨(anames.getD k []).toArray⟩ : ByteArray) = nmE k from rfl] at c1
      generalize nmE k = nm at *
      generalize toks.getD k 0 = tk at *
      cases he : nameB s.toList k
      all_goals
        rw [he] at hK heq
        have Hhe := Lib.hid he
        clear he
        have HhK := Lib.hid hK
        clear hK
        have Hheq := Lib.hid heq
        clear heq
        go_wp2_with (go_at_call 22; refine (HhK.out _ _ hb).mono ?_; rintro e w1 ⟨rfl, hx1⟩)
      · go_roundw
        case rel => exact ⟨k + 1, by omega, by go_num, HX.out.trans hx1, by rw [Hheq.out]; rfl⟩
        case measure => simp [intOf]; omega
      · go_ret
        exact ⟨by rw [Hheq.out]; rfl, HX.out.trans hx1⟩
    · obtain rfl : k = 6 := by omega
      rw [findFrom_end] at heq
      have Hheq := Lib.hid heq
      clear heq
      clear hx
      go_wp2
      go_ret
      exact ⟨by rw [Hheq.out]; rfl, HX.out⟩
set_option maxRecDepth 100000 in
theorem findName_calls (s : ByteArray) (B : Nat) (w : World) (hB : w.cell? ⟨B, 0, none⟩ = some (.string s)) :
    Calls Try.prog 21 #[.func (.func 22) #[] #[.pointer (some ⟨B, 0, none⟩)]] w fun e w' => e = .returned (.int .i64 (findFrom (nameB s.toList) 0)) ∧ Ext w w' := by
  go_enter Try.func21, Try.ntmps21
  go_wp2_with (go_at_call 23; refine (table_calls _).mono ?_; rintro e w1 ⟨rfl, hx1⟩; unfold tableV)
  refine (idxName_calls w1.heap.size s B _ ((hx1.alloc _).cell hB) (fun i hi => ?_)).mono ?_
  · rcases lt6 i hi with rfl | rfl | rfl | rfl | rfl | rfl <;> simp [go_sem, anames, toks]
  rintro e w2 ⟨rfl, hx2⟩
  go_wp2
  go_ret
  exact ⟨rfl, (hx1.alloc _).trans hx2⟩
def nat_ : List UInt8 := [110, 97, 116, 105, 118, 101]
/-- what architecture a name is -/
def parseA (l : List UInt8) : Int × Int := if (l == nat_) = true then (0, 0) else if findFrom (nameB l) 0 < 0 then (0, 80) else (findFrom (nameB l) 0, 0)
set_option maxRecDepth 100000 in
set_option maxHeartbeats 400000 in
theorem Parse_calls (s : ByteArray) (w : World) :
    Calls Try.prog 9 #[.string s] w fun e w' => e = .returned (.tuple #[.int .i64 (parseA s.toList).1, .int .i64 (parseA s.toList).2]) ∧ Ext w w' := by
  have hb := findFrom_bd (nameB s.toList)
  have hF := fun B W h => findName_calls s B W h
  cases hn : s.toList == [110, 97, 116, 105, 118, 101]
  case true =>
    have hA : parseA s.toList = (0, 0) := by unfold parseA nat_; rw [if_pos hn]
    rw [hA]
    have HhA := Lib.hid hA
    clear hA
    have HhF := Lib.hid hF
    clear hF
    go_enter Try.func9, Try.ntmps9
    go_wp2
    go_ret2
    exact ⟨rfl, (Ext.refl _).alloc _⟩
  case false =>
    by_cases h0 : findFrom (nameB s.toList) 0 < 0
    · have hA : parseA s.toList = (0, 80) := by unfold parseA nat_; rw [if_neg (by rw [hn]; simp), if_pos h0]
      rw [hA]
      generalize findFrom (nameB s.toList) 0 = f at *
      have hd : decide (f < 0) = true := decide_eq_true h0
      have HhA := Lib.hid hA
      clear hA
      have HhF := Lib.hid hF
      clear hF
      have Hh0 := Lib.hid h0
      clear h0
      go_enter Try.func9, Try.ntmps9
      go_wp2_with (go_at_call 21; refine (HhF.out _ _ (by simp [go_sem])).mono ?_; rintro e w1 ⟨rfl, hx1⟩)
      go_ret2
      exact ⟨rfl, ((Ext.refl _).alloc _).trans hx1⟩
    · have hA : parseA s.toList = (findFrom (nameB s.toList) 0, 0) := by unfold parseA nat_; rw [if_neg (by rw [hn]; simp), if_neg h0]
      rw [hA]
      dsimp only
      generalize findFrom (nameB s.toList) 0 = f at *
      have hd : decide (f < 0) = false := decide_eq_false h0
      have HhA := Lib.hid hA
      clear hA
      have HhF := Lib.hid hF
      clear hF
      have Hh0 := Lib.hid h0
      clear h0
      go_enter Try.func9, Try.ntmps9
      go_wp2_with (go_at_call 21; refine (HhF.out _ _ (by simp [go_sem])).mono ?_; rintro e w1 ⟨rfl, hx1⟩)
      go_ret2
      exact ⟨rfl, ((Ext.refl _).alloc _).trans hx1⟩
theorem refNames_calls (w : World) : Calls Try.prog 8 #[] w fun e w' => ∃ g, e = .returned (.slice (some ⟨g, 0, none⟩) 6 6) ∧ Ext w w' ∧ ∀ i, i < 6 → w'.cell? ⟨g, i, none⟩ = some (.string (nmE i)) := by
  go_enter Try.func8, Try.ntmps8
  go_wp2
  go_ret
  refine ⟨_, rfl, (Ext.refl _).alloc _, fun i hi => ?_⟩
  rcases lt6 i hi with rfl | rfl | rfl | rfl | rfl | rfl <;> simp [go_sem, nmE, anames]
theorem nat_none : findFrom (nameB nat_) 0 = -1 := by
  rw [findFrom_step (by omega), if_neg (by decide), findFrom_step (by omega), if_neg (by decide), findFrom_step (by omega), if_neg (by decide), findFrom_step (by omega), if_neg (by decide), findFrom_step (by omega), if_neg (by decide), findFrom_step (by omega), if_neg (by decide), findFrom_end]
set_option maxRecDepth 100000 in
set_option maxHeartbeats 400000 in
theorem refParse_calls (s : ByteArray) (w : World) :
    Calls Try.prog 10 #[.string s] w fun e w' => e = .returned (.tuple #[.int .i64 (parseA s.toList).1, .int .i64 (parseA s.toList).2]) ∧ Ext w w' := by
  go_enter Try.func10, Try.ntmps10
  go_wp2_with (go_at_call 8; refine (refNames_calls _).mono ?_; rintro e w1 ⟨g, rfl, hx1, hc⟩; have Hc := Lib.hid hc; clear hc)
  have HX1 := Lib.hid hx1
  clear hx1
  go_loop [5] (fun i => ∃ k : Nat, k ≤ 6 ∧ i = .int .i64 k ∧ findFrom (nameB s.toList) 0 = findFrom (nameB s.toList) k) (fun i => 6 - (intOf i).toNat)
  case atStart => exact ⟨0, by omega, rfl, rfl⟩
  case round =>
    obtain ⟨k, hk, rfl, heq⟩ := hrel
    by_cases hlt : k < 6
    · have ck := Hc.out k hlt
      have hst := findFrom_step (p := nameB s.toList) hlt
      rw [← heq] at hst
      have hq : ((nmE k).toList == s.toList) = nameB s.toList k := by rw [nmE_list]; rfl
      generalize nmE k = nm at *
      cases he : nameB s.toList k
      · rw [he, if_neg (by simp)] at hst
        rw [he] at hq
        have Hhe := Lib.hid he
        clear he
        have Hhst := Lib.hid hst
        clear hst
        have Hheq := Lib.hid heq
        clear heq
        go_wp2
        go_round
        case rel => exact ⟨k + 1, by omega, by go_num, Hhst.out⟩
        case measure => simp [intOf]; omega
      · rw [he, if_pos rfl] at hst
        rw [he] at hq
        have hA : parseA s.toList = ((k : Int), 0) := by
          unfold parseA
          rw [if_neg, hst, if_neg (by omega)]
          intro e
          have e2 := eq_of_beq e
          rw [e2, nat_none] at hst
          omega
        have Hhe := Lib.hid he
        clear he
        have Hhst := Lib.hid hst
        clear hst
        have Hheq := Lib.hid heq
        clear heq
        have HhA := Lib.hid hA
        clear hA
        go_wp2
        go_ret2
        exact ⟨by rw [HhA.out]; rfl, HX1.out⟩
    · obtain rfl : k = 6 := by omega
      rw [findFrom_end] at heq
      cases hn : s.toList == [110, 97, 116, 105, 118, 101]
      · have hA : parseA s.toList = (0, 80) := by unfold parseA nat_; rw [if_neg (by rw [hn]; simp), heq]; rfl
        have Hheq := Lib.hid heq
        clear heq
        have HhA := Lib.hid hA
        clear hA
        go_wp2
        go_ret2
        exact ⟨by rw [HhA.out]; rfl, HX1.out⟩
      · have hA : parseA s.toList = (0, 0) := by unfold parseA nat_; rw [if_pos hn]
        have Hheq := Lib.hid heq
        clear heq
        have HhA := Lib.hid hA
        clear hA
        go_wp2
        go_ret2
        exact ⟨by rw [HhA.out]; rfl, HX1.out⟩
end L08
end Go.Proofs.Ytimpokibippenaa
