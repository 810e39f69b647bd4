/- Layer 14: the first drop-in whose name may not be. -/
import Derived.Test.YtkmbahpjioopdaaDropC
namespace Go.Proofs.Ytkmbahpjioopdaa
open Go.RowKit V
attribute [local go_sem] Oper.semAt_some Option.isSome_some
namespace L12
theorem bytes_strD (l : List UInt8) : bytes (str l) = l := by simp [bytes]
theorem str_sizeD (l : List UInt8) : (str l).size = l.length := by simp [ByteArray.size]
set_option maxHeartbeats 1000000 in
theorem wrong1_calls (p : PF) (hn : p.nm.length ≤ maxLen) (w : World) :
    Calls Try.prog 37 #[fV p] w fun e w' => e = .returned (.bool (!mayN p.nm)) ∧ Ext w w' := by
  have hM := fun W => May_calls (str p.nm) (by rw [str_sizeD]; exact hn) W
  rw [bytes_strD] at hM
  have m0 := blk_cell (heap_alloc_new w (.cells #[.string (str p.nm), .int .i64 p.dir, .slice p.a p.bs.length p.c] 24)) 0
  have hx1 : Ext w (w.alloc (.cells #[.string (str p.nm), .int .i64 p.dir, .slice p.a p.bs.length p.c] 24)) := (Ext.refl _).alloc _
  have HX1 := Lib.hid hx1
  unfold fV
  simp at m0
  have HhM := Lib.hid hM
  clear hM
  clear hx1
  go_enter Try.func37, Try.ntmps37
  go_wp2_with fail
  refine (HhM.out _).mono ?_
  rintro e w1 ⟨rfl, hx⟩
  go_wp2_with fail
  go_ret
  exact ⟨rfl, HX1.out.trans hx⟩
def idxW : List PF → Nat → Int
  | [], _ => -1
  | p :: r, k => if mayN p.nm = true then idxW r (k + 1) else (k : Int)
theorem idxW_all : ∀ (l : List PF) (k : Nat), (l.map PF.f).all (fun f => mayN f.1) = true → idxW l k = -1
  | [], _, _ => rfl
  | p :: r, k, h => by
    rw [List.map_cons, List.all_cons, Bool.and_eq_true] at h
    unfold idxW
    rw [if_pos (show mayN p.nm = true from h.1)]
    exact idxW_all r (k + 1) h.2
theorem idxW_some : ∀ (l : List PF) (k : Nat), (l.map PF.f).all (fun f => mayN f.1) = false → ∃ i, ∃ h : i < l.length, idxW l k = ((k + i : Nat) : Int) ∧ (l.map PF.f).find? (fun f => !mayN f.1) = some l[i].f
  | [], k, h => by cases h
  | p :: r, k, h => by
    rw [List.map_cons, List.all_cons] at h
    unfold idxW
    rw [List.map_cons, List.find?_cons]
    have e : p.f.1 = p.nm := rfl
    rw [e] at h ⊢
    cases hm : mayN p.nm
    · rw [if_neg (by simp)]
      exact ⟨0, by simp, rfl, rfl⟩
    · rw [if_pos rfl]
      rw [hm, Bool.true_and] at h
      obtain ⟨i, hi, h1, h2⟩ := idxW_some r (k + 1) h
      exact ⟨i + 1, by simp; omega, by rw [h1]; congr 1; omega, h2⟩
set_option maxHeartbeats 2000000 in
theorem IndexFunc_calls (v : Value) (ps : List PF) (hl : ps.length ≤ 1000000) (hn : ∀ p ∈ ps, p.nm.length ≤ maxLen) (w : World) (hv : Rd w 3 encF v ps) :
    Calls Try.prog 36 #[v, .func (.func 37) #[] #[]] w fun e w' => e = .returned (.int .i64 (idxW ps 0)) ∧ Ext w w' := by
  have hW := fun p (hp : p ∈ ps) W => wrong1_calls p (hn p hp) W
  obtain ⟨a, c, rfl, hac, hca⟩ := rdF_cell hv
  clear hv
  unfold fV at hW
  have HhW := Lib.hid hW
  clear hW
  have Hhca := Lib.hid hca
  clear hca
  go_enter Try.func36, Try.ntmps36
  go_wp2_with fail
  go_loopw [5, 8] (fun _ i wr => ∃ k : Nat, k ≤ ps.length ∧ i = .int .i64 k ∧ Ext w wr ∧ idxW ps 0 = idxW (ps.drop k) k) (fun _ i _ => ps.length - (intOf i).toNat)
  case atStart => exact ⟨0, by omega, rfl, Ext.refl _, rfl⟩
  case round =>
    obtain ⟨k, hk, rfl, hx, heq⟩ := hrel
    have HX := Lib.hid hx
    have HE := Lib.hid heq
    clear hx heq
    by_cases hlt : k < ps.length
    · obtain ⟨b, o, rfl, c0, c1, c2⟩ := Hhca.out k hlt
      replace c0 := HX.out.cell c0; replace c1 := HX.out.cell c1; replace c2 := HX.out.cell c2
      have hst : ps.drop k = ps[k] :: ps.drop (k + 1) := List.drop_eq_getElem_cons hlt
      have HST := Lib.hid hst
      have hWk := HhW.out ps[k] (List.getElem_mem hlt)
      have HWK := Lib.hid hWk
      clear hst hWk
      generalize ps[k] = p at *
      go_wp2_with fail
      refine (HWK.out _).mono ?_
      rintro e w1 ⟨rfl, hx1⟩
      have HX1 := Lib.hid (HX.out.trans hx1)
      clear hx1 c0 c1 c2
      cases hm : mayN p.nm
      · have hs : idxW ps 0 = (k : Int) := by rw [HE.out, HST.out]; unfold idxW; rw [hm]; rfl
        have HS := Lib.hid hs
        clear hs
        go_wp2_with fail
        go_ret
        rw [HS.out]; exact ⟨rfl, HX1.out⟩
      · have hs : idxW ps 0 = idxW (ps.drop (k + 1)) (k + 1) := by rw [HE.out, HST.out]; conv => lhs; unfold idxW; rw [hm]; simp
        have HS := Lib.hid hs
        clear hs
        go_wp2_with fail
        go_roundw
        case rel => exact ⟨k + 1, by omega, by go_num, HX1.out, HS.out⟩
        case measure => simp [intOf]; omega
    · obtain rfl : k = ps.length := by omega
      have hs : idxW ps 0 = -1 := by rw [HE.out, List.drop_length]; rfl
      have HS := Lib.hid hs
      clear hs
      go_wp2_with fail
      go_ret
      rw [HS.out]; exact ⟨rfl, HX.out⟩
set_option maxHeartbeats 1000000 in
theorem wrong14_calls (v : Value) (ps : List PF) (hl : ps.length ≤ 1000000) (hn : ∀ p ∈ ps, p.nm.length ≤ maxLen) (w : World) (hv : Rd w 3 encF v ps) :
    Calls Try.prog 22 #[v] w fun e w' => e = .returned (.int .i64 (idxW ps 0)) ∧ Ext w w' := by
  have hI := IndexFunc_calls v ps hl hn w hv
  have HhI := Lib.hid hI
  clear hI
  generalize idxW ps 0 = r at *
  go_enter Try.func22, Try.ntmps22
  go_wp2_with fail
  refine HhI.out.mono ?_
  rintro e w1 ⟨rfl, hx⟩
  go_wp2_with fail
  go_ret
  exact ⟨rfl, hx⟩
end L12
end Go.Proofs.Ytkmbahpjioopdaa
