/- Layer 25: the walk of the writer's done. -/
import Derived.Test.YtkmhfjnjfghnjaaWrD
namespace Go.Proofs.Ytkmhfjnjfghnjaa
open Go.RowKit V
namespace L25W
open L25 (Sy encY encY_len encY_one)
open L21 (own_set own_ext own_typed set_ne)
/-- what one closure does to the row, the labels' places being known -/
def patch (pt pe : Jm → Int) (ls : List Sy) (j : Jm) : List Sy :=
  match ls[j.at_]? with
  | none => ls
  | some s => ls.set j.at_ ⟨s.c, s.k, pt j, if j.code = 5 then s.el else pe j⟩
theorem patch_len (pt pe : Jm → Int) (ls : List Sy) (j : Jm) : (patch pt pe ls j).length = ls.length := by
  unfold patch; split <;> simp
theorem fold_len (pt pe : Jm → Int) : ∀ (js : List Jm) (ls : List Sy), (js.foldl (patch pt pe) ls).length = ls.length
  | [], _ => rfl
  | j :: js, ls => by rw [List.foldl_cons, fold_len pt pe js, patch_len]
theorem patch_at (pt pe : Jm → Int) {ls : List Sy} {j : Jm} (h : j.at_ < ls.length) : patch pt pe ls j = ls.set j.at_ ⟨(ls[j.at_]'h).c, (ls[j.at_]'h).k, pt j, if j.code = 5 then (ls[j.at_]'h).el else pe j⟩ := by
  unfold patch; rw [List.getElem?_eq_getElem h]
theorem fold_take (pt pe : Jm → Int) {js : List Jm} {k : Nat} (h : k < js.length) (ls : List Sy) : (js.take (k + 1)).foldl (patch pt pe) ls = patch pt pe ((js.take k).foldl (patch pt pe) ls) (js[k]'h) := by
  rw [List.take_succ_eq_append_getElem h, List.foldl_append]; rfl
/-- the labels that jumps lead to have their places -/
def Labs (W : World) (pt pe : Jm → Int) (js : List Jm) : Prop := ∀ j ∈ js, Boxed W j.th 98 (.int .i64 (pt j)) ∧ (j.code = 5 ∨ ∃ eb, j.el = some eb ∧ Boxed W eb 98 (.int .i64 (pe j)))
theorem Labs.kept {W W' : World} {pt pe : Jm → Int} {js : List Jm} (h : Labs W pt pe js) (hk : WK (fun _ => False) W W') : Labs W' pt pe js := fun j hj => by
  obtain ⟨h1, h2⟩ := h j hj
  refine ⟨hkb hk h1 (fun h => h.elim), ?_⟩
  rcases h2 with h2 | ⟨eb, h2, h3⟩
  · exact .inl h2
  · exact .inr ⟨eb, h2, hkb hk h3 (fun h => h.elim)⟩
set_option maxRecDepth 100000 in
set_option maxHeartbeats 1000000 in
theorem done_calls {w0 W : World} {B : Nat} {v v2 : Value} {ls : List Sy} {js : List Jm} (h : WS w0 B v v2 ls js W) (hl : ls.length ≤ 1000000) (hjl : js.length ≤ 1000000) (pt pe : Jm → Int) (hlab : Labs W pt pe js) :
    Calls Try.prog 71 #[pv B] W fun e w' => e = .returned v ∧ WS w0 B v v2 (js.foldl (patch pt pe) ls) js w' ∧ WK (fun _ => False) W w' := by
  have HS := Lib.hid h
  have HL := Lib.hid hlab
  have b1 := h.b1
  obtain ⟨au, cu, rfl⟩ := own_form h.own
  obtain ⟨au2, cu2, rfl⟩ := own_form h.late
  clear h hlab
  unfold pv
  go_enter Try.func71, Try.ntmps71
  go_wp2_with fail
  go_loopw [10] (fun i wr => ∃ k : Nat, k ≤ js.length ∧ i = .int .i64 k ∧ WS w0 B (.slice au ls.length cu) (.slice au2 js.length cu2) ((js.take k).foldl (patch pt pe) ls) js wr ∧ WK (fun _ => False) W wr) (fun i _ => js.length - (intOf i).toNat)
  case atStart => exact ⟨0, by omega, rfl, HS.out, WK.refl _ _⟩
  case round =>
    obtain ⟨k, hk, rfl, hs, hkw⟩ := hrel
    clear b1
    have b0 := hs.b0
    have hlen : ((js.take k).foldl (patch pt pe) ls).length = ls.length := fold_len _ _ _ _
    by_cases hlt : k < js.length
    · have hlt2 : (k : Int) < (js.length : Int) := by omega
      obtain ⟨a', c', e', -, -, hcell⟩ := rd_of_own encJ_len hs.late
      simp only [Value.slice.injEq] at e'
      obtain ⟨rfl, -, rfl⟩ := e'
      obtain ⟨g2, o2, rfl, hc⟩ := hcell k hlt
      have c0 := hc 0 (by rw [encJ_len]; decide)
      obtain ⟨hjo, hja⟩ := hs.jok _ (List.getElem_mem hlt)
      have hlb := (HL.out.kept hkw) _ (List.getElem_mem hlt)
      have hft := fold_take pt pe hlt ls
      obtain ⟨j, hj⟩ : ∃ j, j = js[k]'hlt := ⟨_, rfl⟩
      rw [← hj] at c0 hjo hja hlb hft
      have hP := patch_calls hs hjo hja (by omega) (pt j) (pe j) hlb.1 hlb.2
      rw [← patch_at pt pe hja, ← hft] at hP
      simp only [encJ, Jm.val, List.getElem_cons_zero, Nat.mul_one, Nat.add_zero] at c0
      have HP := Lib.hid hP
      have HKW := Lib.hid hkw
      clear hs hjo hja hlb hft hP hc hcell hkw hj
      unfold pv at c0
      go_wp2_with fail
      refine HP.out.mono ?_
      rintro e w' ⟨rfl, hs', hk'⟩
      have HH := Lib.hid (And.intro hs' (HKW.out.trans hk'))
      clear hs' hk'
      go_wp2_with fail
      go_roundw
      case rel => exact ⟨k + 1, by omega, by go_num, HH.out⟩
      case measure => simp [intOf]; omega
    · obtain rfl : k = js.length := by omega
      rw [List.take_length] at hs
      have HH := Lib.hid (And.intro hs hkw)
      clear hs hkw
      go_wp2_with fail
      go_ret
      exact ⟨rfl, HH.out⟩
end L25W
end Go.Proofs.Ytkmhfjnjfghnjaa
