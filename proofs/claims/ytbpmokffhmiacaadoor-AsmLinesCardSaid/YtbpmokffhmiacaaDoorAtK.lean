/- Layer 7: the walks of the law's refused and awake. -/
import Derived.Test.YtbpmokffhmiacaaDoorKept
import Derived.Test.YtbpmokffhmiacaaDoorAtJ
import Derived.Test.YtbpmokffhmiacaaDoorAtK0
namespace Go.Proofs.YtbpmokffhmiacaaDoor
open Go.RowKit Go.Shelf Go.Sort V
attribute [local go_sem] Oper.semAt_some
namespace L07
set_option maxRecDepth 100000 in
theorem refused_calls (s : List UInt8) (hs : s.length ≤ 100000) (hn : parseA s = none) (w : World) (ht : Tb w) :
    Calls Tryd.prog 35 #[.string (str s)] w fun e w' => e = .returned (.bool true) ∧ Ext w w' := by
  have hP : Calls Tryd.prog 18 #[.string (str s)] w fun e w' => e = .returned (.tuple #[.slice none 0 0, .int .i64 70]) ∧ Ext w w' := (Parse_calls s hs w ht).mono fun e w' ⟨hx, h⟩ => by
    rcases h with ⟨p, v, h1, -⟩ | ⟨-, rfl⟩
    · rw [hn] at h1; cases h1
    · exact ⟨rfl, hx⟩
  generalize str s = t at *
  have HhP := Lib.hid hP
  clear hP
  clear ht hn
  go_enter Tryd.func35, Tryd.ntmps35
  go_wp2_with (go_at_call 18; refine HhP.out.mono ?_; rintro e w1 ⟨rfl, hx1⟩)
  go_ret
  exact ⟨rfl, hx1⟩
theorem okA : ∀ i ∈ exA, OkN i := by
  intro i hi
  simp only [exA, List.mem_cons, List.not_mem_nil, or_false] at hi
  rcases hi with rfl | rfl | rfl | rfl <;> exact ⟨by decide, by decide, by decide, by decide⟩
theorem okB : ∀ i ∈ exB, OkN i := by
  intro i hi
  simp only [exB, List.mem_cons, List.not_mem_nil, or_false] at hi
  rcases hi with rfl | rfl <;> exact ⟨by decide, by decide, by decide, by decide⟩
theorem TextA (w : World) (ht : Tab w) (v : Value) (hv : Rd w 4 encN v exA) :
    Calls Tryd.prog 11 #[v] w fun e w' => Ext w w' ∧ e = .returned (.tuple #[.string ⟨#[108, 100, 97, 98, 115, 32, 52, 10, 106, 101, 113, 32, 53, 32, 76, 50, 32, 76, 51, 10, 76, 50, 58, 10, 114, 101, 116, 32, 55, 10, 76, 51, 58, 10, 114, 101, 116, 32, 48, 10]⟩, .int .i64 0]) := by
  have h := Text_calls exA v okA (by decide) w ht hv
  rw [if_pos exA_can, exA_text] at h
  exact h
theorem TextB (w : World) (ht : Tab w) (v : Value) (hv : Rd w 4 encN v exB) :
    Calls Tryd.prog 11 #[v] w fun e w' => Ext w w' ∧ e = .returned (.tuple #[.string ⟨#[116, 97, 120, 10, 110, 101, 103, 10]⟩, .int .i64 0]) := by
  have h := Text_calls exB v okB (by decide) w ht hv
  rw [if_pos exB_can, exB_text] at h
  exact h
theorem TextN (w : World) (ht : Tab w) :
    Calls Tryd.prog 11 #[.slice none 0 0] w fun e w' => Ext w w' ∧ e = .returned (.tuple #[.string ⟨#[]⟩, .int .i64 0]) := by
  have h := Text_calls [] (.slice none 0 0) (fun _ h => by cases h) (by decide) w ht ⟨none, 0, rfl, Nat.le_refl _, fun _ => rfl, fun i hi => absurd hi (Nat.not_lt_zero i)⟩
  rw [if_pos (by decide +kernel)] at h
  exact h
theorem ParseC (w : World) (ht : Tb w) :
    Calls Tryd.prog 18 #[.string ⟨#[114, 101, 116, 32, 49, 10]⟩] w fun e w' => Ext w w' ∧ ∃ b o c, e = .returned (.tuple #[.slice (some ⟨b, o, none⟩) 1 c, .int .i64 0]) ∧ w'.cell? ⟨b, o + 3, none⟩ = some (.int .u32 1) := by
  refine (Parse_calls [114, 101, 116, 32, 49, 10] (by decide) w ht).mono fun e w' ⟨hx, h⟩ => ⟨hx, ?_⟩
  rcases h with ⟨p, v, h1, rfl, h2, -⟩ | ⟨h1, -⟩
  · rw [exC] at h1
    cases h1
    obtain ⟨a, c, rfl, -, h3⟩ := rdI_cell h2
    obtain ⟨b, o, rfl, -, -, -, h4⟩ := h3 0 (by decide)
    exact ⟨b, o, c, rfl, h4⟩
  · rw [exC] at h1; cases h1
set_option maxRecDepth 100000 in
set_option maxHeartbeats 8000000 in
theorem awake_calls (w : World) (ht : Tb w) : Calls Tryd.prog 16 #[] w fun e w' => e = .returned (.bool true) ∧ Ext w w' := by
  have HT := Lib.hid ht
  clear ht
  go_enter Tryd.func16, Tryd.ntmps16
  go_upto_region 2 with (go_at_call 11; refine (TextA _ (HT.out.tab.ext ((Ext.refl w).alloc _)) _ (rd_lit encN_len w exA 25 _ rfl)).mono ?_; rintro e w1 ⟨hx1, rfl⟩; have HX1 := Lib.hid (((Ext.refl w).alloc _).trans hx1); clear hx1)
  go_upto_region 3 with (go_at_call 11; refine (TextN _ (HT.out.tab.ext HX1.out)).mono ?_; rintro e w2 ⟨hx2, rfl⟩; have HX2 := Lib.hid (HX1.out.trans hx2); clear hx2)
  go_upto_region 4 with (go_at_call 11; refine (TextB _ (HT.out.tab.ext (HX2.out.alloc _)) _ (rd_lit encN_len w2 exB 25 _ rfl)).mono ?_; rintro e w3 ⟨hx3, rfl⟩; have HX3 := Lib.hid ((HX2.out.alloc _).trans hx3); clear hx3)
  go_upto_region 5 with (go_at_call 18; refine (ParseC _ (HT.out.ext HX3.out)).mono ?_; rintro e w4 ⟨hx4, b, o, c, rfl, hc4⟩; have HX4 := Lib.hid (HX3.out.trans hx4); clear hx4)
  have hD : ∀ w, Tb w → Calls Tryd.prog 35 #[.string ⟨#[114, 101, 116, 32, 48, 55, 10]⟩] w fun e w' => e = .returned (.bool true) ∧ Ext w w' := fun w h => refused_calls [114, 101, 116, 32, 48, 55, 10] (by decide) exD w h
  have hE : ∀ w, Tb w → Calls Tryd.prog 35 #[.string ⟨#[106, 97, 32, 76, 48, 10]⟩] w fun e w' => e = .returned (.bool true) ∧ Ext w w' := fun w h => refused_calls [106, 97, 32, 76, 48, 10] (by decide) exE w h
  have hF : ∀ w, Tb w → Calls Tryd.prog 35 #[.string ⟨#[114, 101, 116, 32, 52, 50, 57, 52, 57, 54, 55, 50, 57, 54, 10]⟩] w fun e w' => e = .returned (.bool true) ∧ Ext w w' := fun w h => refused_calls [114, 101, 116, 32, 52, 50, 57, 52, 57, 54, 55, 50, 57, 54, 10] (by decide) exF w h
  have hG : ∀ w, Tb w → Calls Tryd.prog 35 #[.string ⟨#[114, 101, 116, 32, 49]⟩] w fun e w' => e = .returned (.bool true) ∧ Ext w w' := fun w h => refused_calls [114, 101, 116, 32, 49] (by decide) exG w h
  have HhD := Lib.hid hD
  clear hD
  have HhE := Lib.hid hE
  clear hE
  have HhF := Lib.hid hF
  clear hF
  have HhG := Lib.hid hG
  clear hG
  go_wp2_with (first | (go_at_call 35; with_reducible refine (Calls.mono (HhG.out _ (HT.out.ext HX7.out)) ?_); rintro e w8 ⟨rfl, hx⟩; have HX8 := Lib.hid (HX7.out.trans hx); clear hx) | (go_at_call 35; with_reducible refine (Calls.mono (HhF.out _ (HT.out.ext HX6.out)) ?_); rintro e w7 ⟨rfl, hx⟩; have HX7 := Lib.hid (HX6.out.trans hx); clear hx) | (go_at_call 35; with_reducible refine (Calls.mono (HhE.out _ (HT.out.ext HX5.out)) ?_); rintro e w6 ⟨rfl, hx⟩; have HX6 := Lib.hid (HX5.out.trans hx); clear hx) | (go_at_call 35; with_reducible refine (Calls.mono (HhD.out _ (HT.out.ext HX4.out)) ?_); rintro e w5 ⟨rfl, hx⟩; have HX5 := Lib.hid (HX4.out.trans hx); clear hx))
  go_ret
  exact ⟨rfl, HX8.out⟩
end L07
end Go.Proofs.YtbpmokffhmiacaaDoor
