/- Layer 25: the walks of the writer's put, load, ret, here. -/
import Derived.Test.YtkmhfjnjfghnjaaWrA
import Derived.Deep.RegionLaw
import Derived.Deep.DeepCutAuto
namespace Go.Proofs.Ytkmhfjnjfghnjaa
open Go.RowKit V
namespace L25W
open L25 (Sy encY encY_len encY_one)
open L21 (own_set own_ext own_typed set_ne)
set_option maxRecDepth 100000 in
theorem put_calls {w0 W : World} {B : Nat} {v v2 u : Value} {ls ys : List Sy} {js : List Jm} (h : WS w0 B v v2 ls js W) (hu : Rd W 4 encY u ys) (hl : ls.length + ys.length ≤ 1000000) :
    Calls Try.prog 95 #[pv B, u] W fun e w' => e = .returned (.tuple #[]) ∧ ∃ v', WS w0 B v' v2 (ls ++ ys) js w' ∧ WK (fun _ => False) W w' := by
  have HS := Lib.hid h
  have HU := Lib.hid hu
  have b0 := h.b0
  have hbb := h.lt
  obtain ⟨au, cu, rfl⟩ := own_form h.own
  obtain ⟨av, cv, rfl, -, -⟩ := L25.rdY_cell hu
  clear h hu
  unfold pv
  go_enter Try.func95, Try.ntmps95
  go_wp2_with (at_builtin
               refine wpList_app_g rfl (.tmp 8) (.tmp 9) _ rfl Try.underlying52 infoY9 rfl (by decide) encY_len encY_one (B + 1) _ _ ls ys rfl rfl HS.out.own HU.out (by omega) (by decide) (by omega) ?_
               intro au5 cu5 w5 ho5 hg5
               obtain ⟨hs5, hk5⟩ := HS.out.put hg5 ho5
               have c0 : w5.cell? ⟨B, 0, none⟩ = some (.slice au ls.length cu) := hg5.cell b0 (fun e => by have := (HS.out.own.lt _ e.symm).1; dsimp only at this; omega)
               have f0 : w5.frozen? ⟨B, 0, none⟩ = false := (World.frozen?_of_block (a := ⟨B, 0, none⟩) (hg5.block B hbb (fun e => by have := (HS.out.own.lt _ e.symm).1; omega))).trans (HS.out.f 0)
               have hb5 := World.block_lt_of_cell? _ _ c0
               have HS5 := Lib.hid hs5
               have HK5 := Lib.hid hk5
               clear ho5 hg5 hs5 hk5)
  go_end0
  exact ⟨rfl, ⟨_, HS5.out⟩, HK5.out⟩
theorem rd_litY (W : World) (ys : List Sy) (t : TypeId) (g : Nat) (hg : g = W.heap.size) : Rd (W.alloc (.cells (ys.flatMap encY).toArray t)) 4 encY (.slice (some ⟨g, 0, none⟩) ys.length ys.length) ys := rd_lit encY_len W ys t g hg
theorem WK.alloc {X : Nat → Prop} {a b : World} (h : WK X a b) (o : Obj) : WK X a (b.alloc o) := h.trans (WK.ext ((Ext.refl _).alloc o))
theorem WK.after {X : Nat → Prop} {a b : World} (o : Obj) (h : WK X (a.alloc o) b) : WK X a b := (WK.ext ((Ext.refl _).alloc o)).trans h
set_option maxRecDepth 100000 in
theorem load_calls {w0 W : World} {B : Nat} {v v2 : Value} {ls : List Sy} {js : List Jm} (h : WS w0 B v v2 ls js W) (hl : ls.length ≤ 100000) (k : Nat) :
    Calls Try.prog 64 #[pv B, .int .u32 (k : Int)] W fun e w' => e = .returned (.tuple #[]) ∧ ∃ v', WS w0 B v' v2 (ls ++ [⟨32, k, 0, 0⟩]) js w' ∧ WK (fun _ => False) W w' := by
  have HS := Lib.hid h
  clear h
  unfold pv
  go_enter Try.func64, Try.ntmps64
  go_wp2_with fail
  refine (put_calls (ys := [⟨32, k, 0, 0⟩]) (HS.out.kept ((Ext.refl W).alloc _)) (rd_litY W [⟨32, k, 0, 0⟩] _ _ rfl) (by simp; omega)).mono ?_
  rintro e w' ⟨rfl, v', hs, hk⟩
  have HH := Lib.hid (And.intro hs (WK.after _ hk))
  clear hs hk
  go_wp2_with fail
  go_end0
  exact ⟨rfl, v', HH.out⟩
set_option maxRecDepth 100000 in
theorem ret_calls {w0 W : World} {B : Nat} {v v2 : Value} {ls : List Sy} {js : List Jm} (h : WS w0 B v v2 ls js W) (hl : ls.length ≤ 100000) (k : Nat) :
    Calls Try.prog 70 #[pv B, .int .u32 (k : Int)] W fun e w' => e = .returned (.tuple #[]) ∧ ∃ v', WS w0 B v' v2 (ls ++ [⟨6, k, 0, 0⟩]) js w' ∧ WK (fun _ => False) W w' := by
  have HS := Lib.hid h
  clear h
  unfold pv
  go_enter Try.func70, Try.ntmps70
  go_wp2_with fail
  refine (put_calls (ys := [⟨6, k, 0, 0⟩]) (HS.out.kept ((Ext.refl W).alloc _)) (rd_litY W [⟨6, k, 0, 0⟩] _ _ rfl) (by simp; omega)).mono ?_
  rintro e w' ⟨rfl, v', hs, hk⟩
  have HH := Lib.hid (And.intro hs (WK.after _ hk))
  clear hs hk
  go_wp2_with fail
  go_end0
  exact ⟨rfl, v', HH.out⟩
set_option maxRecDepth 100000 in
theorem here_calls {w0 W : World} {B lb : Nat} {v v2 u : Value} {ls : List Sy} {js : List Jm} (h : WS w0 B v v2 ls js W) (hb : Boxed W lb 98 u) (hlb : w0.heap.size ≤ lb) :
    Calls Try.prog 69 #[pv B, pv lb] W fun e w' => e = .returned (.tuple #[]) ∧ WS w0 B v v2 ls js w' ∧ WK (fun k => k = lb) W w' ∧ Boxed w' lb 98 (.int .i64 (ls.length : Int)) := by
  have HH := Lib.hid (h.here hb hlb (.int .i64 (ls.length : Int)))
  have b0 := h.b0
  have hbb := h.lt
  have c0 := hb.cell
  have f0 := hb.frozen
  have hll := hb.lt
  obtain ⟨au, cu, rfl⟩ := own_form h.own
  clear h hb
  unfold pv
  go_enter Try.func69, Try.ntmps69
  go_wp2_with fail
  go_end0
  exact ⟨rfl, HH.out⟩
end L25W
end Go.Proofs.Ytkmhfjnjfghnjaa
