import Derived.Test.YtkmhfjnjfghnjaaMp10
import Derived.Test.YtkmhfjnjfghnjaaMp2
/- Layer 21: the walk of Clone over tests. -/
namespace Go.Proofs.Ytkmhfjnjfghnjaa
open Go.RowKit V
namespace L21
theorem infoT9 : (Try.prog.info? 37).map (fun i => (i.zero, i.size, i.bytes)) = some (some (.agg #[.int .i64 0, .int .u64 0, .int .u64 0, .int .u32 0]), 4, 32) := by kernel_rfl
set_option maxRecDepth 100000 in
theorem nil_eq (w : World) : (binOp .eql 32 (.slice none 0 0) (.slice none 0 0)).run Try.prog w = .ok (.bool true) w := by first | rfl | kernel_rfl | (simp [go_sem, binOp]; done)
set_option maxRecDepth 100000 in
theorem nil_ne (ad : Addr) (n c : Nat) (w : World) : (binOp .eql 32 (.slice (some ad) n c) (.slice none 0 0)).run Try.prog w = .ok (.bool false) w := by first | rfl | kernel_rfl | (simp [go_sem, binOp]; done)
set_option maxRecDepth 100000 in
set_option maxHeartbeats 400000 in
theorem Clone_calls (v : Value) (ts : List Test) (hl : ts.length ≤ 1000000) (w : World) (hv : Rd w 4 encT v ts) :
    Calls Try.prog 82 #[v] w fun e w' => ∃ u, e = .returned u ∧ w'.ownsRow w.heap.size 37 4 u ts.length (ts.flatMap encT) ∧ Ext w w' := by
  have HV := Lib.hid hv
  obtain ⟨a, c, rfl, h1, h2, -⟩ := hv
  have hl0 : ([] : List Test).length + ts.length = ts.length := by simp
  have HL := Lib.hid hl0
  clear hl0
  cases a with
  | none =>
    obtain rfl := h2 rfl
    have ht : ts = [] := List.eq_nil_of_length_eq_zero (by omega)
    subst ht
    clear h1 h2
    have hq := nil_eq
    go_enter Try.func82, Try.ntmps82
    go_wp2
    go_ret
    exact ⟨_, rfl, ⟨rfl, .inl ⟨rfl, rfl⟩⟩, Ext.refl _⟩
  | some ad =>
    clear h2
    have hq := nil_ne ad
    go_enter Try.func82, Try.ntmps82
    go_wp2_with (at_builtin; refine wpList_app_rd rfl (.tmp 5) (.tmp 6) _ rfl Try.underlying32 infoT9 rfl (by decide) encT_len encT_one w _ _ [] ts rfl rfl (own_lit encT_len w [] _ _ w.heap.size rfl (Nat.le_refl _) (by unfold maxLen; simp)) (HV.out.ext ((Ext.refl _).alloc _)) (by rw [HL.out]; omega) (by decide) ((Ext.refl _).alloc _) ?_; intro au1 cu1 w1 ho1 hx1; rw [HL.out] at ho1 ⊢; have HO1 := Lib.hid ho1; have HX1 := Lib.hid hx1; clear ho1 hx1)
    go_ret
    exact ⟨_, rfl, HO1.out, HX1.out⟩
end L21
end Go.Proofs.Ytkmhfjnjfghnjaa

