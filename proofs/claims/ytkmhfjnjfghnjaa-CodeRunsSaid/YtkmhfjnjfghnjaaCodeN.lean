/- Layer 25: rows copied and compared. -/
import Derived.Test.YtkmhfjnjfghnjaaCodeC
namespace Go.Proofs.Ytkmhfjnjfghnjaa
open Go.RowKit V
namespace L25
def sameY (s t : Sy) : Bool := (s.c == t.c) && ((s.k == t.k) && ((s.th == t.th) && (s.el == t.el)))
theorem sameY_refl (s : Sy) : sameY s s = true := by simp [sameY]
theorem hgY : Try.prog.eqGuardType Try.prog.depth 70 = false := by kernel_rfl
theorem run_equalY (s t : Sy) (w : World) : (Op.equalIn 10000 70 (.agg #[.int .u16 (s.c : Int), .int .u32 (s.k : Int), .int .i64 s.th, .int .i64 s.el])
    (.agg #[.int .u16 (t.c : Int), .int .u32 (t.k : Int), .int .i64 t.th, .int .i64 t.el])).run Try.prog w = .ok (sameY s t) w := by
  simp [go_sem]
  by_cases h1 : s.c = t.c <;> by_cases h2 : s.k = t.k <;> by_cases h3 : s.th = t.th <;> by_cases h4 : s.el = t.el <;> simp [sameY, h1, h2, h3, h4, Int.ofNat_inj]
theorem run_neqY (s t : Sy) (w : World) : (binOp .neq 70 (.agg #[.int .u16 (s.c : Int), .int .u32 (s.k : Int), .int .i64 s.th, .int .i64 s.el])
    (.agg #[.int .u16 (t.c : Int), .int .u32 (t.k : Int), .int .i64 t.th, .int .i64 t.el])).run Try.prog w = .ok (.bool (!sameY s t)) w := by
  rw [run_neq_struct, run_equalY]; rfl
theorem infoY : (Try.prog.info? 70).map (fun i => (i.zero, i.size, i.bytes)) = some (some (.agg #[.int .u16 0, .int .u32 0, .int .i64 0, .int .i64 0]), 4, 24) := by kernel_rfl
set_option maxRecDepth 100000 in
set_option maxHeartbeats 400000 in
theorem refSame_calls (u v : Value) (xs : List Sy) (hl : xs.length ≤ 140737488351232) (w : World) (hu : Rd w 4 encY u xs) (hv : Rd w 4 encY v xs) :
    Calls Try.prog 36 #[u, v] w fun e w' => e = .returned (.bool true) ∧ Ext w w' := by
  obtain ⟨a, c, rfl, hac, hca⟩ := rdY_cell hu
  obtain ⟨b, d, rfl, hbd, hcb⟩ := rdY_cell hv
  clear hu hv
  go_enter Try.func36, Try.ntmps36
  go_wp2
  go_loopw [5] (fun i wr => ∃ k : Nat, k ≤ xs.length ∧ i = .int .i64 k ∧ Ext w wr) (fun i _ => xs.length - (intOf i).toNat)
  case atStart => exact ⟨0, by omega, rfl, Ext.refl _⟩
  case round =>
    obtain ⟨k, hk, rfl, hx⟩ := hrel
    have HX := Lib.hid hx
    by_cases hlt : k < xs.length
    · obtain ⟨b1, o1, rfl, h1, h2, h3, h4⟩ := hca k hlt
      obtain ⟨b2, o2, rfl, g1, g2, g3, g4⟩ := hcb k hlt
      replace h1 := hx.cell h1; replace h2 := hx.cell h2; replace h3 := hx.cell h3; replace h4 := hx.cell h4
      replace g1 := hx.cell g1; replace g2 := hx.cell g2; replace g3 := hx.cell g3; replace g4 := hx.cell g4
      clear hca hcb hx
      generalize xs[k] = s at *
      have hq := run_neqY s s
      rw [sameY_refl] at hq
      have hg := hgY
      go_wp2_with (go_quiet (fail))
      go_roundw
      case rel => exact ⟨k + 1, by omega, by go_num, (by repeat (first | exact HX.out | apply Ext.drewN | apply Ext.alloc | apply Ext.drew))⟩
      case measure => simp [intOf]; omega
    · clear hca hcb hx
      go_wp2
      go_ret
      exact ⟨rfl, HX.out⟩
set_option maxRecDepth 100000 in
set_option maxHeartbeats 400000 in
theorem refCopy_calls (v : Value) (xs : List Sy) (hl : xs.length ≤ 1000) (w : World) (hv : Rd w 4 encY v xs) :
    Calls Try.prog 31 #[v] w fun e w' => ∃ u, e = .returned u ∧ Rd w' 4 encY u xs ∧ Ext w w' := by
  have HV := Lib.hid hv
  have hl0 : ([] : List Sy).length + xs.length = xs.length := by simp
  have HL := Lib.hid hl0
  clear hv hl0
  go_enter Try.func31, Try.ntmps31
  go_wp2_with (at_builtin; refine wpList_app_rd rfl (.tmp 4) (.tmp 5) _ rfl Try.underlying52 infoY rfl (by decide) encY_len encY_one w _ _ [] xs rfl rfl ⟨rfl, .inl ⟨rfl, rfl⟩⟩ HV.out (by rw [HL.out]; omega) (by decide) (Ext.refl _) ?_; intro au1 cu1 w1 ho1 hx1; rw [HL.out] at ho1 ⊢; have HO1 := Lib.hid (rd_of_own (n := 4) (enc := encY) (xs := xs) encY_len ho1); have HX1 := Lib.hid hx1; clear ho1 hx1)
  go_ret
  exact ⟨_, rfl, HO1.out, HX1.out⟩
end L25
end Go.Proofs.Ytkmhfjnjfghnjaa
