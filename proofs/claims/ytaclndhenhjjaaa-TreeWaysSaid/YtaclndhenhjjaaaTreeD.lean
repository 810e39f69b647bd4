/- Layer 24: nodes compared; the walk of the reference's Same. -/
import Derived.Test.YtaclndhenhjjaaaTreeA
import Derived.Test.YtaclndhenhjjaaaApp
namespace Go.Proofs.Ytaclndhenhjjaaa
open Go.RowKit V
namespace L24
open L23
def sameN (s t : Node) : Bool := (s.leaf == t.leaf) && ((s.way == t.way) && ((s.at_ == t.at_) && ((s.less == t.less) && (s.more == t.more))))
theorem sameN_refl (s : Node) : sameN s s = true := by simp [sameN]
theorem hgN : Try.prog.eqGuardType Try.prog.depth 51 = false := by kernel_rfl
theorem run_equalN (s t : Node) (w : World) : (Op.equalIn 10000 51 (.agg #[.bool s.leaf, .int .i64 s.way, .int .u32 (s.at_ : Int), .int .i64 s.less, .int .i64 s.more])
    (.agg #[.bool t.leaf, .int .i64 t.way, .int .u32 (t.at_ : Int), .int .i64 t.less, .int .i64 t.more])).run Try.prog w = .ok (sameN s t) w := by
  simp [go_sem]
  by_cases h1 : s.leaf = t.leaf <;> by_cases h2 : s.way = t.way <;> by_cases h3 : s.at_ = t.at_ <;> by_cases h4 : s.less = t.less <;> by_cases h5 : s.more = t.more <;> simp [sameN, h1, h2, h3, h4, h5, Int.ofNat_inj]
theorem run_neqN (s t : Node) (w : World) : (binOp .neq 51 (.agg #[.bool s.leaf, .int .i64 s.way, .int .u32 (s.at_ : Int), .int .i64 s.less, .int .i64 s.more])
    (.agg #[.bool t.leaf, .int .i64 t.way, .int .u32 (t.at_ : Int), .int .i64 t.less, .int .i64 t.more])).run Try.prog w = .ok (.bool (!sameN s t)) w := by
  rw [run_neq_struct, run_equalN]; rfl
theorem infoN : (Try.prog.info? 51).map (fun i => (i.zero, i.size, i.bytes)) = some (some (.agg #[.bool false, .int .i64 0, .int .u32 0, .int .i64 0, .int .i64 0]), 5, 40) := by kernel_rfl
/-- a slice of nodes that a call made, from a block on -/
def OwnN (w : World) (base : Nat) (v : Value) (xs : List Node) : Prop := w.ownsRow base 51 5 v xs.length (xs.flatMap encN)
theorem OwnN.rd {w : World} {base : Nat} {v : Value} {xs : List Node} (h : OwnN w base v xs) : Rd w 5 encN v xs := rd_of_own encN_len h
theorem OwnN.ext {w w' : World} {base : Nat} {v : Value} {xs : List Node} (h : OwnN w base v xs) (hx : Ext w w') : OwnN w' base v xs := by
  obtain ⟨h1, h2⟩ := h
  refine ⟨h1, ?_⟩
  rcases h2 with h2 | ⟨g, cap, cur, hv, hg, hh, r⟩
  · exact .inl h2
  · exact .inr ⟨g, cap, cur, hv, hg, (hx.block (Array.getElem?_eq_some_iff.1 hh).1).trans hh, r⟩
theorem OwnN.base {W : World} {base base' : Nat} {u : Value} {xs : List Node} (h : OwnN W base u xs) (hb : base' ≤ base) : OwnN W base' u xs := by
  obtain ⟨h1, h2⟩ := h
  refine ⟨h1, ?_⟩
  rcases h2 with h2 | ⟨g, cap, cur, hv, hg, r⟩
  · exact .inl h2
  · exact .inr ⟨g, cap, cur, hv, by omega, r⟩
set_option maxRecDepth 100000 in
set_option maxHeartbeats 400000 in
theorem refSameN_calls (u v : Value) (xs : List Node) (hl : xs.length ≤ 140737488351232) (w : World) (hu : Rd w 5 encN u xs) (hv : Rd w 5 encN v xs) :
    Calls Try.prog 27 #[u, v] w fun e w' => e = .returned (.bool true) ∧ Ext w w' := by
  obtain ⟨a, c, rfl, hac, hca⟩ := rdN_cell hu
  obtain ⟨b, d, rfl, hbd, hcb⟩ := rdN_cell hv
  clear hu hv
  go_enter Try.func27, Try.ntmps27
  go_wp2
  go_loopw [5] (fun i wr => ∃ k : Nat, k ≤ xs.length ∧ i = .int .i64 k ∧ Ext w wr) (fun i _ => xs.length - (intOf i).toNat)
  case atStart => exact ⟨0, by omega, rfl, Ext.refl _⟩
  case round =>
    obtain ⟨k, hk, rfl, hx⟩ := hrel
    have HX := Lib.hid hx
    by_cases hlt : k < xs.length
    · obtain ⟨b1, o1, rfl, h1, h2, h3, h4, h5⟩ := hca k hlt
      obtain ⟨b2, o2, rfl, g1, g2, g3, g4, g5⟩ := hcb k hlt
      replace h1 := hx.cell h1; replace h2 := hx.cell h2; replace h3 := hx.cell h3; replace h4 := hx.cell h4; replace h5 := hx.cell h5
      replace g1 := hx.cell g1; replace g2 := hx.cell g2; replace g3 := hx.cell g3; replace g4 := hx.cell g4; replace g5 := hx.cell g5
      clear hca hcb hx
      generalize xs[k] = s at *
      have hq := run_neqN s s
      rw [sameN_refl] at hq
      have hg := hgN
      go_wp2_with (go_quiet (fail))
      go_roundw
      case rel => exact ⟨k + 1, by omega, by go_num, (by repeat (first | exact HX.out | apply Ext.drewN | apply Ext.alloc | apply Ext.drew))⟩
      case measure => simp [intOf]; omega
    · clear hca hcb hx
      go_wp2
      go_ret
      exact ⟨rfl, HX.out⟩
end L24
end Go.Proofs.Ytaclndhenhjjaaa
