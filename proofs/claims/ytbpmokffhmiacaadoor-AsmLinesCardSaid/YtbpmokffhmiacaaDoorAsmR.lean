/- Layer 7: the walk of the law AsmLine; what the seat's program has laid out; how an instruction of the input reads. -/
import Derived.LaidLaws
import Derived.Test.YtbpmokffhmiacaaDoorLaid
import Derived.Test.YtbpmokffhmiacaaDoorAsmQ
namespace Go.Proofs.YtbpmokffhmiacaaDoor
open Go.RowKit Go.Shelf Go.Sort Go.ChangeShapes Go.WideShapes Go.ChangeAt V
attribute [local go_sem] Oper.semAt_some
theorem Tryd.own : ownKnob Tryd.prog.godebug = none := by kernel_rfl
theorem Tryd.laidOut : laidOutB Tryd.prog = true := by kernel_rfl
namespace L07
set_option maxRecDepth 100000 in
set_option maxHeartbeats 2000000 in
theorem AsmLine_calls (i : In) (hN : OkN i) (p : Int) (hp0 : -9223372036854775808 ≤ p) (W : World) (ht : Tab W) :
    Calls Tryd.prog 3 #[inV i, .int .i64 p] W fun e w' => e = .returned (.bool true) ∧ Ext W w' := by
  by_cases hp : 1099511627776 < p
  · have d1 : decide (1099511627776 < p) = true := decide_eq_true hp
    unfold inV
    go_enter Tryd.func3, Tryd.ntmps3
    go_wp2_with fail
    go_ret
    exact ⟨rfl, (Ext.refl W).alloc _⟩
  have d1 : decide (1099511627776 < p) = false := decide_eq_false hp
  have hL := fun w (h : Tab w) => Line_calls i hN p hp0 (by omega) w h
  have hR := fun w => rLine_calls i hN p (by omega) w
  obtain ⟨W0, hW0⟩ : ∃ W0, W.alloc (.cells #[.int .u16 (i.c : Int), .int .u8 (i.jt : Int), .int .u8 (i.jf : Int), .int .u32 (i.k : Int)] 25) = W0 := ⟨_, rfl⟩
  have hci : W0.heap[W.heap.size]? = some (.cells #[.int .u16 (i.c : Int), .int .u8 (i.jt : Int), .int .u8 (i.jf : Int), .int .u32 (i.k : Int)] 25 (0, 0)) := by rw [← hW0]; exact heap_alloc_new _ _
  have hXW0 : Ext W W0 := by rw [← hW0]; exact (Ext.refl W).alloc _
  obtain ⟨e0, e1, e2, e3⟩ := blk4 hci
  have HT := Lib.hid (ht.ext hXW0)
  unfold inV at *
  generalize str (lineA i p) = s at *
  have HhL := Lib.hid hL
  clear hL
  have HhR := Lib.hid hR
  clear hR
  have HhXW0 := Lib.hid hXW0
  clear hXW0
  clear ht
  go_enter Tryd.func3, Tryd.ntmps3
  go_wp2_with fail
  have x0 := xwc e0
  have x1 := xwc e1
  have x2 := xwc e2
  have x3 := xwc e3
  clear e0 e1 e2 e3
  refine wp_region_kept (by kernel_rfl) (by kernel_rfl) ?_
  repeat (any_goals (first | go_big_quiet_step ((first | (go_at_call 8; with_reducible exact calls_kept (HhL.out _ (HT.out.ext (XW.h _)))) | (go_at_call 9; with_reducible exact calls_kept (HhR.out _)))) | quiet_step ((first | (go_at_call 8; with_reducible exact calls_kept (HhL.out _ (HT.out.ext (XW.h _)))) | (go_at_call 9; with_reducible exact calls_kept (HhR.out _))))))
  all_goals (refine wpQuiet_nil ?_; intro _ hw9; obtain ⟨xq, hw8⟩ := hw9; subst hw8)
  go_wp2_with fail
  go_ret
  exact ⟨by simp, HhXW0.out.trans xq.h⟩
def laidL : List (String × DataW Unit) := [("math/bits.deBruijn32tab", Rows.laid_math_bits_deBruijn32tab), ("math/bits.deBruijn64tab", Rows.laid_math_bits_deBruijn64tab), ("internal/strconv.uint64pow10", Rows.laid_internal_strconv_uint64pow10)]
theorem door_met (os : Os) (args : Array Value) : laidMetH Tryd.prog laidL ((World.doorLaid Tryd.prog 65 os).forCall (fun _ _ => 0) ⟨#[], args, []⟩).memory :=
  laidMetH_of_parts3 (fuel := 8) (laidMet_of_run' 8 (by kernel_rfl) (by kernel_rfl)) (by kernel_rfl) (by kernel_rfl)
theorem gPow : Tryd.prog.globalNamed "internal/strconv.uint64pow10" = some 0 := by kernel_rfl
theorem tPow : (Tryd.prog.globals[0]?).map (·.type) = some 115 := by kernel_rfl
theorem pow_eq : (Rows.laid_internal_strconv_uint64pow10 : DataW Unit) = Lib.tabData .u64 Lib.pow10Tab := by kernel_rfl
theorem tab_of {W : World} (h : laidMetH Tryd.prog laidL W) : Tab W := by
  rw [MakeChecks.laidMetH_plain _ _ _ (by kernel_rfl)] at h
  unfold laidL at h
  have h2 := h.tail.tail
  rw [pow_eq] at h2
  exact Lib.tabIs_of_head gPow tPow Tryd.underlying115 Tryd.underlying50 (by kernel_rfl) (by kernel_rfl) h2
theorem wf_u8 {x : Int} (h : (Lit.int .u8 x).wf = true) : ∃ n : Nat, x = (n : Int) ∧ n < 256 := by
  simp [Lit.wf, IntKind.min, IntKind.max, IntKind.signed, IntKind.bits] at h
  exact ⟨x.toNat, by omega, by omega⟩
theorem wf_u16 {x : Int} (h : (Lit.int .u16 x).wf = true) : ∃ n : Nat, x = (n : Int) ∧ n < 65536 := by
  simp [Lit.wf, IntKind.min, IntKind.max, IntKind.signed, IntKind.bits] at h
  exact ⟨x.toNat, by omega, by omega⟩
section
variable {H : Type} {enc : TypeId × Value → H} {W : World}
theorem dec_N (fuel : Nat) (cs : List Value) (y : DataW H × List MemPlace) (h : DataW.trod enc Tryd.prog W 0 (fun _ => true) true fuel 25 cs = some y) (hl : Light Tryd.prog 25 y.1) (hn : cs.length = 4) :
    ∃ x : In, cs = encN x ∧ OkN x := by
  match cs, hn with
  | [c0, c1, c2, c3], _ =>
  obtain ⟨n0, y0, h0, -⟩ := trod_field (i := 0) Tryd.underlying25 rfl rfl (by kernel_rfl) h rfl hl
  obtain ⟨n1, y1, h1, -⟩ := trod_field (i := 1) Tryd.underlying25 rfl rfl (by kernel_rfl) h rfl hl
  obtain ⟨n2, y2, h2, -⟩ := trod_field (i := 2) Tryd.underlying25 rfl rfl (by kernel_rfl) h rfl hl
  obtain ⟨n3, y3, h3, -⟩ := trod_field (i := 3) Tryd.underlying25 rfl rfl (by kernel_rfl) h rfl hl
  obtain ⟨a0, e0, -, w0⟩ := DataW.trod_int Tryd.underlying22 h0
  obtain ⟨a1, e1, -, w1⟩ := DataW.trod_int Tryd.underlying5 h1
  obtain ⟨a2, e2, -, w2⟩ := DataW.trod_int Tryd.underlying5 h2
  obtain ⟨a3, e3, -, w3⟩ := DataW.trod_int Tryd.underlying23 h3
  simp only [List.cons.injEq, and_true] at e0 e1 e2 e3
  subst e0 e1 e2 e3
  obtain ⟨a0, rfl, b0⟩ := wf_u16 w0
  obtain ⟨a1, rfl, b1⟩ := wf_u8 w1
  obtain ⟨a2, rfl, b2⟩ := wf_u8 w2
  obtain ⟨a3, rfl, b3⟩ := wf_u32 w3
  exact ⟨⟨a0, a1, a2, a3⟩, rfl, ⟨b0, b1, b2, b3⟩⟩
set_option maxRecDepth 100000 in
theorem dec_In {base : Nat} {v : Value} {d : DataW H} {p : List MemPlace} (hv : Value.okWide Tryd.prog W .any base 25 v) (h : DataW.Trod enc Tryd.prog W 0 (fun _ => true) true 25 v d p) (hl : Light Tryd.prog 25 d) :
    ∃ x : In, v = inV x ∧ OkN x := by
  obtain ⟨cs, rfl, hsz⟩ := okWide_struct Tryd.underlying25 hv
  rw [show Tryd.prog.cellsOf 25 = 4 by kernel_rfl] at hsz
  obtain ⟨fuel, h⟩ := h
  simp only [Value.cells] at h
  obtain ⟨l⟩ := cs
  simp only [List.size_toArray] at hsz h
  obtain ⟨x, hx, hN⟩ := dec_N fuel l _ h hl hsz
  exact ⟨x, by rw [hx]; rfl, hN⟩
end
end L07
end Go.Proofs.YtbpmokffhmiacaaDoor
