/- Layer 15: the walk of is; how an entry of the input reads. -/
import Derived.Test.YtojlpocpcakcbaaDoorValA
import Derived.Test.YtojlpocpcakcbaaDoorNameK
namespace Go.Proofs.YtojlpocpcakcbaaDoor
open Go.RowKit Go.Shelf Go.Sort Go.ChangeShapes Go.WideShapes Go.ChangeAt V
attribute [local go_sem] Oper.semAt_some
namespace L10
set_option maxRecDepth 100000 in
set_option maxHeartbeats 1000000 in
theorem is_calls (x : En) (w : World) : Calls Tryd.prog 28 #[enV x, enV x] w fun e w' => e = .returned (.bool true) ∧ Ext w w' := by
  obtain ⟨nm, a, hb⟩ := x
  unfold enV
  dsimp only
  generalize str nm = nv at *
  have HX := Lib.hid (((Ext.refl w).alloc (.cells #[.string nv, .int .u32 (a : Int), .bool hb] 48)).alloc (.cells #[.string nv, .int .u32 (a : Int), .bool hb] 47))
  go_enter Tryd.func28, Tryd.ntmps28
  go_wp2_with fail
  go_ret
  exact ⟨by rfl, HX.out⟩
section
variable {H : Type} {enc : TypeId × Value → H} {W : World}
set_option maxRecDepth 100000 in
theorem dec_En {base : Nat} {v : Value} {d : DataW H} {p : List MemPlace} (hv : Value.okWide Tryd.prog W .any base 47 v) (h : DataW.Trod enc Tryd.prog W 0 (fun _ => true) true 47 v d p) (hl : Light Tryd.prog 47 d) :
    ∃ x : En, v = enV x ∧ x.2.1 < 4294967296 ∧ x.1.length ≤ maxLen := by
  obtain ⟨cs, rfl, hsz⟩ := okWide_struct Tryd.underlying47 hv
  rw [show Tryd.prog.cellsOf 47 = 3 by kernel_rfl] at hsz
  obtain ⟨fuel, h⟩ := h
  simp only [Value.cells] at h
  obtain ⟨l⟩ := cs
  simp only [List.size_toArray] at hsz h
  match l, hsz with
  | [c0, c1, c2], _ =>
  obtain ⟨n0, y0, h0, -⟩ := trod_field (i := 0) Tryd.underlying47 rfl rfl (by kernel_rfl) h rfl hl
  obtain ⟨n1, y1, h1, -⟩ := trod_field (i := 1) Tryd.underlying47 rfl rfl (by kernel_rfl) h rfl hl
  obtain ⟨n2, y2, h2, -⟩ := trod_field (i := 2) Tryd.underlying47 rfl rfl (by kernel_rfl) h rfl hl
  obtain ⟨a0, e0, -, w0⟩ := DataW.trod_string Tryd.underlying9 h0
  obtain ⟨a1, e1, -, w1⟩ := DataW.trod_int Tryd.underlying22 h1
  obtain ⟨a2, e2, -⟩ := DataW.trod_bool Tryd.underlying4 h2
  simp only [List.cons.injEq, and_true] at e0 e1 e2
  subst e0 e1 e2
  obtain ⟨a1, rfl, b1⟩ := wf_u32 w1
  exact ⟨⟨bytes a0, a1, a2⟩, by unfold enV; rw [str_bytes], b1, by rw [bytes_len]; exact w0⟩
end
end L10
end Go.Proofs.YtojlpocpcakcbaaDoor
