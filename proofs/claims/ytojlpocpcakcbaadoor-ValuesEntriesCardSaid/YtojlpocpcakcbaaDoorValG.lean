/- Layer 15: the walk of the law ValuesEntries. -/
import Derived.Deep.DeepCutAuto
import Derived.Test.YtojlpocpcakcbaaDoorValB
import Derived.Test.YtojlpocpcakcbaaDoorValC
import Derived.Test.YtojlpocpcakcbaaDoorValE
import Derived.Test.YtojlpocpcakcbaaDoorValF
namespace Go.Proofs.YtojlpocpcakcbaaDoor
open Go.RowKit Go.Shelf Go.Sort V
attribute [local go_sem] Oper.semAt_some
namespace L10
set_option maxRecDepth 100000 in
set_option maxHeartbeats 4000000 in
theorem ValuesEntries_calls (s : ByteArray) (x : En) (ha : x.2.1 < 4294967296) (w : World) (ht : Tab w) :
    Calls Tryd.prog 7 #[.string s, enV x] w fun e w' => e = .returned (.bool true) ∧ Ext w w' := by
  by_cases hbig : 2000 < s.size ∨ 200 < x.1.length
  · obtain ⟨nm, a, hb⟩ := x
    have HX := Lib.hid ((Ext.refl w).alloc (.cells #[.string (str nm), .int .u32 (a : Int), .bool hb] 47))
    unfold enV
    dsimp only at *
    clear ht ha
    by_cases h1 : 2000 < s.size
    · have g1 : decide (2000 < s.size) = true := decide_eq_true h1
      have g2 : decide ((2000 : Int) < (s.size : Int)) = true := decide_eq_true (by omega)
      clear hbig
      generalize str nm = nv at *
      go_enter Tryd.func7, Tryd.ntmps7
      go_wp2_with fail
      go_ret
      exact ⟨rfl, HX.out⟩
    · have h2 := hbig.resolve_left h1
      rw [← str_size] at h2
      have g1 : decide (2000 < s.size) = false := decide_eq_false h1
      have g2 : decide ((2000 : Int) < (s.size : Int)) = false := decide_eq_false (by omega)
      have g3 : decide (200 < (str nm).size) = true := decide_eq_true h2
      have g4 : decide ((200 : Int) < ((str nm).size : Int)) = true := decide_eq_true (by omega)
      clear hbig
      generalize str nm = nv at *
      go_enter Tryd.func7, Tryd.ntmps7
      go_wp2_with fail
      go_ret
      exact ⟨rfl, HX.out⟩
  · have h1 : ¬ 2000 < s.size := fun h => hbig (.inl h)
    have h2 : ¬ 200 < x.1.length := fun h => hbig (.inr h)
    clear hbig
    have hR := fun W => Read_calls s (by omega) W
    have hrR := fun W => rRead_calls s (by omega) W
    have hTx := fun W (h : Tab W) => Text_calls x (by omega) ha W h
    have hrT := fun W => rText_calls x (by omega) ha W
    have hIs := fun W => is_calls (readL (bytes s)).1 W
    have hA := fun W => awake15_calls W
    obtain ⟨nm, a, hb⟩ := x
    generalize readL (bytes s) = R at *
    obtain ⟨⟨rn, ra, rb⟩, q⟩ := R
    unfold enV at *
    dsimp only at *
    rw [← str_size] at h2
    have g1 : decide (2000 < s.size) = false := decide_eq_false h1
    have g2 : decide ((2000 : Int) < (s.size : Int)) = false := decide_eq_false (by omega)
    have g3 : decide (200 < (str nm).size) = false := decide_eq_false h2
    have g4 : decide ((200 : Int) < ((str nm).size : Int)) = false := decide_eq_false (by omega)
    generalize str (textL (nm, a, hb)) = tx at *
    generalize str nm = nv at *
    generalize str rn = rv at *
    have q0 := cells_new w [.string nv, .int .u32 (a : Int), .bool hb] 47 0 _ rfl
    have q1 := cells_new w [.string nv, .int .u32 (a : Int), .bool hb] 47 1 _ rfl
    have q2 := cells_new w [.string nv, .int .u32 (a : Int), .bool hb] 47 2 _ rfl
    have HX0 := Lib.hid ((Ext.refl w).alloc (.cells #[.string nv, .int .u32 (a : Int), .bool hb] 47))
    have HT := Lib.hid ht
    have HhR := Lib.hid hR
    clear hR
    have HhrR := Lib.hid hrR
    clear hrR
    have HhTx := Lib.hid hTx
    clear hTx
    have HhrT := Lib.hid hrT
    clear hrT
    have HhIs := Lib.hid hIs
    clear hIs
    have HhA := Lib.hid hA
    clear hA
    clear ht h1 h2 ha
    go_enter Tryd.func7, Tryd.ntmps7
    go_wp2_with fail
    refine (HhR.out _).mono ?_
    rintro e w1 ⟨rfl, hx1⟩
    replace q0 := hx1.cell q0
    replace q1 := hx1.cell q1
    replace q2 := hx1.cell q2
    have HX1 := Lib.hid (HX0.out.trans hx1)
    clear hx1
    go_wp2_with fail
    refine (HhrR.out _).mono ?_
    rintro e w2 ⟨rfl, hx2⟩
    obtain ⟨r0, r1, r2, -, -, -, -⟩ := blk3 hx2
    have hx12 : Ext w1 w2 := ((Ext.refl w1).alloc _).trans hx2
    replace q0 := hx12.cell q0
    replace q1 := hx12.cell q1
    replace q2 := hx12.cell q2
    have HX2 := Lib.hid (HX1.out.trans hx12)
    clear hx2 hx12
    go_upto_region 5 with fail
    obtain ⟨W5, hW5⟩ : ∃ W5, W5 = w2.alloc (.cells #[.string rv, .int .u32 (ra : Int), .bool rb] 47) := ⟨_, rfl⟩
    obtain ⟨z0, z1, z2, -, -, -, -⟩ := blk3 (Ext.refl (w2.alloc (.cells #[.string rv, .int .u32 (ra : Int), .bool rb] 47)))
    have hx25 : Ext w2 W5 := by rw [hW5]; exact (Ext.refl w2).alloc _
    rw [← hW5] at z0 z1 z2 ⊢
    have HX5 := Lib.hid (HX2.out.trans hx25)
    have HT5 := Lib.hid (HT.out.ext HX5.out)
    have q0x : ∀ x : XW W5, x.w.cell? ⟨w.heap.size, 0, none⟩ = some (.string nv) := xwc (hx25.cell q0)
    have q1x : ∀ x : XW W5, x.w.cell? ⟨w.heap.size, 1, none⟩ = some (.int .u32 (a : Int)) := xwc (hx25.cell q1)
    have q2x : ∀ x : XW W5, x.w.cell? ⟨w.heap.size, 2, none⟩ = some (.bool hb) := xwc (hx25.cell q2)
    have r0x := xwc (hx25.cell r0)
    have r1x := xwc (hx25.cell r1)
    have r2x := xwc (hx25.cell r2)
    have z0x := xwc z0
    have z1x := xwc z1
    have z2x := xwc z2
    clear q0 q1 q2 r0 r1 r2 z0 z1 z2 hx25 hW5
    refine wp_region_kept (by kernel_rfl) (by kernel_rfl) ?_
    repeat (any_goals (first | go_big_quiet_step ((first | (go_at_call 28; with_reducible exact calls_kept (HhIs.out _)) | (go_at_call 29; with_reducible exact calls_kept (HhTx.out _ (HT5.out.ext (XW.h _)))) | (go_at_call 30; with_reducible exact calls_kept (HhrT.out _)) | (go_at_call 31; with_reducible exact calls_kept (HhA.out _)))) | quiet_step ((first | (go_at_call 28; with_reducible exact calls_kept (HhIs.out _)) | (go_at_call 29; with_reducible exact calls_kept (HhTx.out _ (HT5.out.ext (XW.h _)))) | (go_at_call 30; with_reducible exact calls_kept (HhrT.out _)) | (go_at_call 31; with_reducible exact calls_kept (HhA.out _))))))
    all_goals (refine wpQuiet_nil ?_; intro _ hw9; obtain ⟨xq, hw8⟩ := hw9; subst hw8)
    go_wp2_with fail
    go_ret
    exact ⟨rfl, HX5.out.trans xq.h⟩
end L10
end Go.Proofs.YtojlpocpcakcbaaDoor
