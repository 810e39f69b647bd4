/- Layer 20: the walk of the reference's Text. -/
import Derived.Test.YtjgglocabjpmeaaDoorActR
namespace Go.Proofs.YtjgglocabjpmeaaDoor
open Go.RowKit Go.Shelf Go.Sort V
attribute [local go_sem] Oper.semAt_some
namespace L20
theorem rk_nm (q : Nat) : (rk q = -1 ∧ nm q = []) ∨ ∃ i : Nat, i < 8 ∧ rk q = (i : Int) ∧ nm q = nms.getD i [] ∧ nm q ≠ [] ∧ (i = 3 ↔ q = 5) := by
  by_cases h0 : q = 32768
  · subst h0; exact .inr ⟨0, by decide, by decide, rfl, by decide, by decide⟩
  by_cases h1 : q = 0
  · subst h1; exact .inr ⟨1, by decide, by decide, rfl, by decide, by decide⟩
  by_cases h2 : q = 3
  · subst h2; exact .inr ⟨2, by decide, by decide, rfl, by decide, by decide⟩
  by_cases h3 : q = 5
  · subst h3; exact .inr ⟨3, by decide, by decide, rfl, by decide, by decide⟩
  by_cases h4 : q = 32704
  · subst h4; exact .inr ⟨4, by decide, by decide, rfl, by decide, by decide⟩
  by_cases h5 : q = 32752
  · subst h5; exact .inr ⟨5, by decide, by decide, rfl, by decide, by decide⟩
  by_cases h6 : q = 32764
  · subst h6; exact .inr ⟨6, by decide, by decide, rfl, by decide, by decide⟩
  by_cases h7 : q = 32767
  · subst h7; exact .inr ⟨7, by decide, by decide, rfl, by decide, by decide⟩
  refine .inl ⟨?_, ?_⟩
  · unfold rk; rw [if_neg h0, if_neg h1, if_neg h2, if_neg h3, if_neg h4, if_neg h5, if_neg h6, if_neg h7]
  · unfold nm; rw [if_neg h0, if_neg h1, if_neg h2, if_neg h3, if_neg h4, if_neg h5, if_neg h6, if_neg h7]
def nmsV : Array Value := #[.string ⟨#[107, 105, 108, 108]⟩, .string ⟨#[107, 105, 108, 108, 116, 104, 114, 101, 97, 100]⟩, .string ⟨#[116, 114, 97, 112]⟩, .string ⟨#[101, 114, 114, 110, 111]⟩,
  .string ⟨#[110, 111, 116, 105, 102, 121]⟩, .string ⟨#[116, 114, 97, 99, 101]⟩, .string ⟨#[108, 111, 103]⟩, .string ⟨#[97, 108, 108, 111, 119]⟩]
theorem cell_nms (W : World) (i : Nat) (h : i < 8) (t : TypeId) : (W.alloc (.cells nmsV t)).cell? ⟨W.heap.size, i, none⟩ = some (.string (str (nms.getD i []))) := by
  have hb := heap_alloc_new W (.cells nmsV t)
  show (match (W.alloc (.cells nmsV t)).heap[W.heap.size]? with | some (.cells c _ _) => c[i]? | _ => none) = _
  rw [hb]
  rcases lt8 i h with rfl | rfl | rfl | rfl | rfl | rfl | rfl | rfl <;> rfl
set_option maxRecDepth 100000 in
set_option maxHeartbeats 2000000 in
theorem rText_calls (a : Nat) (h : a < 4294967296) (w : World) : Calls Tryd.prog 9 #[.int .u32 (a : Int)] w fun e w' => e = .returned (.string (str (textA a))) ∧ Ext w w' := by
  have hR := fun W => rank_calls a h W
  have hD := fun W => rdigits_calls (a % 65536) (by omega) W
  have hE : textA a = if nm (a / 65536) = [] then [] else if a % 65536 ≠ 0 ∨ a / 65536 = 5 then nm (a / 65536) ++ 32 :: Lib.decDigits (a % 65536) else nm (a / 65536) := rfl
  have hl1 := nm_len (a / 65536)
  have hl2 := dec_len (a % 65536) (by omega)
  rw [← str_size] at hl1 hl2
  have hcat : str (nm (a / 65536)) ++ (⟨#[32]⟩ : ByteArray) ++ str (Lib.decDigits (a % 65536)) = str (nm (a / 65536) ++ 32 :: Lib.decDigits (a % 65536)) := by
    rw [show (⟨#[32]⟩ : ByteArray) = str [32] from rfl, str_app, str_app]; simp
  rw [hE]
  clear hE
  have hrk := rk_nm (a / 65536)
  have had : (a : Int) % 65536 = ((a % 65536 : Nat) : Int) := by omega
  have hd : a % 65536 < 65536 := Nat.mod_lt _ (by omega)
  generalize a % 65536 = d at *
  generalize Lib.decDigits d = D at *
  generalize a / 65536 = q at *
  generalize rk q = r at *
  rcases hrk with ⟨rfl, h1⟩ | ⟨i, hi, rfl, h1, h2, h3⟩
  · rw [h1, if_pos rfl]
    clear hcat h1
    have HhR := Lib.hid hR
    clear hR
    have HhD := Lib.hid hD
    clear hD
    go_enter Tryd.func9, Tryd.ntmps9
    go_wp2_with fail
    refine (HhR.out _).mono ?_
    rintro e w1 ⟨rfl, hx1⟩
    have HX1 := Lib.hid hx1
    clear hx1
    go_wp2_with fail
    go_ret
    exact ⟨rfl, HX1.out⟩
  · rw [if_neg h2]
    have hcn := fun W => cell_nms W i hi 9
    rw [← h1] at hcn
    unfold nmsV at hcn
    have i0 : (0 : Int) ≤ (i : Int) := by omega
    have i1 : (i : Int) < 8 := by omega
    have i2 : decide ((i : Int) < 0) = false := decide_eq_false (by omega)
    have HhR := Lib.hid hR
    clear hR
    have HhD := Lib.hid hD
    clear hD
    by_cases h0 : d = 0
    · subst h0
      by_cases h5 : q = 5
      · obtain rfl : i = 3 := h3.2 h5
        subst h5
        rw [if_pos (.inr rfl), ← hcat]
        clear hcat h1 h2 h3
        generalize str D = ds at *
        generalize str (nm 5) = ls at *
        have Hhcn := Lib.hid hcn
        clear hcn
        go_enter Tryd.func9, Tryd.ntmps9
        go_wp2_with fail
        refine (HhR.out _).mono ?_
        rintro e w1 ⟨rfl, hx1⟩
        have HX1 := Lib.hid hx1
        clear hx1
        go_upto_region 7 with fail
        have q0 := Hhcn.out w1
        have HXA := Lib.hid (HX1.out.alloc (.cells nmsV 9))
        unfold nmsV at HXA
        generalize w1.alloc _ = W5 at *
        have q0x := xwc q0
        clear q0
        refine wp_region_kept (by kernel_rfl) (by kernel_rfl) ?_
        repeat (any_goals (first | go_big_quiet_step ((go_at_call 20; with_reducible exact calls_kept (HhD.out _))) | quiet_step ((go_at_call 20; with_reducible exact calls_kept (HhD.out _)))))
        all_goals (refine wpQuiet_nil ?_; intro _ hw9; obtain ⟨xq, hw8⟩ := hw9; subst hw8)
        go_wp2_with fail
        go_ret
        exact ⟨rfl, HXA.out.trans xq.h⟩
      · have hr : ¬ ((0 : Nat) ≠ 0 ∨ q = 5) := fun e => e.elim (fun e => e rfl) h5
        rw [if_neg hr]
        have hi3 : ((i : Int) == 3) = false := by rw [beq_eq_false_iff_ne]; intro e; exact h5 (h3.1 (by omega))
        have hi4 : ((i : Int) != 3) = true := by rw [bne, hi3]; rfl
        clear hcat h1 h2 h3
        generalize str (nm q) = ls at *
        have Hhcn := Lib.hid hcn
        clear hcn
        go_enter Tryd.func9, Tryd.ntmps9
        go_wp2_with fail
        refine (HhR.out _).mono ?_
        rintro e w1 ⟨rfl, hx1⟩
        have HX1 := Lib.hid hx1
        clear hx1
        have q0 := Hhcn.out w1
        go_wp2_with fail
        go_ret
        exact ⟨rfl, HX1.out.alloc _⟩
    · rw [if_pos (.inl h0), ← hcat]
      clear hcat h1 h2 h3
      have hd0 : ((d : Int) == 0) = false := by rw [beq_eq_false_iff_ne]; omega
      generalize str D = ds at *
      generalize str (nm q) = ls at *
      have Hhcn := Lib.hid hcn
      clear hcn
      go_enter Tryd.func9, Tryd.ntmps9
      go_wp2_with fail
      refine (HhR.out _).mono ?_
      rintro e w1 ⟨rfl, hx1⟩
      have HX1 := Lib.hid hx1
      clear hx1
      go_upto_region 7 with fail
      have q0 := Hhcn.out w1
      have HXA := Lib.hid (HX1.out.alloc (.cells nmsV 9))
      unfold nmsV at HXA
      generalize w1.alloc _ = W5 at *
      have q0x := xwc q0
      clear q0
      refine wp_region_kept (by kernel_rfl) (by kernel_rfl) ?_
      repeat (any_goals (first | go_big_quiet_step ((go_at_call 20; with_reducible exact calls_kept (HhD.out _))) | quiet_step ((go_at_call 20; with_reducible exact calls_kept (HhD.out _)))))
      all_goals (refine wpQuiet_nil ?_; intro _ hw9; obtain ⟨xq, hw8⟩ := hw9; subst hw8)
      go_wp2_with fail
      go_ret
      exact ⟨rfl, HXA.out.trans xq.h⟩
end L20
end Go.Proofs.YtjgglocabjpmeaaDoor
