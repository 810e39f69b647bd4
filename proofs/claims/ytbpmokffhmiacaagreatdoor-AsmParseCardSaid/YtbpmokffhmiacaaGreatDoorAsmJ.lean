/- Layer 7: the walks of FormatUint, label, joined. -/
import Derived.Lib.ItoaMem
import Derived.Lib.SmallJoins
import Derived.BigCall
import Derived.BigGuard
import Derived.Test.YtbpmokffhmiacaaGreatDoorAsmI
import Derived.Test.YtbpmokffhmiacaaGreatDoorShelf
namespace Go.Proofs.YtbpmokffhmiacaaGreatDoor
open Go.RowKit Go.Shelf Go.Sort V
attribute [local go_sem] Oper.semAt_some
namespace L07
/-- the table that strconv reads -/
def Tab (W : World) : Prop := Lib.TabIs Tryz.prog W "internal/strconv.uint64pow10" .u64 Lib.pow10Tab
theorem Tab.ext {w w' : World} (h : Tab w) (hx : Ext w w') : Tab w' := Go.Joins.tab_stays (g := 3) (by kernel_rfl) h hx (Nat.le_refl _)
theorem ext_grow (w : World) (k : Nat) (os : Array Obj) : Ext w (grow (w.drewN k) os) :=
  ⟨rfl, rfl, rfl, by simp [grow], fun i hi => by
    show ((w.drewN k).heap ++ os)[i]? = _
    rw [Array.getElem?_append_left (by show i < w.heap.size; omega)]
    rfl⟩
theorem holds0 (w : World) (T : TypeId) (nd : Nat) (hs : nd ≤ 24) : Holds (fun (b : UInt8) => Value.int .u8 (b.toNat : Int)) (w.alloc (.cells Lib.zeros24 T)) w.heap.size 0 (Array.replicate nd (0 : UInt8)) := fun j hj => by
  have hj' : j < nd := by simpa using hj
  refine ⟨?_, World.frozen?_alloc_new _ _ _ _⟩
  rw [World.cell?_alloc_new, Lib.zeros24_at _ (by omega), getElem!_pos _ j hj]
  simp
theorem fin0 (w : World) (o : Obj) (dk : Array UInt8) (k : Nat) : ∃ os, (putRow (fun (b : UInt8) => Value.int .u8 (b.toNat : Int)) (w.alloc o) w.heap.size 0 dk).drewN k = grow (w.drewN k) os := by
  rw [alloc_eq_grow]
  obtain ⟨os', _, e⟩ := putRow_grow_new (fun (b : UInt8) => Value.int .u8 (b.toNat : Int)) w #[o] w.heap.size 0 dk (Nat.le_refl _)
  exact ⟨os', by rw [e]; rfl⟩
set_option maxRecDepth 100000 in
set_option maxHeartbeats 4000000 in
theorem iFormatUint_calls (u : Nat) (hu64 : u < 18446744073709551616) (w : World) (ht : Tab w) :
    Calls Tryz.prog 66 #[.int .u64 (u : Int), .int .i64 10] w fun e w' => e = .returned (.string (str (dec u))) ∧ Ext w w' := by
  by_cases hs : u < 100
  · have hS := fun W => Tryz.internal_strconv_small u hs W
    have d1 : decide (u < 100) = true := decide_eq_true hs
    have d2 : decide ((u : Int) < 100) = true := decide_eq_true (by omega)
    have hw : IntKind.i64.wrap (u : Int) = (u : Int) := IntWalk.i64_in _ (by omega)
    change ∀ W, Calls Tryz.prog 81 #[.int .i64 (u : Int)] W fun e w' => e = .returned (.string (str (dec u))) ∧ w' = W at hS
    generalize str (dec u) = ds at *
    have HhS := Lib.hid hS
    clear hS
    clear ht
    go_enter Tryz.func66, Tryz.ntmps66
    go_wp2_with fail
    refine (HhS.out _).mono ?_
    rintro e w1 ⟨rfl, rfl⟩
    go_wp2_with fail
    go_ret
    exact ⟨rfl, Ext.refl _⟩
  · have d1 : decide (u < 100) = false := decide_eq_false hs
    have d2 : decide ((u : Int) < 100) = false := decide_eq_false (by omega)
    have hu1 : 1 ≤ u := by omega
    have hnd20 : Lib.nDigits u ≤ 20 := by have := Lib.numDigits_eq u hu1 hu64; split at this <;> omega
    have hal : Tryz.prog.arrayLen 117 = 24 := by kernel_rfl
    have hel : Tryz.prog.elem 117 = 5 := by kernel_rfl
    have hN := fun W (h : Tab W) => Tryz.internal_strconv_numDigits u hu1 hu64 W h
    have hH0 := holds0 w 117 (Lib.nDigits u) (by omega)
    have hfmt := Tryz.internal_strconv_formatBase10 w.heap.size 0 24 u (Array.replicate (Lib.nDigits u) 0) (w.alloc (.cells Lib.zeros24 117)) hH0 (by rw [Array.size_replicate]; exact Lib.lt_pow_nDigits u) hu64 (by rw [Array.size_replicate]; omega)
    rw [Array.size_replicate] at hfmt
    have hsl : ∀ W, (Instr.sliceAt 117 (.pointer (some ⟨w.heap.size, 0, none⟩)) none (some (.int .i64 (Lib.nDigits u : Int))) none).run Tryz.prog W = .ok (.slice (some ⟨w.heap.size, 0, none⟩) (Lib.nDigits u) 24) W := fun W => by
      rw [run_sliceAt_array_h W 117 ⟨w.heap.size, 0, none⟩ (by simp [Program.arrayLen, Program.elem, Tryz.underlying117]) .i64 (Lib.nDigits u : Int) (by omega) (by rw [hal]; omega)]
      go_simp
    have HH0 := Lib.hid hH0
    have HhN := Lib.hid hN
    clear hN
    have Hhfmt := Lib.hid hfmt
    clear hfmt
    have HT := Lib.hid ht
    clear hH0 hal ht hel
    go_enter Tryz.func66, Tryz.ntmps66
    go_wp2_with (first
      | (refine (HhN.out _ (HT.out.ext ((Ext.refl _).alloc _))).mono ?_; rintro e w' ⟨rfl, rfl⟩))
    refine Hhfmt.out.mono ?_
    rintro e w' ⟨rfl, k, v', dk, rfl, hF⟩
    have hcv : (convert 24 9 (.slice (some ⟨w.heap.size, 0, none⟩) (Lib.nDigits u) 24)).run Tryz.prog ((putRow (fun (b : UInt8) => Value.int .u8 (b.toNat : Int)) (w.alloc (.cells Lib.zeros24 117)) w.heap.size 0 dk).drewN k) = .ok (.string (str (dec u))) ((putRow (fun (b : UInt8) => Value.int .u8 (b.toNat : Int)) (w.alloc (.cells Lib.zeros24 117)) w.heap.size 0 dk).drewN k) := by
      have h := run_convert_bytes_back (P := Tryz.prog) ((putRow (fun (b : UInt8) => Value.int .u8 (b.toNat : Int)) (w.alloc (.cells Lib.zeros24 117)) w.heap.size 0 dk).drewN k) 24 9 5 ⟨w.heap.size, 0, none⟩ 24 (Lib.decDigits u) Tryz.underlying24 Tryz.underlying5 Tryz.underlying9 (fun j hj => by
        rw [Lib.row_is_numeral hF j hj, Lib.add_plain, World.cell?_drewN]
        exact cell?_putRow (fun (b : UInt8) => Value.int .u8 (b.toNat : Int)) _ w.heap.size 0 _ dk HH0.out (by rw [hF.size, Array.size_replicate]) j (by rw [hF.size]; rw [Lib.decDigits_length] at hj; exact hj))
      rw [Lib.decDigits_length] at h
      exact h
    go_wp2
    go_ret
    obtain ⟨os, eo⟩ := fin0 w (.cells Lib.zeros24 117) dk k
    exact ⟨rfl, by rw [eo]; exact ext_grow _ _ _⟩
theorem FormatUint_calls (u : Nat) (hu64 : u < 18446744073709551616) (w : World) (ht : Tab w) :
    Calls Tryz.prog 50 #[.int .u64 (u : Int), .int .i64 10] w fun e w' => e = .returned (.string (str (dec u))) ∧ Ext w w' := by
  have h := iFormatUint_calls u hu64 w ht
  generalize str (dec u) = ds at *
  have Hh := Lib.hid h
  clear h
  go_enter Tryz.func50, Tryz.ntmps50
  go_wp2_with fail
  refine Hh.out.mono ?_
  rintro e w1 ⟨rfl, hx⟩
  go_wp2_with fail
  go_ret
  exact ⟨rfl, hx⟩
/-- a label's word -/
theorem label_calls (n : Nat) (hn : n < 1000000000000000000) (w : World) (ht : Tab w) :
    Calls Tryz.prog 32 #[.int .i64 (n : Int)] w fun e w' => e = .returned (.string (str (lab n))) ∧ Ext w w' := by
  have hI := Tryz.strconv_Itoa (n : Int) (by omega) (by omega) w ht
  rw [show (⟨(Lib.itoa (n : Int)).toArray⟩ : ByteArray) = str (dec n) from by unfold Lib.itoa; rw [if_neg (by omega)]; rfl] at hI
  have hcat : (⟨#[76]⟩ : ByteArray) ++ str (dec n) = str (lab n) := by rw [show (⟨#[76]⟩ : ByteArray) = str [76] from rfl, str_app]; rfl
  have hlen : (str (dec n)).size ≤ 18 := by rw [str_size]; exact dec_20 n hn
  rw [← hcat]
  clear hcat
  generalize str (dec n) = ds at *
  have HhI := Lib.hid hI
  clear hI
  go_enter Tryz.func32, Tryz.ntmps32
  go_wp2_with fail
  refine HhI.out.mono ?_
  rintro e w1 ⟨rfl, k, os, rfl⟩
  go_wp2_with fail
  go_ret
  exact ⟨rfl, ext_grow _ _ _⟩
end L07
end Go.Proofs.YtbpmokffhmiacaaGreatDoor
