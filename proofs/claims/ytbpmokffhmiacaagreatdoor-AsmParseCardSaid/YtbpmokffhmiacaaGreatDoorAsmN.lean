/- Layer 7: the walks of the reference's Known, WithX, shape. -/
import Derived.Test.YtbpmokffhmiacaaGreatDoorAsmM
namespace Go.Proofs.YtbpmokffhmiacaaGreatDoor
open Go.RowKit Go.Shelf Go.Sort V
attribute [local go_sem] Oper.semAt_some
namespace L07
theorem str_list (l : List UInt8) : (str l).toList = l := by rw [Lib.toList_data]; simp [str]
theorem beq_dec (l m : List UInt8) : ((str l).toList == m) = decide (l = m) := by rw [str_list, Bool.eq_iff_iff]; simp
theorem last_at (l : List UInt8) (h : l ≠ []) : ∃ x, l.getLast? = some x ∧ ∀ W : World, (Instr.index 9 (.string (str l)) (.int .i64 ((l.length : Int) - 1))).run Tryz.prog W = .ok (.int .u8 (x.toNat : Int)) W := by
  have hp : 0 < l.length := List.length_pos_iff.2 h
  refine ⟨l[l.length - 1]'(by omega), ?_, fun W => ?_⟩
  · rw [List.getLast?_eq_getElem?, List.getElem?_eq_getElem (by omega)]
  · rw [run_index_string W 9 (str l) .i64 _ Tryz.underlying9, dif_pos (by rw [str_size]; omega)]
    have e : ((l.length : Int) - 1).toNat = l.length - 1 := by omega
    congr 4
    simp only [e]
    rfl
theorem u8_120 (x : UInt8) : ((x.toNat : Int) == 120) = (x == 120) := by
  rw [Bool.eq_iff_iff]
  simp only [beq_iff_eq]
  constructor
  · intro h; exact UInt8.toNat_inj.1 (by have : (120 : UInt8).toNat = 120 := rfl; omega)
  · rintro rfl; rfl
set_option maxRecDepth 100000 in
set_option maxHeartbeats 4000000 in
theorem rKnown_calls (code : Nat) (w : World) : Calls Tryz.prog 19 #[.int .u16 (code : Int)] w fun r w' => r = .returned (.bool (known code)) ∧ Ext w w' := by
  have hO := fun W => rOf_calls code W
  have hk := known_name code
  rw [hk]
  have hb : ((str (entry code).nm).toList.isEmpty) = decide ((entry code).nm = []) := by rw [str_list]; cases (entry code).nm <;> simp
  have hd : decide ((entry code).nm ≠ []) = !decide ((entry code).nm = []) := by simp
  rw [hd]
  clear hk hd
  unfold enE at hO
  generalize decide ((entry code).nm = []) = b at *
  generalize entry code = e at *
  obtain ⟨c, nm, cl⟩ := e
  dsimp only at *
  generalize str nm = sn at *
  have HhO := Lib.hid hO
  clear hO
  go_enter Tryz.func19, Tryz.ntmps19
  have hfield : ∀ W, (Instr.field 49 (.agg #[.int .u16 (c : Int), .string sn, .int .u8 (cl : Int)]) 1).run Tryz.prog W = .ok (.string sn) W := fun W => rfl
  go_wp2_with fail
  refine (HhO.out _).mono ?_
  rintro r w1 ⟨rfl, hx1⟩
  go_wp2_with fail
  go_ret
  exact ⟨rfl, hx1⟩
set_option maxRecDepth 100000 in
set_option maxHeartbeats 4000000 in
theorem rWithX_calls (code : Nat) (w : World) : Calls Tryz.prog 18 #[.int .u16 (code : Int)] w fun r w' => r = .returned (.bool (wx code)) ∧ Ext w w' := by
  have hO := fun W => rOf_calls code W
  rw [← wxR_eq]
  unfold enE at hO
  have hcl : (entry code).cl = 3 ∨ (entry code).cl = 4 → (entry code).nm ≠ [] := by
    rcases entry_of code with ⟨e, he, -, h, -⟩ | ⟨-, h, -⟩
    · rw [h]; exact fun _ => (names_full e he).1
    · rw [h]; decide
  have hE : wxR code = (((entry code).cl == 3 || (entry code).cl == 4) && ((entry code).nm.getLast? == some 120)) := rfl
  have hnl := entry_nm_len code
  rw [hE]
  clear hE
  generalize entry code = e at *
  obtain ⟨c, nm, cl⟩ := e
  dsimp only at *
  obtain ⟨q3, -⟩ := ne_nat cl 3
  obtain ⟨q4, -⟩ := ne_nat cl 4
  simp only [Int.cast_ofNat_Int] at q3 q4
  by_cases h34 : cl = 3 ∨ cl = 4
  · obtain ⟨x, hx, hix⟩ := last_at nm (hcl h34)
    have hb : (nm.getLast? == some 120) = (x == 120) := by rw [hx]; simp
    have hu := u8_120 x
    rw [hb]
    have hsz : (str nm).size = nm.length := str_size nm
    have hw : IntKind.i64.wrap ((nm.length : Int) - 1) = (nm.length : Int) - 1 := IntWalk.i64_in _ (by omega)
    generalize (x == 120) = xb at *
    generalize nm.length = nl at *
    generalize str nm = sn at *
    have HhO := Lib.hid hO
    clear hO
    have Hhx := Lib.hid hx
    clear hx
    clear hb hcl
    rcases h34 with rfl | rfl
    all_goals
      go_enter Tryz.func18, Tryz.ntmps18
      go_wp2_with fail
      refine (HhO.out _).mono ?_
      rintro r w1 ⟨rfl, hx1⟩
      go_wp2_with fail
      go_ret
      exact ⟨rfl, hx1.alloc _⟩
  · have h3 : (cl == 3) = false := by rw [beq_eq_false_iff_ne]; omega
    have h4 : (cl == 4) = false := by rw [beq_eq_false_iff_ne]; omega
    rw [h3] at q3 ⊢
    rw [h4] at q4 ⊢
    generalize str nm = sn at *
    have HhO := Lib.hid hO
    clear hO
    clear hcl h34 h3 h4
    go_enter Tryz.func18, Tryz.ntmps18
    go_wp2_with fail
    refine (HhO.out _).mono ?_
    rintro r w1 ⟨rfl, hx1⟩
    go_wp2_with fail
    go_ret
    exact ⟨rfl, hx1.alloc _⟩
end L07
end Go.Proofs.YtbpmokffhmiacaaGreatDoor
