/- Layer 10: the walks of Flags and Spaces. -/
import Derived.Laws.Bits64b
import Derived.Test.YtojlpocpcakcbaaDoorNameC
namespace Go.Proofs.YtojlpocpcakcbaaDoor
open Go.RowKit V
attribute [local go_sem] Oper.semAt_some
namespace L10
theorem spT_len : spT.length = 8 := rfl
set_option maxRecDepth 100000 in
theorem spaces_ix (i : Nat) (h : i < spT.length) (W : World) : (Instr.index 69 (.agg spacesV) (.int .i64 (i : Int))).run Tryd.prog W = .ok (.agg #[.string (str spT[i].1), .int .u64 (spT[i].2 : Int)]) W := by
  match i, h with
  | 0, _ => rfl
  | 1, _ => rfl
  | 2, _ => rfl
  | 3, _ => rfl
  | 4, _ => rfl
  | 5, _ => rfl
  | 6, _ => rfl
  | 7, _ => rfl
def orL (l : List Nm) : Nat := l.foldl (fun n x => n ||| x.2) 0
def flL (all : Nat) : List Nm → List Nat
  | [] => []
  | x :: r => (if all &&& x.2 ≠ 0 then [x.2] else []) ++ flL all r
theorem spT_lt (i : Nat) (h : i < spT.length) : (spT[i]'h).2 < 18446744073709551616 := by
  have : ∀ x ∈ spT, x.2 < 18446744073709551616 := by decide
  exact this _ (List.getElem_mem h)
theorem orL_lt (i : Nat) (h : i < 8) : orL (spT.take i) < 18446744073709551616 := by
  have : ∀ j, j < 8 → orL (spT.take j) < 18446744073709551616 := by decide
  exact this i h
theorem flL_app (all : Nat) : ∀ (a b : List Nm), flL all (a ++ b) = flL all a ++ flL all b
  | [], _ => rfl
  | x :: r, b => by
    rw [List.cons_append]
    show _ ++ flL all (r ++ b) = (_ ++ flL all r) ++ flL all b
    rw [flL_app all r b, List.append_assoc]
def enc64 (x : Nat) : List Value := [.int .u64 (x : Int)]
theorem enc64_len (x : Nat) : (enc64 x).length = 1 := rfl
theorem enc64_one (s : Nat) : ∀ u ∈ enc64 s, u.oneCell' = true := by intro u hu; simp [enc64] at hu; subst hu; rfl
theorem info64 : (Tryd.prog.info? 26).map (fun i => (i.zero, i.size, i.bytes)) = some (some (.int .u64 0), 1, 8) := by kernel_rfl
set_option maxRecDepth 100000 in
set_option maxHeartbeats 1000000 in
theorem Spaces_calls (w : World) : Calls Tryd.prog 21 #[] w fun e w' => e = .returned (.int .u64 (orL spT : Nat)) ∧ Ext w w' := by
  have hT := fun W => spaces_calls W
  have HhT := Lib.hid hT
  clear hT
  go_enter Tryd.func21, Tryd.ntmps21
  go_wp2_with fail
  refine (HhT.out _).mono ?_
  rintro e w1 ⟨rfl, hx1⟩
  have HX1 := Lib.hid hx1
  clear hx1
  go_wp2_with fail
  go_loopw [1, 5] (fun u ui wr => ∃ i : Nat, i ≤ 8 ∧ ui = .int .i64 (i : Int) ∧ u = .int .u64 (orL (spT.take i) : Nat) ∧ Ext w wr) (fun _ ui _ => 8 - (intOf ui).toNat)
  case atStart => exact ⟨0, by omega, rfl, rfl, HX1.out⟩
  case round =>
    obtain ⟨i, hi, rfl, rfl, hx⟩ := hrel
    have HX := Lib.hid hx
    by_cases hlt : i < 8
    · have hz : (i : Int) < 8 := by omega
      have hwi : IntKind.i64.wrap ((i : Int) + 1) = (i : Int) + 1 := IntWalk.i64_in _ (by omega)
      have hix := spaces_ix i hlt
      have hnx : orL (spT.take (i + 1)) = orL (spT.take i) ||| (spT[i]'hlt).2 := by
        unfold orL
        rw [List.take_succ_eq_append_getElem (show i < spT.length from hlt), List.foldl_append]; rfl
      have hm := spT_lt i hlt
      have hqb := orL_lt i hlt
      generalize (spT[i]'hlt).2 = m at *
      generalize str (spT[i]'hlt).1 = tx at *
      obtain ⟨q, hq⟩ : ∃ q, q = orL (spT.take i) := ⟨_, rfl⟩
      rw [← hq] at hnx hqb ⊢
      have hor := bits_or_u64_nat q m hqb hm
      have Hhnx := Lib.hid hnx
      clear hnx
      clear hx hq
      go_wp2_with fail
      go_roundw
      case rel => exact ⟨i + 1, by omega, by go_num, by rw [Hhnx.out], HX.out.alloc _⟩
      case measure => simp [intOf]; omega
    · obtain rfl : i = 8 := by omega
      clear hx
      go_wp2_with fail
      go_ret
      exact ⟨rfl, HX.out⟩
set_option maxRecDepth 100000 in
set_option maxHeartbeats 1000000 in
theorem Flags_calls (all : Nat) (ha : all < 18446744073709551616) (w : World) : Calls Tryd.prog 20 #[.int .u64 (all : Int)] w fun e w' => ∃ v, e = .returned v ∧ Ext w w' ∧ w'.ownsRow w.heap.size 26 1 v (flL all spT).length ((flL all spT).flatMap enc64) := by
  have hT := fun W => spaces_calls W
  have HhT := Lib.hid hT
  clear hT
  go_enter Tryd.func20, Tryd.ntmps20
  go_wp2_with fail
  refine (HhT.out _).mono ?_
  rintro e w1 ⟨rfl, hx1⟩
  have HX1 := Lib.hid hx1
  clear hx1
  go_wp2_with fail
  go_loopw [3, 7] (fun u ui wr => ∃ (i : Nat) (L : List Nat) (a : Option Addr) (c : Nat), i ≤ 8 ∧ ui = .int .i64 (i : Int) ∧ u = .slice a L.length c ∧ L = flL all (spT.take i) ∧ L.length ≤ i ∧ wr.ownsRow w.heap.size 26 1 (.slice a L.length c) L.length (L.flatMap enc64) ∧ Ext w wr) (fun _ ui _ => 8 - (intOf ui).toNat)
  case atStart => exact ⟨0, [], none, 0, by omega, rfl, rfl, rfl, Nat.zero_le _, World.ownsRow_nil _ _ _ _, HX1.out⟩
  case round =>
    obtain ⟨i, L, a, c, hi, rfl, rfl, hL, hLi, ho, hx⟩ := hrel
    have HX := Lib.hid hx
    have HO := Lib.hid ho
    by_cases hlt : i < 8
    · have hz : (i : Int) < 8 := by omega
      have hwi : IntKind.i64.wrap ((i : Int) + 1) = (i : Int) + 1 := IntWalk.i64_in _ (by omega)
      have hix := spaces_ix i hlt
      have hnx : flL all (spT.take (i + 1)) = L ++ (if all &&& (spT[i]'hlt).2 ≠ 0 then [(spT[i]'hlt).2] else []) := by
        rw [List.take_succ_eq_append_getElem (show i < spT.length from hlt), flL_app, ← hL]
        show L ++ (_ ++ []) = _
        rw [List.append_nil]
        rfl
      have hmb := spT_lt i hlt
      generalize (spT[i]'hlt).2 = m at *
      generalize str (spT[i]'hlt).1 = tx at *
      clear hx ho
      have HhL := Lib.hid hL
      clear hL
      have hand := bits_and_u64_nat all m ha hmb
      by_cases hm : all &&& m = 0
      · rw [if_neg (by simpa using hm), List.append_nil] at hnx
        rw [hm] at hand
        have Hhnx := Lib.hid hnx
        clear hnx
        clear hm
        go_wp2_with fail
        go_roundw
        case rel => exact ⟨i + 1, L, a, c, by omega, by go_num, rfl, Hhnx.out.symm, by omega, World.ownsRow.alloc HO.out _, HX.out.alloc _⟩
        case measure => simp [intOf]; omega
      · rw [if_pos (by simpa using hm)] at hnx
        have hne : (((all &&& m : Nat) : Int) != 0) = true := by simp; omega
        obtain ⟨g, hg⟩ : ∃ g, g = all &&& m := ⟨_, rfl⟩
        rw [← hg] at hand hne
        have hne2 : (g != 0) = true := by simpa using hne
        have HOA := Lib.hid (World.ownsRow.alloc (World.ownsRow.alloc HO.out (.cells #[.string tx, .int .u64 (m : Int)] 68)) (.cells #[.int .u64 (m : Int)] 26))
        have HXA := Lib.hid ((HX.out.alloc (.cells #[.string tx, .int .u64 (m : Int)] 68)).alloc (.cells #[.int .u64 (m : Int)] 26))
        have Hhnx := Lib.hid hnx
        clear hnx
        clear hm hg
        go_wp2_with (at_builtin
                     refine wpList_app_rd rfl (.tmp 15) (.tmp 18) _ rfl Tryd.underlying40 info64 rfl (by decide) enc64_len enc64_one w _ _ L [m] rfl rfl (by exact HOA.out) (rd_lit enc64_len (wr.alloc (.cells #[.string tx, .int .u64 (m : Int)] 68)) [m] _ _ (by rw [World.size_alloc])) (by simp; omega) (by decide) (by exact HXA.out) ?_
                     intro au5 cu5 w5 ho5 hx5
                     have HO5 := Lib.hid ho5
                     have HX5 := Lib.hid hx5
                     clear ho5 hx5)
        go_roundw
        case rel => exact ⟨i + 1, L ++ [m], au5, cu5, by omega, by go_num, by simp, Hhnx.out.symm, by simp; omega, by simpa using HO5.out, HX5.out⟩
        case measure => simp [intOf]; omega
    · obtain rfl : i = 8 := by omega
      clear hx ho
      go_wp2_with fail
      go_ret
      exact ⟨_, rfl, HX.out, by rw [show flL all spT = L from hL.symm]; exact HO.out⟩
end L10
end Go.Proofs.YtojlpocpcakcbaaDoor
