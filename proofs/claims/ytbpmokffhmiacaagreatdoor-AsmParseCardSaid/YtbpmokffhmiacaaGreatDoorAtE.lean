/- Layer 7: strings.Lines and its iterator. -/
import Derived.Test.YtbpmokffhmiacaaGreatDoorAtD
import Derived.Test.YtbpmokffhmiacaaGreatDoorRangeB
import Derived.Test.YtbpmokffhmiacaaGreatDoorAsmF
namespace Go.Proofs.YtbpmokffhmiacaaGreatDoor
open Go.RowKit Go.Shelf Go.Sort V
attribute [local go_sem] Oper.semAt_some
namespace L07
abbrev Pc := { x : List UInt8 // x.length ≤ 100000 }
theorem Lines_calls (s : ByteArray) (w : World) :
    Calls Tryz.prog 12 #[.string s] w fun e w' => e = .returned (.func (.func 20) #[] #[.pointer (some ⟨w.heap.size, 0, none⟩)]) ∧
      w.alloc (.cells #[.string s] 9) = w' := by
  go_enter Tryz.func12, Tryz.ntmps12
  go_wp2
  go_ret
  exact ⟨rfl, rfl⟩
def boxLen (Bs : Nat) (W : World) : Nat := match W.cell? ⟨Bs, 0, none⟩ with
  | some (.string s) => s.size
  | _ => 0
theorem boxLen_eq {Bs : Nat} {W : World} {t : List UInt8} (h : W.cell? ⟨Bs, 0, none⟩ = some (.string (str t))) : boxLen Bs W = t.length := by
  unfold boxLen
  rw [h]
  exact str_size t
theorem blk1 {W : World} {B : Nat} {a : Value} {t : TypeId} (hb : W.heap[B]? = some (.cells #[a] t (0, 0))) : W.cell? ⟨B, 0, none⟩ = some a ∧ W.frozen? ⟨B, 0, none⟩ = false :=
  ⟨by simp [World.cell?, hb], by simp [World.frozen?, hb]⟩
set_option maxRecDepth 100000 in
set_option maxHeartbeats 4000000 in
theorem lines1_in (l Bs : Nat) (S : Nat → Prop) (bs : List UInt8) (hl : bs.length ≤ 100000) (J Jx : List Pc → World → Prop) (W : World)
    (hJa : ∀ p A B, J p A → Ext A B → J p B) (hJs : ∀ p A v, J p A → J p (A.setCell ⟨Bs, 0, none⟩ v))
    (hY : ∀ pre (x : Pc) W, J pre W → pre.length < (piecesL bs).length → YieldAt Fence.wide 2 Tryz.prog l (#[.string (str x.1)]) W fun e W' =>
      (e = .returned (.bool true) ∧ J (pre ++ [x]) W' ∧ Keep S W W') ∨ (e = .returned (.bool false) ∧ Jx (pre ++ [x]) W'))
    (hbs : S Bs) (hc : W.heap[Bs]? = some (.cells #[.string (str bs)] 9 (0, 0))) (h0 : J [] W) :
    CallsIn Fence.wide 3 Tryz.prog 20 #[.func (.yield l) #[] #[], .pointer (some ⟨Bs, 0, none⟩)] W fun e W' => (∃ v, e = .returned v) ∧
      ((∃ ys : List Pc, ys.map Subtype.val = piecesL bs ∧ J ys W') ∨ (∃ pre : List Pc, pre.map Subtype.val <+: piecesL bs ∧ Jx pre W')) := by
  refine callsIn_of_wp Tryz.func20 rfl trivial ?_ rfl
  simp only [Tryz.ntmps20, List.size_toArray, List.length_cons, List.length_nil, Nat.reduceAdd, Nat.reduceSub, Array.replicate_succ, Array.replicate_zero, List.push_toArray, List.append_toArray, List.nil_append, List.cons_append]
  gi_wp2
  gi_loopw [3] (fun u wr => ∃ (pre : List Pc) (t : List UInt8), wr.heap[Bs]? = some (.cells #[.string (str t)] 9 (0, 0)) ∧ t.length ≤ bs.length ∧ piecesL bs = pre.map Subtype.val ++ piecesL t ∧ J pre wr) (fun _ wr => boxLen Bs wr)
  case atStart => exact ⟨[], bs, hc, Nat.le_refl _, rfl, h0⟩
  case round =>
    obtain ⟨pre, t, hct, hts, heq, hJ0⟩ := hrel
    obtain ⟨hc0, hf0⟩ := blk1 hct
    by_cases hp : t = []
    · have he : ¬ 0 < (str t).size := by rw [hp]; decide
      rw [hp] at heq
      have HE := Lib.hid heq
      clear heq hp hct
      gi_wp2
      go_end0
      exact ⟨⟨_, rfl⟩, .inl ⟨pre, by rw [HE.out]; simp [piecesL], hJ0⟩⟩
    · have he : 0 < (str t).size := by rw [str_size]; exact List.length_pos_iff.2 hp
      have hst := pieces_step hp
      have hlt2 := snd_lt hp
      rw [hst] at heq
      have hI := fun W => Tryz.strings_IndexByte (str t) 10 W
      have hbt : (str t).data.toList = t := bytes_str t
      rw [hbt, show (10 : Int).toNat.toUInt8 = 10 from rfl] at hI
      have hlt : pre.length < (piecesL bs).length := by rw [heq]; simp
      have hfl : (fstP t).length ≤ 100000 := by
        have := pieces_bd t (fstP t) (by rw [hst]; simp)
        omega
      obtain ⟨x, hx⟩ : ∃ x : Pc, x.1 = fstP t := ⟨⟨_, hfl⟩, rfl⟩
      have HB := Lib.hid hct
      have HX := Lib.hid hx
      have HE := Lib.hid heq
      clear hct hx heq hst hp hbt hfl
      have HhI := Lib.hid hI
      clear hI
      by_cases hi : (0 : Int) ≤ Lib.indexByte t 10
      · obtain ⟨o, ho⟩ : ∃ o : Nat, Lib.indexByte t 10 = (o : Int) := ⟨(Lib.indexByte t 10).toNat, by omega⟩
        have hos : o + 1 ≤ (str t).size := by
          obtain ⟨h1, -⟩ := Lib.indexByte_some ho
          rw [str_size]
          exact (List.getElem?_eq_some_iff.1 h1).1
        have hf1 : fstP t = t.take (o + 1) := by unfold fstP; rw [if_pos hi, ho]; rfl
        have hf2 : sndP t = t.drop (o + 1) := by unfold sndP; rw [if_pos hi, ho]; rfl
        have hx1 : (str t).extract 0 (o + 1) = str (fstP t) := bytes_inj (by
          rw [bytes_str, hf1]; simp [bytes, str, ByteArray.data_extract])
        have hx2 : (str t).extract (o + 1) (str t).size = str (sndP t) := bytes_inj (by
          rw [bytes_str, hf2]
          show ((str t).extract (o + 1) (str t).size).data.toList = _
          rw [Lib.extract_to_end]; rfl)
        have hww : IntKind.i64.wrap ((o : Int) + 1) = (o : Int) + 1 := IntWalk.i64_in _ (by have := str_size t; omega)
        have hhI : ∀ W, Calls Tryz.prog 21 #[.string (str t), .int .u8 10] W fun e w' => e = .returned (.int .i64 (o : Int)) ∧ w' = W := by rw [← ho]; exact HhI.out
        have hsI : (o : Int) + 1 ≤ ((str t).size : Int) := by omega
        have h0o : (0 : Int) ≤ (o : Int) + 1 := by omega
        clear HhI hf1 hf2 ho hi
        have HhhI := Lib.hid hhI
        clear hhI
        gi_wp2_with (refine ⟨trivial, ?_⟩; gi_at_call 21; refine (callsIn_wide.2 (HhhI.out _)).mono ?_; rintro e w1 ⟨rfl, rfl⟩)
        refine wpIn_wide.2 (wp_mono (Q := fun
          | .normal, a', W' => ∃ x12 x13 x14 x15 x16 x17 x18 x19, (W'.heap[Bs]? = some (.cells #[.string (str (sndP t))] 9 (0, 0)) ∧ J pre W') ∧ a' = { tmps := #[.func (.yield l) #[] #[], .pointer (some ⟨Bs, 0, none⟩), undef, .string (str (fstP t)), .int .i64 (o : Int), .string (str t), .int .i64 ((str t).size : Int), .bool true, .string (str t), .int .i64 (o : Int), .int .i64 (o : Int), .bool true, x12, x13, x14, x15, x16, x17, x18, x19, u20, u21, u22, u23, u24], defers := [] }
          | _, _, _ => False) ?reg ?rest)
        case reg =>
          go_region_law fail
          all_goals exact ⟨_, _, _, _, _, _, _, _, ⟨blk_ext4 (show _ = some (Obj.cells #[.string (str (sndP t))] 9 (0, 0)) from blk_set HB.out (j := 0) _) (Ext.refl _).drew, hJa _ _ _ (hJs _ _ _ hJ0) (Ext.refl _).drew⟩, rfl⟩
        rintro e a' w6 hq
        cases e
        case normal =>
          obtain ⟨x12, x13, x14, x15, x16, x17, x18, x19, ⟨hb6, hJ6⟩, rfl⟩ := hq
          obtain ⟨fn, tmps, assign, body, hy, hR⟩ := hY pre x w6 hJ6 hlt
          rw [HX.out] at hy
          have HB6 := Lib.hid hb6
          have hL1 := boxLen_eq hc0
          clear hb6 HB hc0 hf0
          gi_wp2
          refine hR.mono ?_
          rintro e W3 (⟨rfl, hJ3, hk3⟩ | ⟨rfl, hJx3⟩)
          · have hb3 : W3.heap[Bs]? = some (.cells #[.string (str (sndP t))] 9 (0, 0)) := (hk3.block Bs hbs).trans HB6.out
            gi_wp2
            go_roundw
            case rel => exact ⟨pre ++ [x], sndP t, hb3, by omega, by rw [HE.out, List.map_append, List.append_assoc]; simp [HX.out], hJ3⟩
            case measure => rw [hL1, boxLen_eq (blk1 hb3).1]; exact hlt2
          · gi_wp2
            refine bodyPost_ret (results_none rfl _ _ _) rfl ?_
            exact ⟨⟨_, rfl⟩, .inr ⟨pre ++ [x], ⟨piecesL (sndP t), by rw [HE.out, List.map_append, List.append_assoc]; simp [HX.out]⟩, hJx3⟩⟩
        all_goals exact hq.elim
      · have hm1 : Lib.indexByte t 10 = -1 := by have := Lib.indexByte_ge t 10; omega
        have hf1 : fstP t = t := by unfold fstP; rw [if_neg hi]
        have hf2 : sndP t = [] := by unfold sndP; rw [if_neg hi]
        have hhI : ∀ W, Calls Tryz.prog 21 #[.string (str t), .int .u8 10] W fun e w' => e = .returned (.int .i64 (-1)) ∧ w' = W := by rw [← hm1]; exact HhI.out
        have hx1 : x.1 = t := HX.out.trans hf1
        have HX1 := Lib.hid hx1
        have hE2 : piecesL bs = pre.map Subtype.val ++ [x.1] := by rw [HE.out, hf2, hx1, hf1]; rfl
        have HE2 := Lib.hid hE2
        clear HhI hf1 hf2 hi hm1 hx1 hE2 HX HE hlt2
        have HhhI := Lib.hid hhI
        clear hhI
        gi_wp2_with (refine ⟨trivial, ?_⟩; gi_at_call 21; refine (callsIn_wide.2 (HhhI.out _)).mono ?_; rintro e w1 ⟨rfl, rfl⟩; obtain ⟨fn, tmps, assign, body, hy, hR⟩ := hY pre x (w1.setCell ⟨Bs, 0, none⟩ (.string ⟨#[]⟩)) (hJs _ _ _ hJ0) hlt; rw [HX1.out] at hy; have HB1 := Lib.hid HB.out)
        have hL1 := boxLen_eq hc0
        refine hR.mono ?_
        rintro e W3 (⟨rfl, hJ3, hk3⟩ | ⟨rfl, hJx3⟩)
        · have hb3 : W3.heap[Bs]? = some (.cells #[.string (str [])] 9 (0, 0)) := (hk3.block Bs hbs).trans (blk_set HB1.out (j := 0) _)
          gi_wp2
          go_roundw
          case rel => exact ⟨pre ++ [x], [], hb3, Nat.zero_le _, by rw [HE2.out]; simp [piecesL], hJ3⟩
          case measure => rw [hL1, boxLen_eq (blk1 hb3).1]; rw [str_size] at he; exact he
        · gi_wp2
          refine bodyPost_ret (results_none rfl _ _ _) rfl ?_
          exact ⟨⟨_, rfl⟩, .inr ⟨pre ++ [x], ⟨[], by rw [HE2.out]; simp⟩, hJx3⟩⟩
theorem Lines_stops (Bs : Nat) (S : Nat → Prop) (bs : List UInt8) (hl : bs.length ≤ 100000) (hbs : S Bs) (w : World) (hc : w.heap[Bs]? = some (.cells #[.string (str bs)] 9 (0, 0))) :
    SeqStopsB Bs Fence.wide 3 Tryz.prog 20 #[.pointer (some ⟨Bs, 0, none⟩)] (fun x : Pc => #[.string (str x.1)]) (Keep S) (fun ys => ys.map Subtype.val = piecesL bs) (fun pre => pre.map Subtype.val <+: piecesL bs) (piecesL bs).length w := fun l J Jx W hW hJ _ hY h0 => by
  have hE : Ext w W := hW
  exact lines1_in l Bs S bs hl J Jx W (fun p A B h hx => hJ p A B none h ⟨hx.os, hx.tape, hx.output, hx.size, fun k hk _ => hx.block hk⟩ (fun r e => by cases e))
    (fun p A v h => hJ p A _ (some Bs) h ⟨rfl, rfl, rfl, by simp [World.setCell], fun k _ hne => Below.heap_setCell _ _ _ _ (fun e => hne (by rw [e]))⟩ (fun r e => .inl (Option.some.inj e).symm)) hY hbs (blk_ext4 hc hE) h0
end L07
end Go.Proofs.YtbpmokffhmiacaaGreatDoor
