/- Layer 13: the walk of each. -/
import Derived.Test.YtkmbahpjioopdaaLineI0
import Derived.Test.YtkmbahpjioopdaaUnitE
namespace Go.Proofs.Ytkmbahpjioopdaa
open Go.RowKit Go.Shelf V
attribute [local go_sem] Oper.semAt_some Option.isSome_some
namespace L12
theorem stepU_len (st : US) (x : LN) : (stepU st x).al.length + (stepU st x).nl.length ≤ st.al.length + st.nl.length + 1 := by
  unfold stepU; split
  · dsimp only; omega
  split
  · dsimp only; rw [List.length_append, List.length_singleton]; omega
  · dsimp only; rw [List.length_append, List.length_singleton]; omega
theorem foldU_len : ∀ (xs : List LN) (st : US), (xs.foldl stepU st).al.length + (xs.foldl stepU st).nl.length ≤ st.al.length + st.nl.length + xs.length
  | [], _ => Nat.le_refl _
  | x :: r, st => by
    rw [List.foldl_cons]
    have h1 := foldU_len r (stepU st x)
    have h2 := stepU_len st x
    rw [List.length_cons]; omega
set_option maxRecDepth 100000 in
set_option maxHeartbeats 4000000 in
theorem each_calls {w0 W : World} {F N R B0 base : Nat} {fn : ByteArray} {st : US} {u1 u2 v : Value} {xs : List LN} (h : S13 w0 F N R B0 fn st u1 u2 W) (hv : W.ownsRow base 90 2 v xs.length (xs.flatMap encN)) (hvb : ∀ b, v.ownBlock = some b → b < B0 ∧ b ≠ N ∧ b ≠ R)
    (hxs : ∀ x ∈ xs, x.2.length ≤ 2000000000) (hl : xs.length ≤ 10000) (hst : st.al.length + st.nl.length ≤ 10000) :
    Calls Try.prog 34 #[v, .func (.func 35) #[.pointer (some ⟨R, 0, none⟩)] #[]] W fun e w' => e = .returned (.tuple #[]) ∧ ∃ u1' u2', S13 w0 F N R B0 fn (xs.foldl stepU st) u1' u2' w' ∧ K13 N R B0 W w' := by
  obtain ⟨a, c, rfl⟩ := own_form hv
  have Hhv := Lib.hid hv
  clear hv
  have Hhvb := Lib.hid hvb
  clear hvb
  have Hhxs := Lib.hid hxs
  clear hxs
  have HS := Lib.hid h
  clear h
  go_enter Try.func34, Try.ntmps34
  go_wp2_with fail
  go_loopg [8] xs.length (fun g u wr => ∃ (W2 : World) (i : Nat) (u1 u2 : Value), W2 = wr ∧ u = .int .i64 (i : Int) ∧ xs.length = i + g ∧ S13 w0 F N R B0 fn ((xs.take i).foldl stepU st) u1 u2 W2 ∧ K13 N R B0 W W2)
  case atStart => exact ⟨W, 0, u1, u2, rfl, rfl, by omega, by simpa using HS.out, Keep.refl _ _⟩
  case round =>
    obtain ⟨W2, i, v1, v2, rfl, rfl, hig, hs, hk⟩ := hrel
    have HS2 := Lib.hid hs
    have HK2 := Lib.hid hk
    clear hs hk
    by_cases hi : i < xs.length
    · have HG : Hid (xs.length = i + gk) := Lib.hid hig
      obtain ⟨a', c', e, hc2, hcell⟩ := rdN_cell (rd_of_own encN_len (ownsRow_keep Hhv.out HK2.out Hhvb.out))
      cases e
      obtain ⟨b, o, rfl, q0, q1⟩ := hcell i hi
      have hx := Hhxs.out xs[i] (List.getElem_mem _)
      have htk : (xs.take (i + 1)).foldl stepU st = stepU ((xs.take i).foldl stepU st) xs[i] := by
        rw [List.take_succ_eq_append_getElem hi, List.foldl_append]; rfl
      have hfl := foldU_len (xs.take i) st
      rw [List.length_take] at hfl
      have hmn : min i xs.length ≤ i := Nat.min_le_left _ _
      have HL := Lib.hid (fun (w2 : World) (hx2 : Ext W2 w2) => line_calls (HS2.out.ext' hx2) xs[i] hx (by omega) (by omega))
      have hw1 : IntKind.i64.wrap ((i : Int) + 1) = (i : Int) + 1 := IntWalk.i64_in _ (by omega)
      have hiz : (i : Int) < (xs.length : Int) := by omega
      generalize hxi : xs[i] = x at *
      obtain ⟨n, t⟩ := x
      unfold lineV at HL
      dsimp only at q0 q1 HL
      have qb := World.block_lt_of_cell? _ _ q0
      have Hhtk := Lib.hid htk
      clear htk
      have Hhxi := Lib.hid hxi
      clear hxi
      clear hig hcell hfl hmn hx
      go_wp2_with fail
      refine (HL.out _ ((Ext.refl W2).alloc _)).mono ?_
      rintro e w3 ⟨rfl, u1', u2', hs3, hk3⟩
      have HS3 := Lib.hid hs3
      have HK3 := Lib.hid (HK2.out.trans ((K13.ext HS2.out.bs ((Ext.refl W2).alloc (.cells #[.int .i64 (n : Int), .string (str t)] 90))).trans hk3))
      clear hs3 hk3
      go_wp2_with fail
      go_roundg (xs.length - (i + 1))
      case measure => have := HG.out; omega
      case rel => exact ⟨_, i + 1, u1', u2', rfl, rfl, by omega, by rw [Hhtk.out]; exact HS3.out, HK3.out⟩
    · have hie : i = xs.length := by omega
      have HI := Lib.hid hie
      have hd : ((i : Int) < (xs.length : Int)) = False := by simp; omega
      clear hig hie
      go_wp2_with fail
      go_end0
      have hS2 := HS2.out
      rw [HI.out, List.take_length] at hS2
      exact ⟨rfl, _, _, hS2, HK2.out⟩
end L12
end Go.Proofs.Ytkmbahpjioopdaa
