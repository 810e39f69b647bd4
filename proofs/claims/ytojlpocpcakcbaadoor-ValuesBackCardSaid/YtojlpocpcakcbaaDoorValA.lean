/- Layer 15: strings.Cut at one byte; the walks of Turned, Read, reads, Text. -/
import Derived.Laws.IdiomStrings
import Derived.Laws.ResultCell
import Derived.Deep.DeepCutAuto
import Derived.Laws.BitsAllLaws
import Derived.Test.YtojlpocpcakcbaaDoorKept
import Derived.Test.YtojlpocpcakcbaaDoorNameF
namespace Go.Proofs.YtojlpocpcakcbaaDoor
open Go.RowKit Go.Shelf Go.Sort V
attribute [local go_sem] Oper.semAt_some
namespace L10
theorem bytes_ext (t : ByteArray) (a b : Nat) : bytes (t.extract a b) = ((bytes t).drop a).take (b - a) := by
  simp [bytes, ByteArray.data_extract]
theorem ext_size (t : ByteArray) (a b : Nat) (hb : b ≤ t.size) : (t.extract a b).size = b - a := by
  rw [← bytes_len, bytes_ext, List.length_take, List.length_drop, bytes_len]; omega
/-- what lies ahead of a byte's first place, what lies behind it, and whether it has one -/
def hd1 (c : UInt8) (l : List UInt8) : List UInt8 := l.takeWhile (· != c)
def tl1 (c : UInt8) (l : List UInt8) : List UInt8 := (l.dropWhile (· != c)).drop 1
theorem hd1_len (c : UInt8) (l : List UInt8) : (hd1 c l).length ≤ l.length := by
  unfold hd1; exact (List.takeWhile_prefix _).length_le
theorem hd1_take (c : UInt8) (l : List UInt8) : l.take (hd1 c l).length = hd1 c l := by
  unfold hd1; exact (List.prefix_iff_eq_take.1 (List.takeWhile_prefix _)).symm
theorem tl1_drop (c : UInt8) : ∀ (l : List UInt8), l.drop ((hd1 c l).length + 1) = tl1 c l
  | [] => rfl
  | x :: r => by
    unfold hd1 tl1
    by_cases h : x = c
    · have hx : ¬ (x != c) = true := by simp [h]
      rw [List.takeWhile_cons_of_neg (p := (· != _)) hx, List.dropWhile_cons_of_neg (p := (· != _)) hx]; rfl
    · have hx : (x != c) = true := by simp [h]
      rw [List.takeWhile_cons_of_pos (p := (· != _)) hx, List.dropWhile_cons_of_pos (p := (· != _)) hx]
      exact tl1_drop c r
theorem hd1_all {c : UInt8} : ∀ {l : List UInt8}, l.contains c = false → hd1 c l = l ∧ tl1 c l = []
  | [], _ => ⟨rfl, rfl⟩
  | x :: r, h => by
    rw [List.contains_cons, Bool.or_eq_false_iff] at h
    have hx : (x != c) = true := by have := h.1; simp at this; simp; exact fun e => this e.symm
    obtain ⟨h1, h2⟩ := hd1_all h.2
    unfold hd1 tl1 at *
    rw [List.takeWhile_cons_of_pos (p := (· != _)) hx, List.dropWhile_cons_of_pos (p := (· != _)) hx, h1]
    exact ⟨rfl, h2⟩
theorem idx_hd1 (c : UInt8) : ∀ (l : List UInt8), Lib.indexByte l c = if l.contains c = true then ((hd1 c l).length : Int) else -1
  | [] => rfl
  | x :: r => by
    unfold Lib.indexByte
    rw [List.contains_cons]
    by_cases h : x = c
    · subst h
      have hx : ¬ (x != x) = true := by simp
      rw [if_pos (by simp), if_pos (by simp)]
      unfold hd1
      rw [List.takeWhile_cons_of_neg (p := (· != _)) hx]; rfl
    · have hx : (x != c) = true := by simp [h]
      have hc : (c == x) = false := by rw [beq_eq_false_iff_ne]; exact fun e => h e.symm
      rw [if_neg (by simpa using h), hc, Bool.false_or, idx_hd1 c r]
      unfold hd1
      rw [List.takeWhile_cons_of_pos (p := (· != _)) hx]
      by_cases hr : r.contains c = true
      · rw [if_pos hr, if_pos hr, if_neg (by first | (simp; done) | (simp; omega)), List.length_cons]; simp
      · rw [if_neg hr, if_neg hr, if_pos (by simp)]
theorem hd1_lt {c : UInt8} : ∀ {l : List UInt8}, l.contains c = true → (hd1 c l).length < l.length
  | [], h => by cases h
  | x :: r, h => by
    unfold hd1
    by_cases hx : x = c
    · have hx : ¬ (x != c) = true := by simp [hx]
      rw [List.takeWhile_cons_of_neg (p := (· != _)) hx]; simp
    · rw [List.contains_cons] at h
      have hc : (c == x) = false := by rw [beq_eq_false_iff_ne]; exact fun e => hx e.symm
      rw [hc, Bool.false_or] at h
      have hx : (x != c) = true := by simp [hx]
      rw [List.takeWhile_cons_of_pos (p := (· != _)) hx]
      have := hd1_lt h
      unfold hd1 at this
      simp only [List.length_cons]; omega
def cutT (c : UInt8) (l : List UInt8) : Value := .tuple #[.string (str (hd1 c l)), .string (str (tl1 c l)), .bool (l.contains c)]
set_option maxHeartbeats 1000000 in
theorem slCut_calls (s : ByteArray) (c : UInt8) (hs : s.size ≤ maxLen) (w : World) :
    Calls Tryd.prog 48 #[.string s, .string ⟨#[c]⟩] w fun e w' => e = .returned (cutT c (bytes s)) ∧ Ext w w' := by
  have hI := fun W => Tryd.stringslite_Index_one s c W
  rw [idx_hd1] at hI
  unfold maxLen at hs
  have h1 := @hd1_lt c (bytes s)
  have h2 := hd1_take c (bytes s)
  have h3 := tl1_drop c (bytes s)
  have h4 := @hd1_all c (bytes s)
  unfold cutT
  rw [show s.data.toList = bytes s from rfl] at hI
  cases hc : (bytes s).contains c
  · rw [hc, if_neg (by simp)] at hI
    obtain ⟨e1, e2⟩ := h4 hc
    rw [e1, e2, str_bytes]
    clear h1 h2 h3 h4
    have HhI := Lib.hid hI
    clear hI
    have Hhc := Lib.hid hc
    clear hc
    have He1 := Lib.hid e1
    clear e1
    have He2 := Lib.hid e2
    clear e2
    go_enter Tryd.func48, Tryd.ntmps48
    go_wp2_with fail
    refine (HhI.out _).mono ?_
    rintro e w1 ⟨rfl, rfl⟩
    go_wp2_with fail
    go_ret3
    exact ⟨rfl, Ext.refl _⟩
  · rw [hc, if_pos rfl] at hI
    have hlt := h1 hc
    rw [bytes_len] at hlt
    clear h1 h4
    have e1 : s.extract 0 (hd1 c (bytes s)).length = str (hd1 c (bytes s)) := bytes_inj (by rw [bytes_ext, List.drop_zero, Nat.sub_zero, h2, bytes_str])
    have e2 : s.extract ((hd1 c (bytes s)).length + 1) s.size = str (tl1 c (bytes s)) := bytes_inj (by
      rw [bytes_ext, h3, List.take_of_length_le (by rw [← h3, List.length_drop, bytes_len]; omega), bytes_str])
    rw [← e1, ← e2]
    clear h2 h3
    generalize (hd1 c (bytes s)).length = k at *
    have hw : IntKind.i64.wrap ((k : Int) + 1) = (k : Int) + 1 := IntWalk.i64_in _ (by omega)
    have hk0 : (0 : Int) ≤ (k : Int) + 1 := by omega
    have hk1 : ((k : Int) + 1).toNat = k + 1 := by omega
    have HhI := Lib.hid hI
    clear hI
    have Hhc := Lib.hid hc
    clear hc
    have He1 := Lib.hid e1
    clear e1
    have He2 := Lib.hid e2
    clear e2
    go_enter Tryd.func48, Tryd.ntmps48
    go_wp2_with fail
    refine (HhI.out _).mono ?_
    rintro e w1 ⟨rfl, rfl⟩
    go_wp2_with (go_quiet (fail))
    go_ret3
    exact ⟨rfl, by repeat (first | exact Ext.refl _ | apply Ext.drewN)⟩
theorem Cut_calls (s : ByteArray) (c : UInt8) (hs : s.size ≤ maxLen) (w : World) :
    Calls Tryd.prog 42 #[.string s, .string ⟨#[c]⟩] w fun e w' => e = .returned (cutT c (bytes s)) ∧ Ext w w' := by
  have hI := fun W => slCut_calls s c hs W
  unfold cutT at *
  generalize (bytes s).contains c = bb at *
  generalize str (hd1 c (bytes s)) = s1 at *
  generalize str (tl1 c (bytes s)) = s2 at *
  have HhI := Lib.hid hI
  clear hI
  go_enter Tryd.func42, Tryd.ntmps42
  go_wp2_with fail
  refine (HhI.out _).mono ?_
  rintro e w1 ⟨rfl, hx⟩
  go_wp2_with fail
  go_ret3
  exact ⟨rfl, hx⟩
theorem tl1_len (c : UInt8) (l : List UInt8) : (tl1 c l).length = l.length - (hd1 c l).length - 1 := by
  rw [← tl1_drop, List.length_drop]; omega
/-- an entry: name, action, whether it has one -/
abbrev En := List UInt8 × Nat × Bool
def enV (x : En) : Value := .agg #[.string (str x.1), .int .u32 (x.2.1 : Int), .bool x.2.2]
/-- what a word is read as -/
def readL (s : List UInt8) : En × Int :=
  if hd1 58 s = [] then (([], 0, false), 161)
  else if s.contains 58 = false then ((hd1 58 s, 0, false), 0)
  else if tl1 58 s = [107, 105, 108, 108] then ((hd1 58 s, 2147483648, true), 0)
  else if (errnoL (tl1 58 s)).2 = 0 then ((hd1 58 s, 327680 ||| (errnoL (tl1 58 s)).1, true), 0)
  else (([], 0, false), 160)
theorem errnoL_ok (s : List UInt8) : ((errnoL s).2 = 0 ∧ (errnoL s).1 ≤ 4095) ∨ ((errnoL s).2 = 160) := by
  unfold errnoL
  rcases findL_ok errT s 160 with h | h
  · rw [h, if_pos rfl]
    refine .inl ⟨rfl, ?_⟩
    have hm : ∀ x ∈ errT, x.2 ≤ 4095 := by decide
    show (findL errT s 160).1 ≤ 4095
    unfold findL
    split
    · rename_i x hx
      exact hm x (List.mem_of_find?_eq_some hx)
    · exact Nat.zero_le _
  · rw [h, if_neg (by simp)]
    unfold numL
    split
    · rename_i hh; exact .inl ⟨rfl, hh.2.2.2⟩
    · exact .inr rfl
theorem str_eq (t : ByteArray) (l : List UInt8) : (t.toList == (str l).toList) = decide (bytes t = l) := by
  rw [str_beq, bytes_str, Bool.eq_iff_iff, beq_iff_eq, decide_eq_true_iff]
set_option maxRecDepth 100000 in
set_option maxHeartbeats 1000000 in
theorem Turned_calls (s : ByteArray) (w : World) : Calls Tryd.prog 46 #[.string s] w fun e w' => e = .returned (.tuple #[.string (str (Lib.trimPrefix (bytes s) [126])), .bool (Lib.hasPrefix (bytes s) [126])]) ∧ w' = w := by
  have h := fun W => Tryd.strings_CutPrefix s ⟨#[126]⟩ W
  rw [show s.data.toList = bytes s from rfl, show (⟨#[126]⟩ : ByteArray).data.toList = [126] from rfl] at h
  change ∀ W, Calls Tryd.prog 53 #[.string s, .string ⟨#[126]⟩] W fun e w' => e = .returned (.tuple #[.string (str (Lib.trimPrefix (bytes s) [126])), .bool (Lib.hasPrefix (bytes s) [126])]) ∧ w' = W at h
  generalize str (Lib.trimPrefix (bytes s) [126]) = t at *
  generalize Lib.hasPrefix (bytes s) [126] = b at *
  have Hh := Lib.hid h
  clear h
  go_enter Tryd.func46, Tryd.ntmps46
  go_wp2_with fail
  refine (Hh.out _).mono ?_
  rintro e w1 ⟨rfl, rfl⟩
  go_wp2_with fail
  go_ret2
  exact ⟨rfl, rfl⟩
theorem blk3 {w w1 : World} {a b c : Value} {t : TypeId} (hx : Ext (w.alloc (.cells #[a, b, c] t)) w1) :
    w1.cell? ⟨w.heap.size, 0, none⟩ = some a ∧ w1.cell? ⟨w.heap.size, 1, none⟩ = some b ∧ w1.cell? ⟨w.heap.size, 2, none⟩ = some c ∧
    w1.frozen? ⟨w.heap.size, 0, none⟩ = false ∧ w1.frozen? ⟨w.heap.size, 1, none⟩ = false ∧ w1.frozen? ⟨w.heap.size, 2, none⟩ = false ∧ w.heap.size < w1.heap.size := by
  have hb : w1.heap[w.heap.size]? = some (.cells #[a, b, c] t (0, 0)) := (hx.block (by simp)).trans (heap_alloc_new w _)
  refine ⟨by simp [World.cell?, hb], by simp [World.cell?, hb], by simp [World.cell?, hb], by simp [World.frozen?, hb], by simp [World.frozen?, hb], by simp [World.frozen?, hb], (Array.getElem?_eq_some_iff.1 hb).1⟩
theorem set3 {w1 : World} {B : Nat} {a b c : Value} (x y z : Value) (c0 : w1.cell? ⟨B, 0, none⟩ = some a) (c1 : w1.cell? ⟨B, 1, none⟩ = some b) (c2 : w1.cell? ⟨B, 2, none⟩ = some c) :
    (((w1.setCell ⟨B, 0, none⟩ x).setCell ⟨B, 1, none⟩ y).setCell ⟨B, 2, none⟩ z).cell? ⟨B, 0, none⟩ = some x ∧ (((w1.setCell ⟨B, 0, none⟩ x).setCell ⟨B, 1, none⟩ y).setCell ⟨B, 2, none⟩ z).cell? ⟨B, 1, none⟩ = some y ∧ (((w1.setCell ⟨B, 0, none⟩ x).setCell ⟨B, 1, none⟩ y).setCell ⟨B, 2, none⟩ z).cell? ⟨B, 2, none⟩ = some z := by
  refine ⟨?_, ?_, ?_⟩
  · rw [World.cell?_setCell_other _ ⟨B, 2, none⟩ ⟨B, 0, none⟩ _ (fun e => by cases e), World.cell?_setCell_other _ ⟨B, 1, none⟩ ⟨B, 0, none⟩ _ (fun e => by cases e), World.cell?_setCell_same _ _ _ c0]
  · rw [World.cell?_setCell_other _ ⟨B, 2, none⟩ ⟨B, 1, none⟩ _ (fun e => by cases e)]
    exact World.cell?_setCell_same _ _ _ ((World.cell?_setCell_other _ ⟨B, 0, none⟩ ⟨B, 1, none⟩ _ (fun e => by cases e)).trans c1)
  · exact World.cell?_setCell_same _ _ _ ((World.cell?_setCell_other _ ⟨B, 1, none⟩ ⟨B, 2, none⟩ _ (fun e => by cases e)).trans ((World.cell?_setCell_other _ ⟨B, 0, none⟩ ⟨B, 2, none⟩ _ (fun e => by cases e)).trans c2))
theorem load3 {W : World} {B : Nat} {x y z : Value} {t : TypeId} (hz : (Tryd.prog.info? t).map (·.size) = some 3) (hu : ∃ fs, Tryd.prog.underlying t = some (.struct fs)) (c0 : W.cell? ⟨B, 0, none⟩ = some x) (c1 : W.cell? ⟨B, 1, none⟩ = some y) (c2 : W.cell? ⟨B, 2, none⟩ = some z) :
    (loadVar t ⟨B, 0, none⟩).run Tryd.prog W = .ok (.agg #[x, y, z]) W := by
  obtain ⟨fs, hu⟩ := hu
  cases hq : Tryd.prog.info? t with
  | none => simp [hq] at hz
  | some i =>
    simp [hq] at hz
    simp [loadVar, isAgg, sizeOf, typeInfo, underlying, hq, hz, hu, loadCells, loadCellsFrom, go_sem, c0, c1, c2]
theorem frozen_ext {w w1 : World} {a : Addr} (hx : Ext w w1) (hl : a.block < w.heap.size) (h : w.frozen? a = false) : w1.frozen? a = false := (World.frozen?_of_block (hx.block hl)).trans h
theorem mid3 {w w1 w3 : World} {B : Nat} {p q r v a b c : Value} {t : TypeId} (hx : Ext (w1.alloc (.cells #[p, q, r] t)) w3) (hw : Ext w w1) (bl : B < w1.heap.size)
    (c0 : w1.cell? ⟨B, 0, none⟩ = some a) (c1 : w1.cell? ⟨B, 1, none⟩ = some b) (c2 : w1.cell? ⟨B, 2, none⟩ = some c) (f0 : w1.frozen? ⟨B, 0, none⟩ = false) (f1 : w1.frozen? ⟨B, 1, none⟩ = false) (f2 : w1.frozen? ⟨B, 2, none⟩ = false)
    (W : World) (hW : W = w3.setCell ⟨w1.heap.size, 1, none⟩ v) :
    (W.cell? ⟨w1.heap.size, 0, none⟩ = some p ∧ W.cell? ⟨w1.heap.size, 1, none⟩ = some v ∧ W.cell? ⟨w1.heap.size, 2, none⟩ = some r) ∧
    (W.cell? ⟨B, 0, none⟩ = some a ∧ W.cell? ⟨B, 1, none⟩ = some b ∧ W.cell? ⟨B, 2, none⟩ = some c ∧ W.frozen? ⟨B, 0, none⟩ = false ∧ W.frozen? ⟨B, 1, none⟩ = false ∧ W.frozen? ⟨B, 2, none⟩ = false) ∧ Ext w W := by
  obtain ⟨d0, d1, d2, -, -, -, -⟩ := blk3 hx
  have hx1 : Ext w1 w3 := ((Ext.refl w1).alloc _).trans hx
  have hbk : W.heap[B]? = w1.heap[B]? := by rw [hW]; exact (Below.heap_setCell _ _ _ B (by show B ≠ w1.heap.size; omega)).trans (hx1.block bl)
  subst hW
  refine ⟨⟨?_, ?_, ?_⟩, ⟨?_, ?_, ?_, ?_, ?_, ?_⟩, (hw.trans hx1).setCell hw.size _⟩
  · rw [World.cell?_setCell_other _ _ _ _ (fun e => by cases e)]; exact d0
  · exact World.cell?_setCell_same _ _ _ d1
  · rw [World.cell?_setCell_other _ _ _ _ (fun e => by cases e)]; exact d2
  · exact (World.cell?_of_block (a := ⟨B, 0, none⟩) hbk).trans c0
  · exact (World.cell?_of_block (a := ⟨B, 1, none⟩) hbk).trans c1
  · exact (World.cell?_of_block (a := ⟨B, 2, none⟩) hbk).trans c2
  · exact (World.frozen?_of_block (a := ⟨B, 0, none⟩) hbk).trans f0
  · exact (World.frozen?_of_block (a := ⟨B, 1, none⟩) hbk).trans f1
  · exact (World.frozen?_of_block (a := ⟨B, 2, none⟩) hbk).trans f2
set_option maxRecDepth 100000 in
theorem read_end {fn : Func} {T : TypeId} {w W : World} {A : Act} {B : Nat} {x y z a b c : Value} {n : Int} (hr : fn.results = #[.cell 2 T, .tmp 3]) (hz : (Tryd.prog.info? T).map (·.size) = some 3) (hu : ∃ fs, Tryd.prog.underlying T = some (.struct fs))
    (h2 : A.tmps.getD 2 undef = .pointer (some ⟨B, 0, none⟩)) (h3 : A.tmps.getD 3 undef = .int .i64 n) (hd : A.defers = []) (c0 : W.cell? ⟨B, 0, none⟩ = some a) (c1 : W.cell? ⟨B, 1, none⟩ = some b) (c2 : W.cell? ⟨B, 2, none⟩ = some c) (hE : Ext w W) (hB : w.heap.size ≤ B) :
    bodyPost Tryd.prog fn (fun e w' => e = .returned (.tuple #[.agg #[x, y, z], .int .i64 n]) ∧ Ext w w') .ret A (((W.setCell ⟨B, 0, none⟩ x).setCell ⟨B, 1, none⟩ y).setCell ⟨B, 2, none⟩ z) := by
  obtain ⟨s0, s1, s2⟩ := set3 x y z c0 c1 c2
  refine bodyPost_ret (v := .tuple #[.agg #[x, y, z], .int .i64 n]) ?_ hd ⟨rfl, ((hE.setCell hB _).setCell hB _).setCell hB _⟩
  rw [results_cell_tmp hr, h2, h3]
  show (((loadVar T ⟨B, 0, none⟩).run Tryd.prog _).andThen _) = _
  rw [load3 hz hu s0 s1 s2]
  rfl
set_option maxRecDepth 100000 in
set_option maxHeartbeats 2000000 in
theorem Read_calls (s : ByteArray) (hs : s.size ≤ 1000000) (w : World) : Calls Tryd.prog 26 #[.string s] w fun e w' => e = .returned (.tuple #[enV (readL (bytes s)).1, .int .i64 (readL (bytes s)).2]) ∧ Ext w w' := by
  have hC := fun W => Cut_calls s 58 (by unfold maxLen; omega) W
  have hE := fun W => Errno_calls (str (tl1 58 (bytes s))) (by rw [str_size, tl1_len, bytes_len]; omega) W
  rw [bytes_str] at hE
  have hR : readL (bytes s) = if hd1 58 (bytes s) = [] then (([], 0, false), 161) else if (bytes s).contains 58 = false then ((hd1 58 (bytes s), 0, false), 0) else if tl1 58 (bytes s) = [107, 105, 108, 108] then ((hd1 58 (bytes s), 2147483648, true), 0) else if (errnoL (tl1 58 (bytes s))).2 = 0 then ((hd1 58 (bytes s), 327680 ||| (errnoL (tl1 58 (bytes s))).1, true), 0) else (([], 0, false), 160) := rfl
  have hok := errnoL_ok (tl1 58 (bytes s))
  have hem := str_emp (hd1 58 (bytes s))
  have hki : ((str (tl1 58 (bytes s))).toList == [107, 105, 108, 108]) = decide (tl1 58 (bytes s) = [107, 105, 108, 108]) := by
    rw [Lib.toList_data, show (str (tl1 58 (bytes s))).data.toList = tl1 58 (bytes s) from bytes_str _, Bool.eq_iff_iff, beq_iff_eq, decide_eq_true_iff]
  unfold cutT at hC
  obtain ⟨RR, hRR⟩ : ∃ RR, RR = readL (bytes s) := ⟨_, rfl⟩
  rw [← hRR] at hR ⊢
  generalize (bytes s).contains 58 = bc at *
  generalize hd1 58 (bytes s) = nm at *
  generalize tl1 58 (bytes s) = sf at *
  generalize errnoL sf = en at *
  obtain ⟨e1, e2⟩ := en
  dsimp only at *
  clear hRR
  have HhC := Lib.hid hC
  clear hC
  have HhE := Lib.hid hE
  clear hE
  by_cases h0 : nm = []
  · rw [if_pos h0] at hR
    rw [decide_eq_true h0] at hem
    subst hR
    clear h0 hki hok
    generalize str nm = nv at *
    go_enter Tryd.func26, Tryd.ntmps26
    go_wp2_with fail
    refine (HhC.out _).mono ?_
    rintro e w1 ⟨rfl, hx1⟩
    obtain ⟨c0, c1, c2, f0, f1, f2, bl⟩ := blk3 hx1
    have HX1 : Hid (Ext w w1) := Lib.hid (((Ext.refl w).alloc _).trans hx1)
    clear hx1
    go_wp2_with fail
    exact read_end Tryd.results26 (by kernel_rfl) ⟨_, Tryd.underlying48⟩ rfl rfl rfl c0 c1 c2 HX1.out (Nat.le_refl _)
  · rw [if_neg h0] at hR
    rw [decide_eq_false h0] at hem
    clear h0
    generalize hnv : str nm = nv at *
    have Hhnv := Lib.hid hnv
    clear hnv
    cases bc
    · rw [if_pos rfl] at hR
      have hRV : enV RR.1 = .agg #[.string nv, .int .u32 0, .bool false] := by rw [hR]; show Value.agg #[.string (str nm), _, _] = _; rw [Hhnv.out]; rfl
      have hR2 : RR.2 = 0 := by rw [hR]
      rw [hRV, hR2]
      clear hki hok hR hRV hR2
      go_enter Tryd.func26, Tryd.ntmps26
      go_wp2_with fail
      refine (HhC.out _).mono ?_
      rintro e w1 ⟨rfl, hx1⟩
      obtain ⟨c0, c1, c2, f0, f1, f2, bl⟩ := blk3 hx1
      have HX1 : Hid (Ext w w1) := Lib.hid (((Ext.refl w).alloc _).trans hx1)
      clear hx1
      go_upto_region 12 with fail
      obtain ⟨W3, hW3⟩ : ∃ W3, W3 = w1.alloc (.cells #[.string nv, .int .u32 0, .bool false] 48) := ⟨_, rfl⟩
      obtain ⟨e0, e1', e2', -, -, -, -⟩ := blk3 (Ext.refl (w1.alloc (.cells #[.string nv, .int .u32 0, .bool false] 48)))
      have hx13 : Ext w1 W3 := by rw [hW3]; exact (Ext.refl w1).alloc _
      rw [← hW3] at e0 e1' e2' ⊢
      replace c0 := hx13.cell c0
      replace c1 := hx13.cell c1
      replace c2 := hx13.cell c2
      replace f0 := frozen_ext hx13 bl f0
      replace f1 := frozen_ext hx13 bl f1
      replace f2 := frozen_ext hx13 bl f2
      have HX3 := Lib.hid (HX1.out.trans hx13)
      clear hW3 hx13
      go_wp2_with fail
      exact read_end Tryd.results26 (by kernel_rfl) ⟨_, Tryd.underlying48⟩ rfl rfl rfl c0 c1 c2 HX3.out (Nat.le_refl _)
    · rw [if_neg (by simp)] at hR
      by_cases hk : sf = [107, 105, 108, 108]
      · rw [if_pos hk] at hR
        rw [decide_eq_true hk] at hki
        have hRV : enV RR.1 = .agg #[.string nv, .int .u32 2147483648, .bool true] := by rw [hR]; show Value.agg #[.string (str nm), _, _] = _; rw [Hhnv.out]; rfl
        have hR2 : RR.2 = 0 := by rw [hR]
        rw [hRV, hR2]
        clear hk hok hR hRV hR2
        generalize str sf = sv at *
        go_enter Tryd.func26, Tryd.ntmps26
        go_wp2_with fail
        refine (HhC.out _).mono ?_
        rintro e w1 ⟨rfl, hx1⟩
        obtain ⟨c0, c1, c2, f0, f1, f2, bl⟩ := blk3 hx1
        have HX1 : Hid (Ext w w1) := Lib.hid (((Ext.refl w).alloc _).trans hx1)
        clear hx1
        go_upto_region 12 with fail
        obtain ⟨W3, hW3⟩ : ∃ W3, W3 = w1.alloc (.cells #[.string nv, .int .u32 2147483648, .bool true] 48) := ⟨_, rfl⟩
        obtain ⟨e0, e1', e2', -, -, -, -⟩ := blk3 (Ext.refl (w1.alloc (.cells #[.string nv, .int .u32 2147483648, .bool true] 48)))
        have hx13 : Ext w1 W3 := by rw [hW3]; exact (Ext.refl w1).alloc _
        rw [← hW3] at e0 e1' e2' ⊢
        replace c0 := hx13.cell c0
        replace c1 := hx13.cell c1
        replace c2 := hx13.cell c2
        replace f0 := frozen_ext hx13 bl f0
        replace f1 := frozen_ext hx13 bl f1
        replace f2 := frozen_ext hx13 bl f2
        have HX3 := Lib.hid (HX1.out.trans hx13)
        clear hW3 hx13
        go_wp2_with fail
        exact read_end Tryd.results26 (by kernel_rfl) ⟨_, Tryd.underlying48⟩ rfl rfl rfl c0 c1 c2 HX3.out (Nat.le_refl _)
      · rw [if_neg hk] at hR
        rw [decide_eq_false hk] at hki
        clear hk
        rcases hok with ⟨rfl, hle⟩ | rfl
        · rw [if_pos rfl] at hR
          have hbo := u32_or_nat 327680 e1 (by omega) (by omega)
          have hRV : enV RR.1 = .agg #[.string nv, .int .u32 ((327680 ||| e1 : Nat) : Int), .bool true] := by rw [hR]; show Value.agg #[.string (str nm), _, _] = _; rw [Hhnv.out]
          have hR2 : RR.2 = 0 := by rw [hR]
          rw [hRV, hR2]
          obtain ⟨g, hg⟩ : ∃ g, g = 327680 ||| e1 := ⟨_, rfl⟩
          rw [← hg] at hbo ⊢
          have hbo2 : bits .or .u32 327680 (e1 : Int) = (g : Int) := hbo
          clear hR hRV hR2 hg hbo
          generalize str sf = sv at *
          go_enter Tryd.func26, Tryd.ntmps26
          go_wp2_with fail
          refine (HhC.out _).mono ?_
          rintro e w1 ⟨rfl, hx1⟩
          obtain ⟨c0, c1, c2, f0, f1, f2, bl⟩ := blk3 hx1
          have HX1 : Hid (Ext w w1) := Lib.hid (((Ext.refl w).alloc _).trans hx1)
          clear hx1
          go_wp2_with fail
          refine (HhE.out _).mono ?_
          rintro e w3 ⟨rfl, hx3⟩
          obtain ⟨k0, k1, k2, l0, l1, l2, bl2⟩ := blk3 hx3
          have HM := Lib.hid (fun W hW => mid3 (v := .int .u32 (g : Int)) hx3 HX1.out bl c0 c1 c2 f0 f1 f2 W hW)
          clear hx3 c0 c1 c2 f0 f1 f2
          go_upto_region 12 with fail
          obtain ⟨W3, hW3⟩ : ∃ W3, W3 = w3.setCell ⟨w1.heap.size, 1, none⟩ (.int .u32 (g : Int)) := ⟨_, rfl⟩
          rw [← hW3]
          obtain ⟨⟨m0, m1, m2⟩, ⟨c0, c1, c2, f0, f1, f2⟩, hx⟩ := HM.out W3 hW3
          have HX3 := Lib.hid hx
          clear hW3 hx k0 k1 k2 l0 l1 l2 bl2
          go_wp2_with fail
          exact read_end Tryd.results26 (by kernel_rfl) ⟨_, Tryd.underlying48⟩ rfl rfl rfl c0 c1 c2 HX3.out (Nat.le_refl _)
        · rw [if_neg (by simp)] at hR
          have hRV : enV RR.1 = .agg #[.string ⟨#[]⟩, .int .u32 0, .bool false] := by rw [hR]; rfl
          have hR2 : RR.2 = 160 := by rw [hR]
          rw [hRV, hR2]
          clear hR hRV hR2
          generalize str sf = sv at *
          go_enter Tryd.func26, Tryd.ntmps26
          go_wp2_with fail
          refine (HhC.out _).mono ?_
          rintro e w1 ⟨rfl, hx1⟩
          obtain ⟨c0, c1, c2, f0, f1, f2, bl⟩ := blk3 hx1
          have HX1 : Hid (Ext w w1) := Lib.hid (((Ext.refl w).alloc _).trans hx1)
          clear hx1
          go_wp2_with fail
          refine (HhE.out _).mono ?_
          rintro e w3 ⟨rfl, hx3⟩
          have hx13 : Ext w1 w3 := ((Ext.refl w1).alloc _).trans hx3
          replace c0 := hx13.cell c0
          replace c1 := hx13.cell c1
          replace c2 := hx13.cell c2
          replace f0 := frozen_ext hx13 bl f0
          replace f1 := frozen_ext hx13 bl f1
          replace f2 := frozen_ext hx13 bl f2
          have HX3 := Lib.hid (HX1.out.trans hx13)
          clear hx3 hx13
          go_wp2_with fail
          exact read_end Tryd.results26 (by kernel_rfl) ⟨_, Tryd.underlying48⟩ rfl rfl rfl c0 c1 c2 HX3.out (Nat.le_refl _)
end L10
end Go.Proofs.YtojlpocpcakcbaaDoor
