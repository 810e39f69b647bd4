/- Cut out of XNameF, XValA, XValD, XValE by wip/tools/cutout.py: what awake15_calls, Turned_calls, Words_calls, Bool_calls, str_app lean on. -/
import Derived.Lib.SmallJoins
import Derived.Laws.IdiomStrings
import Derived.Laws.ResultCell
import Derived.Deep.DeepCutAuto
import Derived.Laws.BitsAllLaws
import Derived.Test.YtojlpocpcakcbaaKept
import Derived.Test.YtojlpocpcakcbaaShelf
import Derived.Test.YtojlpocpcakcbaaValPA0
namespace Go.Proofs.Ytojlpocpcakcbaa
open Go.RowKit Go.Shelf Go.Sort V
attribute [local go_sem] Oper.semAt_some
namespace L10
theorem str_app (a b : List UInt8) : str a ++ str b = str (a ++ b) := bytes_inj (by simp [bytes, str])
theorem str_emp (l : List UInt8) : (str l).toList.isEmpty = decide (l = []) := by
  rw [Lib.toList_data]
  cases l <;> simp [str]
theorem bytes_ext (t : ByteArray) (a b : Nat) : bytes (t.extract a b) = ((bytes t).drop a).take (b - a) := by
  simp [bytes, ByteArray.data_extract]
/-- what lies ahead of a byte's first place, what lies behind it, and whether it has one -/
def hd1 (c : UInt8) (l : List UInt8) : List UInt8 := l.takeWhile (· != c)
def tl1 (c : UInt8) (l : List UInt8) : List UInt8 := (l.dropWhile (· != c)).drop 1
theorem hd1_take (c : UInt8) (l : List UInt8) : l.take (hd1 c l).length = hd1 c l := by
  unfold hd1; exact (List.prefix_iff_eq_take.1 (List.takeWhile_prefix _)).symm
theorem tl1_drop (c : UInt8) : ∀ (l : List UInt8), l.drop ((hd1 c l).length + 1) = tl1 c l
  | [] => rfl
  | x :: r => by
    unfold hd1 tl1
    by_cases h : x = c
    · have hx : ¬ (x != c) = true := by simp [h]
      rw [List.takeWhile_cons_of_neg (p := (· != _)) hx, List.dropWhile_cons_of_neg (p := (· != _)) hx]; rfl
    · have hx : (x != c) = true := by simp [h]
      rw [List.takeWhile_cons_of_pos (p := (· != _)) hx, List.dropWhile_cons_of_pos (p := (· != _)) hx]
      exact tl1_drop c r
theorem hd1_all {c : UInt8} : ∀ {l : List UInt8}, l.contains c = false → hd1 c l = l ∧ tl1 c l = []
  | [], _ => ⟨rfl, rfl⟩
  | x :: r, h => by
    rw [List.contains_cons, Bool.or_eq_false_iff] at h
    have hx : (x != c) = true := by have := h.1; simp at this; simp; exact fun e => this e.symm
    obtain ⟨h1, h2⟩ := hd1_all h.2
    unfold hd1 tl1 at *
    rw [List.takeWhile_cons_of_pos (p := (· != _)) hx, List.dropWhile_cons_of_pos (p := (· != _)) hx, h1]
    exact ⟨rfl, h2⟩
theorem idx_hd1 (c : UInt8) : ∀ (l : List UInt8), Lib.indexByte l c = if l.contains c = true then ((hd1 c l).length : Int) else -1
  | [] => rfl
  | x :: r => by
    unfold Lib.indexByte
    rw [List.contains_cons]
    by_cases h : x = c
    · subst h
      have hx : ¬ (x != x) = true := by simp
      rw [if_pos (by simp), if_pos (by simp)]
      unfold hd1
      rw [List.takeWhile_cons_of_neg (p := (· != _)) hx]; rfl
    · have hx : (x != c) = true := by simp [h]
      have hc : (c == x) = false := by rw [beq_eq_false_iff_ne]; exact fun e => h e.symm
      rw [if_neg (by simpa using h), hc, Bool.false_or, idx_hd1 c r]
      unfold hd1
      rw [List.takeWhile_cons_of_pos (p := (· != _)) hx]
      by_cases hr : r.contains c = true
      · rw [if_pos hr, if_pos hr, if_neg (by first | (simp; done) | (simp; omega)), List.length_cons]; simp
      · rw [if_neg hr, if_neg hr, if_pos (by simp)]
theorem hd1_lt {c : UInt8} : ∀ {l : List UInt8}, l.contains c = true → (hd1 c l).length < l.length
  | [], h => by cases h
  | x :: r, h => by
    unfold hd1
    by_cases hx : x = c
    · have hx : ¬ (x != c) = true := by simp [hx]
      rw [List.takeWhile_cons_of_neg (p := (· != _)) hx]; simp
    · rw [List.contains_cons] at h
      have hc : (c == x) = false := by rw [beq_eq_false_iff_ne]; exact fun e => hx e.symm
      rw [hc, Bool.false_or] at h
      have hx : (x != c) = true := by simp [hx]
      rw [List.takeWhile_cons_of_pos (p := (· != _)) hx]
      have := hd1_lt h
      unfold hd1 at this
      simp only [List.length_cons]; omega
def cutT (c : UInt8) (l : List UInt8) : Value := .tuple #[.string (str (hd1 c l)), .string (str (tl1 c l)), .bool (l.contains c)]
set_option maxHeartbeats 1000000 in
theorem slCut_calls (s : ByteArray) (c : UInt8) (hs : s.size ≤ maxLen) (w : World) :
    Calls Try.prog 24 #[.string s, .string ⟨#[c]⟩] w fun e w' => e = .returned (cutT c (bytes s)) ∧ Ext w w' := by
  have hI := fun W => Try.stringslite_Index_one s c W
  rw [idx_hd1] at hI
  unfold maxLen at hs
  have h1 := @hd1_lt c (bytes s)
  have h2 := hd1_take c (bytes s)
  have h3 := tl1_drop c (bytes s)
  have h4 := @hd1_all c (bytes s)
  unfold cutT
  rw [show s.data.toList = bytes s from rfl] at hI
  cases hc : (bytes s).contains c
  · rw [hc, if_neg (by simp)] at hI
    obtain ⟨e1, e2⟩ := h4 hc
    rw [e1, e2, str_bytes]
    clear h1 h2 h3 h4
    have HhI := Lib.hid hI
    clear hI
    have Hhc := Lib.hid hc
    clear hc
    have He1 := Lib.hid e1
    clear e1
    have He2 := Lib.hid e2
    clear e2
    go_enter Try.func24, Try.ntmps24
    go_wp2_with fail
    refine (HhI.out _).mono ?_
    rintro e w1 ⟨rfl, rfl⟩
    go_wp2_with fail
    go_ret3
    exact ⟨rfl, Ext.refl _⟩
  · rw [hc, if_pos rfl] at hI
    have hlt := h1 hc
    rw [bytes_len] at hlt
    clear h1 h4
    have e1 : s.extract 0 (hd1 c (bytes s)).length = str (hd1 c (bytes s)) := bytes_inj (by rw [bytes_ext, List.drop_zero, Nat.sub_zero, h2, bytes_str])
    have e2 : s.extract ((hd1 c (bytes s)).length + 1) s.size = str (tl1 c (bytes s)) := bytes_inj (by
      rw [bytes_ext, h3, List.take_of_length_le (by rw [← h3, List.length_drop, bytes_len]; omega), bytes_str])
    rw [← e1, ← e2]
    clear h2 h3
    generalize (hd1 c (bytes s)).length = k at *
    have hw : IntKind.i64.wrap ((k : Int) + 1) = (k : Int) + 1 := IntWalk.i64_in _ (by omega)
    have hk0 : (0 : Int) ≤ (k : Int) + 1 := by omega
    have hk1 : ((k : Int) + 1).toNat = k + 1 := by omega
    have HhI := Lib.hid hI
    clear hI
    have Hhc := Lib.hid hc
    clear hc
    have He1 := Lib.hid e1
    clear e1
    have He2 := Lib.hid e2
    clear e2
    go_enter Try.func24, Try.ntmps24
    go_wp2_with fail
    refine (HhI.out _).mono ?_
    rintro e w1 ⟨rfl, rfl⟩
    go_wp2_with (go_quiet (fail))
    go_ret3
    exact ⟨rfl, by repeat (first | exact Ext.refl _ | apply Ext.drewN)⟩
theorem Cut_calls (s : ByteArray) (c : UInt8) (hs : s.size ≤ maxLen) (w : World) :
    Calls Try.prog 22 #[.string s, .string ⟨#[c]⟩] w fun e w' => e = .returned (cutT c (bytes s)) ∧ Ext w w' := by
  have hI := fun W => slCut_calls s c hs W
  unfold cutT at *
  generalize (bytes s).contains c = bb at *
  generalize str (hd1 c (bytes s)) = s1 at *
  generalize str (tl1 c (bytes s)) = s2 at *
  have HhI := Lib.hid hI
  clear hI
  go_enter Try.func22, Try.ntmps22
  go_wp2_with fail
  refine (HhI.out _).mono ?_
  rintro e w1 ⟨rfl, hx⟩
  go_wp2_with fail
  go_ret3
  exact ⟨rfl, hx⟩
theorem tl1_len (c : UInt8) (l : List UInt8) : (tl1 c l).length = l.length - (hd1 c l).length - 1 := by
  rw [← tl1_drop, List.length_drop]; omega
/-- an entry: name, action, whether it has one -/
abbrev En := List UInt8 × Nat × Bool
def enV (x : En) : Value := .agg #[.string (str x.1), .int .u32 (x.2.1 : Int), .bool x.2.2]
/-- what a word is read as -/
def readL (s : List UInt8) : En × Int :=
  if hd1 58 s = [] then (([], 0, false), 161)
  else if s.contains 58 = false then ((hd1 58 s, 0, false), 0)
  else if tl1 58 s = [107, 105, 108, 108] then ((hd1 58 s, 2147483648, true), 0)
  else if (errnoL (tl1 58 s)).2 = 0 then ((hd1 58 s, 327680 ||| (errnoL (tl1 58 s)).1, true), 0)
  else (([], 0, false), 160)
theorem errnoL_ok (s : List UInt8) : ((errnoL s).2 = 0 ∧ (errnoL s).1 ≤ 4095) ∨ ((errnoL s).2 = 160) := by
  unfold errnoL
  rcases findL_ok errT s 160 with h | h
  · rw [h, if_pos rfl]
    refine .inl ⟨rfl, ?_⟩
    have hm : ∀ x ∈ errT, x.2 ≤ 4095 := by decide
    show (findL errT s 160).1 ≤ 4095
    unfold findL
    split
    · rename_i x hx
      exact hm x (List.mem_of_find?_eq_some hx)
    · exact Nat.zero_le _
  · rw [h, if_neg (by simp)]
    unfold numL
    split
    · rename_i hh; exact .inl ⟨rfl, hh.2.2.2⟩
    · exact .inr rfl
set_option maxRecDepth 100000 in
set_option maxHeartbeats 1000000 in
theorem Turned_calls (s : ByteArray) (w : World) : Calls Try.prog 9 #[.string s] w fun e w' => e = .returned (.tuple #[.string (str (Lib.trimPrefix (bytes s) [126])), .bool (Lib.hasPrefix (bytes s) [126])]) ∧ w' = w := by
  have h := fun W => Try.strings_CutPrefix s ⟨#[126]⟩ W
  rw [show s.data.toList = bytes s from rfl, show (⟨#[126]⟩ : ByteArray).data.toList = [126] from rfl] at h
  change ∀ W, Calls Try.prog 16 #[.string s, .string ⟨#[126]⟩] W fun e w' => e = .returned (.tuple #[.string (str (Lib.trimPrefix (bytes s) [126])), .bool (Lib.hasPrefix (bytes s) [126])]) ∧ w' = W at h
  generalize str (Lib.trimPrefix (bytes s) [126]) = t at *
  generalize Lib.hasPrefix (bytes s) [126] = b at *
  have Hh := Lib.hid h
  clear h
  go_enter Try.func9, Try.ntmps9
  go_wp2_with fail
  refine (Hh.out _).mono ?_
  rintro e w1 ⟨rfl, rfl⟩
  go_wp2_with fail
  go_ret2
  exact ⟨rfl, rfl⟩
theorem blk3 {w w1 : World} {a b c : Value} {t : TypeId} (hx : Ext (w.alloc (.cells #[a, b, c] t)) w1) :
    w1.cell? ⟨w.heap.size, 0, none⟩ = some a ∧ w1.cell? ⟨w.heap.size, 1, none⟩ = some b ∧ w1.cell? ⟨w.heap.size, 2, none⟩ = some c ∧
    w1.frozen? ⟨w.heap.size, 0, none⟩ = false ∧ w1.frozen? ⟨w.heap.size, 1, none⟩ = false ∧ w1.frozen? ⟨w.heap.size, 2, none⟩ = false ∧ w.heap.size < w1.heap.size := by
  have hb : w1.heap[w.heap.size]? = some (.cells #[a, b, c] t (0, 0)) := (hx.block (by simp)).trans (heap_alloc_new w _)
  refine ⟨by simp [World.cell?, hb], by simp [World.cell?, hb], by simp [World.cell?, hb], by simp [World.frozen?, hb], by simp [World.frozen?, hb], by simp [World.frozen?, hb], (Array.getElem?_eq_some_iff.1 hb).1⟩
theorem set3 {w1 : World} {B : Nat} {a b c : Value} (x y z : Value) (c0 : w1.cell? ⟨B, 0, none⟩ = some a) (c1 : w1.cell? ⟨B, 1, none⟩ = some b) (c2 : w1.cell? ⟨B, 2, none⟩ = some c) :
    (((w1.setCell ⟨B, 0, none⟩ x).setCell ⟨B, 1, none⟩ y).setCell ⟨B, 2, none⟩ z).cell? ⟨B, 0, none⟩ = some x ∧ (((w1.setCell ⟨B, 0, none⟩ x).setCell ⟨B, 1, none⟩ y).setCell ⟨B, 2, none⟩ z).cell? ⟨B, 1, none⟩ = some y ∧ (((w1.setCell ⟨B, 0, none⟩ x).setCell ⟨B, 1, none⟩ y).setCell ⟨B, 2, none⟩ z).cell? ⟨B, 2, none⟩ = some z := by
  refine ⟨?_, ?_, ?_⟩
  · rw [World.cell?_setCell_other _ ⟨B, 2, none⟩ ⟨B, 0, none⟩ _ (fun e => by cases e), World.cell?_setCell_other _ ⟨B, 1, none⟩ ⟨B, 0, none⟩ _ (fun e => by cases e), World.cell?_setCell_same _ _ _ c0]
  · rw [World.cell?_setCell_other _ ⟨B, 2, none⟩ ⟨B, 1, none⟩ _ (fun e => by cases e)]
    exact World.cell?_setCell_same _ _ _ ((World.cell?_setCell_other _ ⟨B, 0, none⟩ ⟨B, 1, none⟩ _ (fun e => by cases e)).trans c1)
  · exact World.cell?_setCell_same _ _ _ ((World.cell?_setCell_other _ ⟨B, 1, none⟩ ⟨B, 2, none⟩ _ (fun e => by cases e)).trans ((World.cell?_setCell_other _ ⟨B, 0, none⟩ ⟨B, 2, none⟩ _ (fun e => by cases e)).trans c2))
theorem load3 {W : World} {B : Nat} {x y z : Value} {t : TypeId} (hz : (Try.prog.info? t).map (·.size) = some 3) (hu : ∃ fs, Try.prog.underlying t = some (.struct fs)) (c0 : W.cell? ⟨B, 0, none⟩ = some x) (c1 : W.cell? ⟨B, 1, none⟩ = some y) (c2 : W.cell? ⟨B, 2, none⟩ = some z) :
    (loadVar t ⟨B, 0, none⟩).run Try.prog W = .ok (.agg #[x, y, z]) W := by
  obtain ⟨fs, hu⟩ := hu
  cases hq : Try.prog.info? t with
  | none => simp [hq] at hz
  | some i =>
    simp [hq] at hz
    simp [loadVar, isAgg, sizeOf, typeInfo, underlying, hq, hz, hu, loadCells, loadCellsFrom, go_sem, c0, c1, c2]
theorem frozen_ext {w w1 : World} {a : Addr} (hx : Ext w w1) (hl : a.block < w.heap.size) (h : w.frozen? a = false) : w1.frozen? a = false := (World.frozen?_of_block (hx.block hl)).trans h
theorem mid3 {w w1 w3 : World} {B : Nat} {p q r v a b c : Value} {t : TypeId} (hx : Ext (w1.alloc (.cells #[p, q, r] t)) w3) (hw : Ext w w1) (bl : B < w1.heap.size)
    (c0 : w1.cell? ⟨B, 0, none⟩ = some a) (c1 : w1.cell? ⟨B, 1, none⟩ = some b) (c2 : w1.cell? ⟨B, 2, none⟩ = some c) (f0 : w1.frozen? ⟨B, 0, none⟩ = false) (f1 : w1.frozen? ⟨B, 1, none⟩ = false) (f2 : w1.frozen? ⟨B, 2, none⟩ = false)
    (W : World) (hW : W = w3.setCell ⟨w1.heap.size, 1, none⟩ v) :
    (W.cell? ⟨w1.heap.size, 0, none⟩ = some p ∧ W.cell? ⟨w1.heap.size, 1, none⟩ = some v ∧ W.cell? ⟨w1.heap.size, 2, none⟩ = some r) ∧
    (W.cell? ⟨B, 0, none⟩ = some a ∧ W.cell? ⟨B, 1, none⟩ = some b ∧ W.cell? ⟨B, 2, none⟩ = some c ∧ W.frozen? ⟨B, 0, none⟩ = false ∧ W.frozen? ⟨B, 1, none⟩ = false ∧ W.frozen? ⟨B, 2, none⟩ = false) ∧ Ext w W := by
  obtain ⟨d0, d1, d2, -, -, -, -⟩ := blk3 hx
  have hx1 : Ext w1 w3 := ((Ext.refl w1).alloc _).trans hx
  have hbk : W.heap[B]? = w1.heap[B]? := by rw [hW]; exact (Below.heap_setCell _ _ _ B (by show B ≠ w1.heap.size; omega)).trans (hx1.block bl)
  subst hW
  refine ⟨⟨?_, ?_, ?_⟩, ⟨?_, ?_, ?_, ?_, ?_, ?_⟩, (hw.trans hx1).setCell hw.size _⟩
  · rw [World.cell?_setCell_other _ _ _ _ (fun e => by cases e)]; exact d0
  · exact World.cell?_setCell_same _ _ _ d1
  · rw [World.cell?_setCell_other _ _ _ _ (fun e => by cases e)]; exact d2
  · exact (World.cell?_of_block (a := ⟨B, 0, none⟩) hbk).trans c0
  · exact (World.cell?_of_block (a := ⟨B, 1, none⟩) hbk).trans c1
  · exact (World.cell?_of_block (a := ⟨B, 2, none⟩) hbk).trans c2
  · exact (World.frozen?_of_block (a := ⟨B, 0, none⟩) hbk).trans f0
  · exact (World.frozen?_of_block (a := ⟨B, 1, none⟩) hbk).trans f1
  · exact (World.frozen?_of_block (a := ⟨B, 2, none⟩) hbk).trans f2
set_option maxRecDepth 100000 in
theorem read_end {fn : Func} {T : TypeId} {w W : World} {A : Act} {B : Nat} {x y z a b c : Value} {n : Int} (hr : fn.results = #[.cell 2 T, .tmp 3]) (hz : (Try.prog.info? T).map (·.size) = some 3) (hu : ∃ fs, Try.prog.underlying T = some (.struct fs))
    (h2 : A.tmps.getD 2 undef = .pointer (some ⟨B, 0, none⟩)) (h3 : A.tmps.getD 3 undef = .int .i64 n) (hd : A.defers = []) (c0 : W.cell? ⟨B, 0, none⟩ = some a) (c1 : W.cell? ⟨B, 1, none⟩ = some b) (c2 : W.cell? ⟨B, 2, none⟩ = some c) (hE : Ext w W) (hB : w.heap.size ≤ B) :
    bodyPost Try.prog fn (fun e w' => e = .returned (.tuple #[.agg #[x, y, z], .int .i64 n]) ∧ Ext w w') .ret A (((W.setCell ⟨B, 0, none⟩ x).setCell ⟨B, 1, none⟩ y).setCell ⟨B, 2, none⟩ z) := by
  obtain ⟨s0, s1, s2⟩ := set3 x y z c0 c1 c2
  refine bodyPost_ret (v := .tuple #[.agg #[x, y, z], .int .i64 n]) ?_ hd ⟨rfl, ((hE.setCell hB _).setCell hB _).setCell hB _⟩
  rw [results_cell_tmp hr, h2, h3]
  show (((loadVar T ⟨B, 0, none⟩).run Try.prog _).andThen _) = _
  rw [load3 hz hu s0 s1 s2]
  rfl
set_option maxRecDepth 100000 in
set_option maxHeartbeats 2000000 in
theorem Read_calls (s : ByteArray) (hs : s.size ≤ 1000000) (w : World) : Calls Try.prog 20 #[.string s] w fun e w' => e = .returned (.tuple #[enV (readL (bytes s)).1, .int .i64 (readL (bytes s)).2]) ∧ Ext w w' := by
  have hC := fun W => Cut_calls s 58 (by unfold maxLen; omega) W
  have hE := fun W => Errno_calls (str (tl1 58 (bytes s))) (by rw [str_size, tl1_len, bytes_len]; omega) W
  rw [bytes_str] at hE
  have hR : readL (bytes s) = if hd1 58 (bytes s) = [] then (([], 0, false), 161) else if (bytes s).contains 58 = false then ((hd1 58 (bytes s), 0, false), 0) else if tl1 58 (bytes s) = [107, 105, 108, 108] then ((hd1 58 (bytes s), 2147483648, true), 0) else if (errnoL (tl1 58 (bytes s))).2 = 0 then ((hd1 58 (bytes s), 327680 ||| (errnoL (tl1 58 (bytes s))).1, true), 0) else (([], 0, false), 160) := rfl
  have hok := errnoL_ok (tl1 58 (bytes s))
  have hem := str_emp (hd1 58 (bytes s))
  have hki : ((str (tl1 58 (bytes s))).toList == [107, 105, 108, 108]) = decide (tl1 58 (bytes s) = [107, 105, 108, 108]) := by
    rw [Lib.toList_data, show (str (tl1 58 (bytes s))).data.toList = tl1 58 (bytes s) from bytes_str _, Bool.eq_iff_iff, beq_iff_eq, decide_eq_true_iff]
  unfold cutT at hC
  obtain ⟨RR, hRR⟩ : ∃ RR, RR = readL (bytes s) := ⟨_, rfl⟩
  rw [← hRR] at hR ⊢
  generalize (bytes s).contains 58 = bc at *
  generalize hd1 58 (bytes s) = nm at *
  generalize tl1 58 (bytes s) = sf at *
  generalize errnoL sf = en at *
  obtain ⟨e1, e2⟩ := en
  dsimp only at *
  clear hRR
  have HhC := Lib.hid hC
  clear hC
  have HhE := Lib.hid hE
  clear hE
  by_cases h0 : nm = []
  · rw [if_pos h0] at hR
    rw [decide_eq_true h0] at hem
    subst hR
    clear h0 hki hok
    generalize str nm = nv at *
    go_enter Try.func20, Try.ntmps20
    go_wp2_with fail
    refine (HhC.out _).mono ?_
    rintro e w1 ⟨rfl, hx1⟩
    obtain ⟨c0, c1, c2, f0, f1, f2, bl⟩ := blk3 hx1
    have HX1 : Hid (Ext w w1) := Lib.hid (((Ext.refl w).alloc _).trans hx1)
    clear hx1
    go_wp2_with fail
    exact read_end Try.results20 (by kernel_rfl) ⟨_, Try.underlying48⟩ rfl rfl rfl c0 c1 c2 HX1.out (Nat.le_refl _)
  · rw [if_neg h0] at hR
    rw [decide_eq_false h0] at hem
    clear h0
    generalize hnv : str nm = nv at *
    have Hhnv := Lib.hid hnv
    clear hnv
    cases bc
    · rw [if_pos rfl] at hR
      have hRV : enV RR.1 = .agg #[.string nv, .int .u32 0, .bool false] := by rw [hR]; show Value.agg #[.string (str nm), _, _] = _; rw [Hhnv.out]; rfl
      have hR2 : RR.2 = 0 := by rw [hR]
      rw [hRV, hR2]
      clear hki hok hR hRV hR2
      go_enter Try.func20, Try.ntmps20
      go_wp2_with fail
      refine (HhC.out _).mono ?_
      rintro e w1 ⟨rfl, hx1⟩
      obtain ⟨c0, c1, c2, f0, f1, f2, bl⟩ := blk3 hx1
      have HX1 : Hid (Ext w w1) := Lib.hid (((Ext.refl w).alloc _).trans hx1)
      clear hx1
      go_upto_region 12 with fail
      obtain ⟨W3, hW3⟩ : ∃ W3, W3 = w1.alloc (.cells #[.string nv, .int .u32 0, .bool false] 48) := ⟨_, rfl⟩
      obtain ⟨e0, e1', e2', -, -, -, -⟩ := blk3 (Ext.refl (w1.alloc (.cells #[.string nv, .int .u32 0, .bool false] 48)))
      have hx13 : Ext w1 W3 := by rw [hW3]; exact (Ext.refl w1).alloc _
      rw [← hW3] at e0 e1' e2' ⊢
      replace c0 := hx13.cell c0
      replace c1 := hx13.cell c1
      replace c2 := hx13.cell c2
      replace f0 := frozen_ext hx13 bl f0
      replace f1 := frozen_ext hx13 bl f1
      replace f2 := frozen_ext hx13 bl f2
      have HX3 := Lib.hid (HX1.out.trans hx13)
      clear hW3 hx13
      go_wp2_with fail
      exact read_end Try.results20 (by kernel_rfl) ⟨_, Try.underlying48⟩ rfl rfl rfl c0 c1 c2 HX3.out (Nat.le_refl _)
    · rw [if_neg (by simp)] at hR
      by_cases hk : sf = [107, 105, 108, 108]
      · rw [if_pos hk] at hR
        rw [decide_eq_true hk] at hki
        have hRV : enV RR.1 = .agg #[.string nv, .int .u32 2147483648, .bool true] := by rw [hR]; show Value.agg #[.string (str nm), _, _] = _; rw [Hhnv.out]; rfl
        have hR2 : RR.2 = 0 := by rw [hR]
        rw [hRV, hR2]
        clear hk hok hR hRV hR2
        generalize str sf = sv at *
        go_enter Try.func20, Try.ntmps20
        go_wp2_with fail
        refine (HhC.out _).mono ?_
        rintro e w1 ⟨rfl, hx1⟩
        obtain ⟨c0, c1, c2, f0, f1, f2, bl⟩ := blk3 hx1
        have HX1 : Hid (Ext w w1) := Lib.hid (((Ext.refl w).alloc _).trans hx1)
        clear hx1
        go_upto_region 12 with fail
        obtain ⟨W3, hW3⟩ : ∃ W3, W3 = w1.alloc (.cells #[.string nv, .int .u32 2147483648, .bool true] 48) := ⟨_, rfl⟩
        obtain ⟨e0, e1', e2', -, -, -, -⟩ := blk3 (Ext.refl (w1.alloc (.cells #[.string nv, .int .u32 2147483648, .bool true] 48)))
        have hx13 : Ext w1 W3 := by rw [hW3]; exact (Ext.refl w1).alloc _
        rw [← hW3] at e0 e1' e2' ⊢
        replace c0 := hx13.cell c0
        replace c1 := hx13.cell c1
        replace c2 := hx13.cell c2
        replace f0 := frozen_ext hx13 bl f0
        replace f1 := frozen_ext hx13 bl f1
        replace f2 := frozen_ext hx13 bl f2
        have HX3 := Lib.hid (HX1.out.trans hx13)
        clear hW3 hx13
        go_wp2_with fail
        exact read_end Try.results20 (by kernel_rfl) ⟨_, Try.underlying48⟩ rfl rfl rfl c0 c1 c2 HX3.out (Nat.le_refl _)
      · rw [if_neg hk] at hR
        rw [decide_eq_false hk] at hki
        clear hk
        rcases hok with ⟨rfl, hle⟩ | rfl
        · rw [if_pos rfl] at hR
          have hbo := u32_or_nat 327680 e1 (by omega) (by omega)
          have hRV : enV RR.1 = .agg #[.string nv, .int .u32 ((327680 ||| e1 : Nat) : Int), .bool true] := by rw [hR]; show Value.agg #[.string (str nm), _, _] = _; rw [Hhnv.out]
          have hR2 : RR.2 = 0 := by rw [hR]
          rw [hRV, hR2]
          obtain ⟨g, hg⟩ : ∃ g, g = 327680 ||| e1 := ⟨_, rfl⟩
          rw [← hg] at hbo ⊢
          have hbo2 : bits .or .u32 327680 (e1 : Int) = (g : Int) := hbo
          clear hR hRV hR2 hg hbo
          generalize str sf = sv at *
          go_enter Try.func20, Try.ntmps20
          go_wp2_with fail
          refine (HhC.out _).mono ?_
          rintro e w1 ⟨rfl, hx1⟩
          obtain ⟨c0, c1, c2, f0, f1, f2, bl⟩ := blk3 hx1
          have HX1 : Hid (Ext w w1) := Lib.hid (((Ext.refl w).alloc _).trans hx1)
          clear hx1
          go_wp2_with fail
          refine (HhE.out _).mono ?_
          rintro e w3 ⟨rfl, hx3⟩
          obtain ⟨k0, k1, k2, l0, l1, l2, bl2⟩ := blk3 hx3
          have HM := Lib.hid (fun W hW => mid3 (v := .int .u32 (g : Int)) hx3 HX1.out bl c0 c1 c2 f0 f1 f2 W hW)
          clear hx3 c0 c1 c2 f0 f1 f2
          go_upto_region 12 with fail
          obtain ⟨W3, hW3⟩ : ∃ W3, W3 = w3.setCell ⟨w1.heap.size, 1, none⟩ (.int .u32 (g : Int)) := ⟨_, rfl⟩
          rw [← hW3]
          obtain ⟨⟨m0, m1, m2⟩, ⟨c0, c1, c2, f0, f1, f2⟩, hx⟩ := HM.out W3 hW3
          have HX3 := Lib.hid hx
          clear hW3 hx k0 k1 k2 l0 l1 l2 bl2
          go_wp2_with fail
          exact read_end Try.results20 (by kernel_rfl) ⟨_, Try.underlying48⟩ rfl rfl rfl c0 c1 c2 HX3.out (Nat.le_refl _)
        · rw [if_neg (by simp)] at hR
          have hRV : enV RR.1 = .agg #[.string ⟨#[]⟩, .int .u32 0, .bool false] := by rw [hR]; rfl
          have hR2 : RR.2 = 160 := by rw [hR]
          rw [hRV, hR2]
          clear hR hRV hR2
          generalize str sf = sv at *
          go_enter Try.func20, Try.ntmps20
          go_wp2_with fail
          refine (HhC.out _).mono ?_
          rintro e w1 ⟨rfl, hx1⟩
          obtain ⟨c0, c1, c2, f0, f1, f2, bl⟩ := blk3 hx1
          have HX1 : Hid (Ext w w1) := Lib.hid (((Ext.refl w).alloc _).trans hx1)
          clear hx1
          go_wp2_with fail
          refine (HhE.out _).mono ?_
          rintro e w3 ⟨rfl, hx3⟩
          have hx13 : Ext w1 w3 := ((Ext.refl w1).alloc _).trans hx3
          replace c0 := hx13.cell c0
          replace c1 := hx13.cell c1
          replace c2 := hx13.cell c2
          replace f0 := frozen_ext hx13 bl f0
          replace f1 := frozen_ext hx13 bl f1
          replace f2 := frozen_ext hx13 bl f2
          have HX3 := Lib.hid (HX1.out.trans hx13)
          clear hx3 hx13
          go_wp2_with fail
          exact read_end Try.results20 (by kernel_rfl) ⟨_, Try.underlying48⟩ rfl rfl rfl c0 c1 c2 HX3.out (Nat.le_refl _)
def blankN (c : Nat) : Bool := c == 32 || c == 9 || c == 13
set_option maxHeartbeats 400000 in
theorem blankR_calls (c : Nat) (w : World) : Calls Try.prog 13 #[.int .i32 (c : Int)] w fun e w' => e = .returned (.bool (blankN c)) ∧ w = w' := by
  unfold blankN
  have e1 : ((c : Int) == 32) = (c == 32) := by rw [Bool.eq_iff_iff]; simp; omega
  have e2 : ((c : Int) == 9) = (c == 9) := by rw [Bool.eq_iff_iff]; simp; omega
  have e3 : ((c : Int) == 13) = (c == 13) := by rw [Bool.eq_iff_iff]; simp; omega
  generalize (c == 32) = b1 at *
  generalize (c == 9) = b2 at *
  generalize (c == 13) = b3 at *
  cases b1 <;> cases b2 <;> cases b3
  all_goals
    go_enter Try.func13, Try.ntmps13
    go_wp2
    go_ret
    exact ⟨rfl, rfl⟩
def saysV : Array Value := #[.string ⟨#[110, 111]⟩, .string ⟨#[102, 97, 108, 115, 101]⟩, .string ⟨#[111, 102, 102]⟩, .string ⟨#[48]⟩, .string ⟨#[121, 101, 115]⟩, .string ⟨#[116, 114, 117, 101]⟩, .string ⟨#[111, 110]⟩, .string ⟨#[49]⟩]
set_option maxRecDepth 100000 in
set_option maxHeartbeats 1000000 in
theorem says_calls (w : World) : Calls Try.prog 14 #[] w fun e w' => e = .returned (.agg saysV) ∧ Ext w w' := by
  go_enter Try.func14, Try.ntmps14
  go_wp2_with fail
  exact bodyPost_ret (v := .agg saysV) (by simp [results, Try.results14, go_sem, saysV]) rfl ⟨rfl, (Ext.refl _).alloc _⟩
def noS : List ByteArray := [⟨#[110, 111]⟩, ⟨#[102, 97, 108, 115, 101]⟩, ⟨#[111, 102, 102]⟩, ⟨#[48]⟩]
def yesS : List ByteArray := [⟨#[121, 101, 115]⟩, ⟨#[116, 114, 117, 101]⟩, ⟨#[111, 110]⟩, ⟨#[49]⟩]
def boolL (s : ByteArray) : Bool × Int := if Lib.containsS noS s = true then (false, 0) else if Lib.containsS yesS s = true then (true, 0) else (false, 150)
set_option maxRecDepth 100000 in
theorem says0 (W : World) : (Instr.index 36 (.agg saysV) (.int .i64 0)).run Try.prog W = .ok (.agg #[.string ⟨#[110, 111]⟩, .string ⟨#[102, 97, 108, 115, 101]⟩, .string ⟨#[111, 102, 102]⟩, .string ⟨#[48]⟩]) W := rfl
set_option maxRecDepth 100000 in
theorem says1 (W : World) : (Instr.index 36 (.agg saysV) (.int .i64 1)).run Try.prog W = .ok (.agg #[.string ⟨#[121, 101, 115]⟩, .string ⟨#[116, 114, 117, 101]⟩, .string ⟨#[111, 110]⟩, .string ⟨#[49]⟩]) W := rfl
theorem has_no (W : World) (s : ByteArray) (t : TypeId) : Calls Try.prog 15 #[.slice (some ⟨W.heap.size, 0, none⟩) 4 4, .string s] (W.alloc (.cells #[.string ⟨#[110, 111]⟩, .string ⟨#[102, 97, 108, 115, 101]⟩, .string ⟨#[111, 102, 102]⟩, .string ⟨#[48]⟩] t)) fun e w' => e = .returned (.bool (Lib.containsS noS s)) ∧ w' = W.alloc (.cells #[.string ⟨#[110, 111]⟩, .string ⟨#[102, 97, 108, 115, 101]⟩, .string ⟨#[111, 102, 102]⟩, .string ⟨#[48]⟩] t) := by
  refine Try.slices_Contains_string W.heap.size 0 4 4 noS s _ (by decide) (by decide) (fun j hj => ?_)
  have hj4 : j < 4 := hj
  have h := fun v hv => cells_new W [.string ⟨#[110, 111]⟩, .string ⟨#[102, 97, 108, 115, 101]⟩, .string ⟨#[111, 102, 102]⟩, .string ⟨#[48]⟩] t j v hv
  rw [Nat.zero_add]
  match j, hj4 with
  | 0, _ => exact h _ rfl
  | 1, _ => exact h _ rfl
  | 2, _ => exact h _ rfl
  | 3, _ => exact h _ rfl
theorem has_yes (W : World) (s : ByteArray) (t : TypeId) : Calls Try.prog 15 #[.slice (some ⟨W.heap.size, 0, none⟩) 4 4, .string s] (W.alloc (.cells #[.string ⟨#[121, 101, 115]⟩, .string ⟨#[116, 114, 117, 101]⟩, .string ⟨#[111, 110]⟩, .string ⟨#[49]⟩] t)) fun e w' => e = .returned (.bool (Lib.containsS yesS s)) ∧ w' = W.alloc (.cells #[.string ⟨#[121, 101, 115]⟩, .string ⟨#[116, 114, 117, 101]⟩, .string ⟨#[111, 110]⟩, .string ⟨#[49]⟩] t) := by
  refine Try.slices_Contains_string W.heap.size 0 4 4 yesS s _ (by decide) (by decide) (fun j hj => ?_)
  have hj4 : j < 4 := hj
  have h := fun v hv => cells_new W [.string ⟨#[121, 101, 115]⟩, .string ⟨#[116, 114, 117, 101]⟩, .string ⟨#[111, 110]⟩, .string ⟨#[49]⟩] t j v hv
  rw [Nat.zero_add]
  match j, hj4 with
  | 0, _ => exact h _ rfl
  | 1, _ => exact h _ rfl
  | 2, _ => exact h _ rfl
  | 3, _ => exact h _ rfl
set_option maxRecDepth 100000 in
set_option maxHeartbeats 2000000 in
theorem Bool_calls (s : ByteArray) (w : World) : Calls Try.prog 7 #[.string s] w fun e w' => e = .returned (.tuple #[.bool (boolL s).1, .int .i64 (boolL s).2]) ∧ Ext w w' := by
  have hT := fun W => says_calls W
  have hB : boolL s = if Lib.containsS noS s = true then (false, 0) else if Lib.containsS yesS s = true then (true, 0) else (false, 150) := rfl
  have hN := fun W t => has_no W s t
  have hY := fun W t => has_yes W s t
  generalize Lib.containsS noS s = b1 at *
  generalize Lib.containsS yesS s = b2 at *
  have hi0 := says0
  have hi1 := says1
  obtain ⟨RR, hRR⟩ : ∃ RR, RR = boolL s := ⟨_, rfl⟩
  rw [← hRR] at hB ⊢
  have HhB := Lib.hid hB
  clear hB
  have HhT := Lib.hid hT
  clear hT
  have HhN := Lib.hid hN
  clear hN
  have HhY := Lib.hid hY
  clear hY
  clear hRR
  go_enter Try.func7, Try.ntmps7
  go_wp2_with fail
  refine (HhT.out _).mono ?_
  rintro e w1 ⟨rfl, hx1⟩
  have HX1 := Lib.hid hx1
  clear hx1
  go_wp2_with fail
  go_loopw [7] (fun ui wr => (ui = .int .i64 0 ∧ Ext w wr) ∨ (ui = .int .i64 1 ∧ b1 = false ∧ Ext w wr) ∨ (ui = .int .i64 2 ∧ b1 = false ∧ b2 = false ∧ Ext w wr)) (fun ui _ => 2 - (intOf ui).toNat)
  case atStart => exact .inl ⟨rfl, HX1.out⟩
  case round =>
    rcases hrel with ⟨rfl, hx⟩ | ⟨rfl, rfl, hx⟩ | ⟨rfl, rfl, rfl, hx⟩
    · have HX := Lib.hid hx
      clear hx
      go_wp2_with fail
      refine (HhN.out _ _).mono ?_
      rintro e w2 ⟨rfl, rfl⟩
      cases b1
      · go_wp2_with fail
        go_roundw
        case rel => exact .inr (.inl ⟨rfl, trivial, HX.out.alloc _⟩)
        case measure => simp [intOf]
      · have hf : RR = (false, 0) := by rw [HhB.out]; rfl
        have Hhf := Lib.hid hf
        clear hf
        go_wp2_with fail
        go_ret2
        exact ⟨by rw [Hhf.out]; rfl, HX.out.alloc _⟩
    · have HX := Lib.hid hx
      clear hx
      go_wp2_with fail
      refine (HhY.out _ _).mono ?_
      rintro e w2 ⟨rfl, rfl⟩
      cases b2
      · go_wp2_with fail
        go_roundw
        case rel => exact .inr (.inr ⟨rfl, trivial, trivial, HX.out.alloc _⟩)
        case measure => simp [intOf]
      · have hf : RR = (true, 0) := by rw [HhB.out]; rfl
        have Hhf := Lib.hid hf
        clear hf
        go_wp2_with fail
        go_ret2
        exact ⟨by rw [Hhf.out]; rfl, HX.out.alloc _⟩
    · have HX := Lib.hid hx
      clear hx
      have hf : RR = (false, 150) := by rw [HhB.out]; rfl
      have Hhf := Lib.hid hf
      clear hf
      go_wp2_with fail
      go_ret2
      exact ⟨by rw [Hhf.out]; rfl, HX.out⟩
theorem run_enter {P : Program} {f : FuncId} {fn : Func} {c : Code} (hf : P.funcs[f]? = some fn) (hname : (fn.name == "runtime.NumGoroutine") = false) (hb : fn.body = some c) (args : Array Value) (w : World) :
    (callFunc f args).run P w = .ok (.enter f args) w := by
  have h1 : fn.name ≠ "runtime.NumGoroutine" := by simpa using hname
  simp [callFunc, hf, h1, hb]
def encS1 (x : ByteArray) : List Value := [.string x]
theorem encS1_len (x : ByteArray) : (encS1 x).length = 1 := rfl
set_option maxRecDepth 100000 in
set_option maxHeartbeats 1000000 in
theorem Words_calls (s : ByteArray) (hs : s.size ≤ 1000000) (w : World) : Calls Try.prog 5 #[.string s] w fun e w' => ∃ v, e = .returned v ∧ Ext w w' ∧ w'.ownsRow w.heap.size 9 1 v (Lib.goFieldsP blankN s).length ((Lib.goFieldsP blankN s).flatMap encS1) := by
  have hp : ∀ W, PredAtRunes Try.prog 13 #[] blankN W := fun W W' x _ _ => (blankR_calls x W').mono (by
    rintro e w' ⟨rfl, rfl⟩
    exact ⟨rfl, 0, rfl⟩)
  have hF := fun W => Try.strings_FieldsFunc_runes 13 #[] (fun args W => run_enter Try.func13 (by kernel_rfl) rfl args W) blankN s W (by omega) (hp W)
  have hfm : (Lib.goFieldsP blankN s).map Value.string = (Lib.goFieldsP blankN s).flatMap encS1 := by
    generalize Lib.goFieldsP blankN s = l
    induction l with
    | nil => rfl
    | cons x r ih => rw [List.map_cons, ih]; rfl
  rw [hfm] at hF
  generalize Lib.goFieldsP blankN s = L at *
  clear hfm hp
  have HhF := Lib.hid hF
  clear hF
  go_enter Try.func5, Try.ntmps5
  go_wp2_with fail
  refine (HhF.out _).mono ?_
  rintro e w1 ⟨A, rfl, hA, ho, hb⟩
  go_wp2_with fail
  go_ret
  exact ⟨_, rfl, hb, ho⟩
set_option maxRecDepth 100000 in
set_option maxHeartbeats 1000000 in
theorem reads_calls (s : ByteArray) (hs : s.size ≤ 1000000) (w : World) : Calls Try.prog 17 #[.string s] w fun e w' => e = .returned (.tuple #[.int .u32 ((if (readL (bytes s)).2 = 0 then (readL (bytes s)).1.2.1 else 7 : Nat) : Int), .int .i64 (readL (bytes s)).2]) ∧ Ext w w' := by
  have hR := fun W => Read_calls s hs W
  generalize readL (bytes s) = R at *
  obtain ⟨⟨nm, a, hb⟩, q⟩ := R
  unfold enV at hR
  dsimp only at *
  have HhR := Lib.hid hR
  clear hR
  by_cases h0 : q = 0
  · subst h0
    go_enter Try.func17, Try.ntmps17
    go_wp2_with fail
    refine (HhR.out _).mono ?_
    rintro e w1 ⟨rfl, hx1⟩
    go_wp2_with fail
    go_ret2
    exact ⟨rfl, hx1.alloc _⟩
  · have hq : (q != 0) = true := by simpa using h0
    rw [if_neg h0]
    clear h0
    go_enter Try.func17, Try.ntmps17
    go_wp2_with fail
    refine (HhR.out _).mono ?_
    rintro e w1 ⟨rfl, hx1⟩
    go_wp2_with fail
    go_ret2
    exact ⟨rfl, hx1.alloc _⟩
theorem rdS1_cell {w : World} {v : Value} {xs : List ByteArray} (h : Rd w 1 encS1 v xs) : ∃ a c, v = .slice a xs.length c ∧ xs.length ≤ c ∧ ∀ i, (hi : i < xs.length) → ∃ b o, a = some ⟨b, o, none⟩ ∧ w.cell? ⟨b, o + i, none⟩ = some (.string xs[i]) := by
  obtain ⟨a, c, h1, h2, h3, h4⟩ := h
  refine ⟨a, c, h1, h2, fun i hi => ?_⟩
  obtain ⟨b, o, e, k⟩ := h4 i hi
  have k0 := k 0 (by simp [encS1])
  exact ⟨b, o, e, by simpa [encS1] using k0⟩
theorem awW : Lib.goFieldsP blankN ⟨#[32, 97, 32, 32, 98]⟩ = [⟨#[97]⟩, ⟨#[98]⟩] := by decide +kernel
theorem awT1 : Lib.trimPrefix (bytes ⟨#[126, 97, 32, 98]⟩) [126] = [97, 32, 98] ∧ Lib.hasPrefix (bytes ⟨#[126, 97, 32, 98]⟩) [126] = true := by decide +kernel
theorem awT2 : Lib.hasPrefix (bytes ⟨#[32, 126, 97]⟩) [126] = false := by decide +kernel
theorem awB0 : boolL ⟨#[111, 110]⟩ = (true, 0) := by decide +kernel
theorem awB1 : boolL ⟨#[48]⟩ = (false, 0) := by decide +kernel
theorem awB2 : boolL ⟨#[89, 101, 115]⟩ = (false, 150) := by decide +kernel
theorem awR0 : (if (readL (bytes ⟨#[114, 101, 97, 100]⟩)).2 = 0 then (readL (bytes ⟨#[114, 101, 97, 100]⟩)).1.2.1 else 7) = 0 ∧ (readL (bytes ⟨#[114, 101, 97, 100]⟩)).2 = 0 := by decide +kernel
theorem awR1 : (if (readL (bytes ⟨#[114, 101, 97, 100, 58, 69, 80, 69, 82, 77]⟩)).2 = 0 then (readL (bytes ⟨#[114, 101, 97, 100, 58, 69, 80, 69, 82, 77]⟩)).1.2.1 else 7) = 327681 ∧ (readL (bytes ⟨#[114, 101, 97, 100, 58, 69, 80, 69, 82, 77]⟩)).2 = 0 := by decide +kernel
theorem awR2 : (if (readL (bytes ⟨#[114, 101, 97, 100, 58, 107, 105, 108, 108]⟩)).2 = 0 then (readL (bytes ⟨#[114, 101, 97, 100, 58, 107, 105, 108, 108]⟩)).1.2.1 else 7) = 2147483648 ∧ (readL (bytes ⟨#[114, 101, 97, 100, 58, 107, 105, 108, 108]⟩)).2 = 0 := by decide +kernel
theorem awR3 : (if (readL (bytes ⟨#[58, 53]⟩)).2 = 0 then (readL (bytes ⟨#[58, 53]⟩)).1.2.1 else 7) = 7 ∧ (readL (bytes ⟨#[58, 53]⟩)).2 = 161 := by decide +kernel
theorem awR4 : (if (readL (bytes ⟨#[114, 101, 97, 100, 58, 120]⟩)).2 = 0 then (readL (bytes ⟨#[114, 101, 97, 100, 58, 120]⟩)).1.2.1 else 7) = 7 ∧ (readL (bytes ⟨#[114, 101, 97, 100, 58, 120]⟩)).2 = 160 := by decide +kernel
theorem awR5 : (if (readL (bytes ⟨#[97, 58, 53, 58, 54]⟩)).2 = 0 then (readL (bytes ⟨#[97, 58, 53, 58, 54]⟩)).1.2.1 else 7) = 7 ∧ (readL (bytes ⟨#[97, 58, 53, 58, 54]⟩)).2 = 160 := by decide +kernel
set_option maxRecDepth 100000 in
set_option maxHeartbeats 4000000 in
theorem awake15_calls (w : World) : Calls Try.prog 11 #[] w fun e w' => e = .returned (.bool true) ∧ Ext w w' := by
  have hW := fun W => Words_calls ⟨#[32, 97, 32, 32, 98]⟩ (by decide) W
  rw [awW] at hW
  have hB0 := fun W => Bool_calls ⟨#[111, 110]⟩ W
  rw [awB0] at hB0
  have hB1 := fun W => Bool_calls ⟨#[48]⟩ W
  rw [awB1] at hB1
  have hB2 := fun W => Bool_calls ⟨#[89, 101, 115]⟩ W
  rw [awB2] at hB2
  have hR0 := fun W => reads_calls ⟨#[114, 101, 97, 100]⟩ (by decide) W
  rw [awR0.1, awR0.2] at hR0
  have hR1 := fun W => reads_calls ⟨#[114, 101, 97, 100, 58, 69, 80, 69, 82, 77]⟩ (by decide) W
  rw [awR1.1, awR1.2] at hR1
  have hR2 := fun W => reads_calls ⟨#[114, 101, 97, 100, 58, 107, 105, 108, 108]⟩ (by decide) W
  rw [awR2.1, awR2.2] at hR2
  have hR3 := fun W => reads_calls ⟨#[58, 53]⟩ (by decide) W
  rw [awR3.1, awR3.2] at hR3
  have hR4 := fun W => reads_calls ⟨#[114, 101, 97, 100, 58, 120]⟩ (by decide) W
  rw [awR4.1, awR4.2] at hR4
  have hR5 := fun W => reads_calls ⟨#[97, 58, 53, 58, 54]⟩ (by decide) W
  rw [awR5.1, awR5.2] at hR5
  have hT1 := fun W => Turned_calls ⟨#[126, 97, 32, 98]⟩ W
  rw [awT1.1, awT1.2, show str [97, 32, 98] = ⟨#[97, 32, 98]⟩ from rfl] at hT1
  have hT2 := fun W => Turned_calls ⟨#[32, 126, 97]⟩ W
  rw [awT2] at hT2
  generalize str (Lib.trimPrefix (bytes ⟨#[32, 126, 97]⟩) [126]) = tz at *
  have HhW := Lib.hid hW
  clear hW
  have HhB0 := Lib.hid hB0
  clear hB0
  have HhB1 := Lib.hid hB1
  clear hB1
  have HhB2 := Lib.hid hB2
  clear hB2
  have HhR0 := Lib.hid hR0
  clear hR0
  have HhR1 := Lib.hid hR1
  clear hR1
  have HhR2 := Lib.hid hR2
  clear hR2
  have HhR3 := Lib.hid hR3
  clear hR3
  have HhR4 := Lib.hid hR4
  clear hR4
  have HhR5 := Lib.hid hR5
  clear hR5
  have HhT1 := Lib.hid hT1
  clear hT1
  have HhT2 := Lib.hid hT2
  clear hT2
  go_enter Try.func11, Try.ntmps11
  go_wp2_with fail
  refine (HhW.out _).mono ?_
  rintro e w0 ⟨v, rfl, hx0, ho0⟩
  obtain ⟨a, c, rfl, -, hc⟩ := rdS1_cell (rd_of_own encS1_len ho0)
  obtain ⟨b, o, rfl, d0⟩ := hc 0 (by decide)
  obtain ⟨b', o', e, d1⟩ := hc 1 (by decide)
  simp only [Option.some.injEq, Addr.mk.injEq, and_true] at e
  obtain ⟨rfl, rfl⟩ := e
  rw [Nat.add_zero] at d0
  have e0 : w0.cell? ⟨b, o, none⟩ = some (.string ⟨#[97]⟩) := d0
  have e1 : w0.cell? ⟨b, o + 1, none⟩ = some (.string ⟨#[98]⟩) := d1
  have HX0 := Lib.hid hx0
  have HY := Lib.hid (Ext.refl w0)
  clear hx0 ho0 hc d0 d1
  dsimp only [List.length_cons, List.length_nil]
  go_wp2_with fail
  refine (HhB0.out _).mono ?_
  rintro e w1 ⟨rfl, hx⟩
  have HY1 := Lib.hid (HY.out.trans hx)
  clear hx
  go_wp2_with fail
  refine (HhB1.out _).mono ?_
  rintro e w2 ⟨rfl, hx⟩
  have HY2 := Lib.hid (HY1.out.trans hx)
  clear hx
  go_wp2_with fail
  refine (HhB2.out _).mono ?_
  rintro e w3 ⟨rfl, hx⟩
  have HY3 := Lib.hid (HY2.out.trans hx)
  clear hx
  go_wp2_with fail
  refine (HhR0.out _).mono ?_
  rintro e w4 ⟨rfl, hx⟩
  have HY4 := Lib.hid (HY3.out.trans hx)
  clear hx
  go_wp2_with fail
  refine (HhR1.out _).mono ?_
  rintro e w5 ⟨rfl, hx⟩
  have HY5 := Lib.hid (HY4.out.trans hx)
  clear hx
  go_wp2_with fail
  refine (HhR2.out _).mono ?_
  rintro e w6 ⟨rfl, hx⟩
  have HY6 := Lib.hid (HY5.out.trans hx)
  clear hx
  go_wp2_with fail
  refine (HhR3.out _).mono ?_
  rintro e w7 ⟨rfl, hx⟩
  have HY7 := Lib.hid (HY6.out.trans hx)
  clear hx
  go_wp2_with fail
  refine (HhR4.out _).mono ?_
  rintro e w8 ⟨rfl, hx⟩
  have HY8 := Lib.hid (HY7.out.trans hx)
  clear hx
  go_wp2_with fail
  refine (HhR5.out _).mono ?_
  rintro e w9 ⟨rfl, hx⟩
  have HY9 := Lib.hid (HY8.out.trans hx)
  clear hx
  go_wp2_with fail
  refine (HhT1.out _).mono ?_
  rintro e w20 ⟨rfl, rfl⟩
  go_wp2_with fail
  refine (HhT2.out _).mono ?_
  rintro e w21 ⟨rfl, rfl⟩
  replace e0 := HY9.out.cell e0
  replace e1 := HY9.out.cell e1
  go_wp2_with fail
  go_ret
  exact ⟨rfl, HX0.out.trans HY9.out⟩
end L10
end Go.Proofs.Ytojlpocpcakcbaa
