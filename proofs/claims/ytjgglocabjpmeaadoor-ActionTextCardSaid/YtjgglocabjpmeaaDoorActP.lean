/- Layer 20, the seat of the cards: bytes; strings.Cut at one byte; the walks of Only, Data, Less, names, name, and of the reference's rank, Known. -/
import Derived.Laws.IdiomStrings
import Derived.Laws.ResultCell
import Derived.Deep.DeepCutAuto
import Derived.Laws.BitsAllLaws
import Derived.Lib.SmallJoins
import Derived.Test.YtjgglocabjpmeaaDoorOwn
import Derived.Test.YtjgglocabjpmeaaDoorApp
import Derived.Test.YtjgglocabjpmeaaDoorShelf
import Derived.Test.YtjgglocabjpmeaaDoorActA
namespace Go.Proofs.YtjgglocabjpmeaaDoor
open Go.RowKit Go.Shelf Go.Sort V
attribute [local go_sem] Oper.semAt_some
namespace L20
def bytes (s : ByteArray) : List UInt8 := s.data.toList
def str (l : List UInt8) : ByteArray := ⟨l.toArray⟩
theorem bytes_len (s : ByteArray) : (bytes s).length = s.size := rfl
theorem str_size (l : List UInt8) : (str l).size = l.length := rfl
theorem bytes_inj {s t : ByteArray} (h : bytes s = bytes t) : s = t := by
  cases s; cases t; simp only [bytes] at h; congr; exact Array.toList_inj.1 h
theorem bytes_str (l : List UInt8) : bytes (str l) = l := by simp [bytes, str]
theorem str_bytes (s : ByteArray) : str (bytes s) = s := bytes_inj (bytes_str _)
theorem str_beq (t s : ByteArray) : (t.toList == s.toList) = (bytes t == bytes s) := by rw [Lib.toList_data, Lib.toList_data]; rfl
theorem str_app (a b : List UInt8) : str a ++ str b = str (a ++ b) := bytes_inj (by simp [bytes, str])
theorem ext_grow (w : World) (k : Nat) (os : Array Obj) : Ext w (grow (w.drewN k) os) :=
  ⟨rfl, rfl, rfl, by simp [grow], fun i hi => by
    show ((w.drewN k).heap ++ os)[i]? = _
    rw [Array.getElem?_append_left (by show i < w.heap.size; omega)]
    rfl⟩
theorem dec_len : ∀ (n : Nat) (_ : n < 4294967296), (Lib.decDigits n).length ≤ 20 := by
  have key : ∀ (k n : Nat), n < 10 ^ (k + 1) → (Lib.decDigits n).length ≤ k + 1 := by
    intro k
    induction k with
    | zero => intro n h; rw [Lib.decDigits, dif_pos (by omega)]; simp
    | succ k ih =>
      intro n h
      rw [Lib.decDigits]
      split
      · simp
      · have := ih (n / 10) (by rw [Nat.pow_succ] at h; omega)
        rw [List.length_append, List.length_singleton]; omega
  intro n hn
  exact Nat.le_trans (key 9 n (by omega)) (by omega)
theorem str_emp (l : List UInt8) : (str l).toList.isEmpty = decide (l = []) := by
  rw [Lib.toList_data]
  cases l <;> simp [str]
def encB (x : UInt8) : List Value := [.int .u8 (x.toNat : Int)]
theorem encB_len (x : UInt8) : (encB x).length = 1 := rfl
theorem conv_rd {w : World} {v : Value} {l : List UInt8} (h : Rd w 1 encB v l) : (convert 56 9 v).run Tryd.prog w = .ok (.string (str l)) w := by
  obtain ⟨a, c, rfl, h1, h2, h3⟩ := h
  cases a with
  | none =>
    have hc := h2 rfl
    have hl : l = [] := List.eq_nil_of_length_eq_zero (by omega)
    subst hl
    rw [run_convert_bytes_string w _ _ _ _ _ _ Tryd.underlying56 Tryd.underlying5 Tryd.underlying9]
    rfl
  | some a =>
    by_cases h0 : l = []
    · subst h0
      exact run_convert_bytes_back w _ _ _ a c [] Tryd.underlying56 Tryd.underlying5 Tryd.underlying9 (fun j hj => by cases hj)
    · refine run_convert_bytes_back w _ _ _ a c l Tryd.underlying56 Tryd.underlying5 Tryd.underlying9 (fun j hj => ?_)
      obtain ⟨b, o, e, hat⟩ := h3 j hj
      simp only [Option.some.injEq] at e
      subst e
      have h5 := hat 0 (by simp [encB])
      have e5 : (⟨b, o, none⟩ : Addr).add j = ⟨b, o + j * 1 + 0, none⟩ := by
        unfold Addr.add; split <;> simp_all
      rw [e5]
      simpa [encB] using h5
theorem bytes_ext (t : ByteArray) (a b : Nat) : bytes (t.extract a b) = ((bytes t).drop a).take (b - a) := by
  simp [bytes, ByteArray.data_extract]
theorem ext_size (t : ByteArray) (a b : Nat) (hb : b ≤ t.size) : (t.extract a b).size = b - a := by
  rw [← bytes_len, bytes_ext, List.length_take, List.length_drop, bytes_len]; omega
/-- what lies ahead of a byte's first place, what lies behind it, and whether it has one -/
def hd1 (c : UInt8) (l : List UInt8) : List UInt8 := l.takeWhile (· != c)
def tl1 (c : UInt8) (l : List UInt8) : List UInt8 := (l.dropWhile (· != c)).drop 1
theorem hd1_len (c : UInt8) (l : List UInt8) : (hd1 c l).length ≤ l.length := by
  unfold hd1; exact (List.takeWhile_prefix _).length_le
theorem hd1_take (c : UInt8) (l : List UInt8) : l.take (hd1 c l).length = hd1 c l := by
  unfold hd1; exact (List.prefix_iff_eq_take.1 (List.takeWhile_prefix _)).symm
theorem tl1_drop (c : UInt8) : ∀ (l : List UInt8), l.drop ((hd1 c l).length + 1) = tl1 c l
  | [] => rfl
  | x :: r => by
    unfold hd1 tl1
    by_cases h : x = c
    · have hx : ¬ (x != c) = true := by simp [h]
      rw [List.takeWhile_cons_of_neg (p := (· != _)) hx, List.dropWhile_cons_of_neg (p := (· != _)) hx]; rfl
    · have hx : (x != c) = true := by simp [h]
      rw [List.takeWhile_cons_of_pos (p := (· != _)) hx, List.dropWhile_cons_of_pos (p := (· != _)) hx]
      exact tl1_drop c r
theorem hd1_all {c : UInt8} : ∀ {l : List UInt8}, l.contains c = false → hd1 c l = l ∧ tl1 c l = []
  | [], _ => ⟨rfl, rfl⟩
  | x :: r, h => by
    rw [List.contains_cons, Bool.or_eq_false_iff] at h
    have hx : (x != c) = true := by have := h.1; simp at this; simp; exact fun e => this e.symm
    obtain ⟨h1, h2⟩ := hd1_all h.2
    unfold hd1 tl1 at *
    rw [List.takeWhile_cons_of_pos (p := (· != _)) hx, List.dropWhile_cons_of_pos (p := (· != _)) hx, h1]
    exact ⟨rfl, h2⟩
theorem idx_hd1 (c : UInt8) : ∀ (l : List UInt8), Lib.indexByte l c = if l.contains c = true then ((hd1 c l).length : Int) else -1
  | [] => rfl
  | x :: r => by
    unfold Lib.indexByte
    rw [List.contains_cons]
    by_cases h : x = c
    · subst h
      have hx : ¬ (x != x) = true := by simp
      rw [if_pos (by simp), if_pos (by simp)]
      unfold hd1
      rw [List.takeWhile_cons_of_neg (p := (· != _)) hx]; rfl
    · have hx : (x != c) = true := by simp [h]
      have hc : (c == x) = false := by rw [beq_eq_false_iff_ne]; exact fun e => h e.symm
      rw [if_neg (by simpa using h), hc, Bool.false_or, idx_hd1 c r]
      unfold hd1
      rw [List.takeWhile_cons_of_pos (p := (· != _)) hx]
      by_cases hr : r.contains c = true
      · rw [if_pos hr, if_pos hr, if_neg (by first | (simp; done) | (simp; omega)), List.length_cons]; simp
      · rw [if_neg hr, if_neg hr, if_pos (by simp)]
theorem hd1_lt {c : UInt8} : ∀ {l : List UInt8}, l.contains c = true → (hd1 c l).length < l.length
  | [], h => by cases h
  | x :: r, h => by
    unfold hd1
    by_cases hx : x = c
    · have hx : ¬ (x != c) = true := by simp [hx]
      rw [List.takeWhile_cons_of_neg (p := (· != _)) hx]; simp
    · rw [List.contains_cons] at h
      have hc : (c == x) = false := by rw [beq_eq_false_iff_ne]; exact fun e => hx e.symm
      rw [hc, Bool.false_or] at h
      have hx : (x != c) = true := by simp [hx]
      rw [List.takeWhile_cons_of_pos (p := (· != _)) hx]
      have := hd1_lt h
      unfold hd1 at this
      simp only [List.length_cons]; omega
def cutT (c : UInt8) (l : List UInt8) : Value := .tuple #[.string (str (hd1 c l)), .string (str (tl1 c l)), .bool (l.contains c)]
set_option maxHeartbeats 1000000 in
theorem slCut_calls (s : ByteArray) (c : UInt8) (hs : s.size ≤ maxLen) (w : World) :
    Calls Tryd.prog 27 #[.string s, .string ⟨#[c]⟩] w fun e w' => e = .returned (cutT c (bytes s)) ∧ Ext w w' := by
  have hI := fun W => Tryd.stringslite_Index_one s c W
  rw [idx_hd1] at hI
  unfold maxLen at hs
  have h1 := @hd1_lt c (bytes s)
  have h2 := hd1_take c (bytes s)
  have h3 := tl1_drop c (bytes s)
  have h4 := @hd1_all c (bytes s)
  unfold cutT
  rw [show s.data.toList = bytes s from rfl] at hI
  cases hc : (bytes s).contains c
  · rw [hc, if_neg (by simp)] at hI
    obtain ⟨e1, e2⟩ := h4 hc
    rw [e1, e2, str_bytes]
    clear h1 h2 h3 h4
    have HhI := Lib.hid hI
    clear hI
    have Hhc := Lib.hid hc
    clear hc
    have He1 := Lib.hid e1
    clear e1
    have He2 := Lib.hid e2
    clear e2
    go_enter Tryd.func27, Tryd.ntmps27
    go_wp2_with fail
    refine (HhI.out _).mono ?_
    rintro e w1 ⟨rfl, rfl⟩
    go_wp2_with fail
    go_ret3
    exact ⟨rfl, Ext.refl _⟩
  · rw [hc, if_pos rfl] at hI
    have hlt := h1 hc
    rw [bytes_len] at hlt
    clear h1 h4
    have e1 : s.extract 0 (hd1 c (bytes s)).length = str (hd1 c (bytes s)) := bytes_inj (by rw [bytes_ext, List.drop_zero, Nat.sub_zero, h2, bytes_str])
    have e2 : s.extract ((hd1 c (bytes s)).length + 1) s.size = str (tl1 c (bytes s)) := bytes_inj (by
      rw [bytes_ext, h3, List.take_of_length_le (by rw [← h3, List.length_drop, bytes_len]; omega), bytes_str])
    rw [← e1, ← e2]
    clear h2 h3
    generalize (hd1 c (bytes s)).length = k at *
    have hw : IntKind.i64.wrap ((k : Int) + 1) = (k : Int) + 1 := IntWalk.i64_in _ (by omega)
    have hk0 : (0 : Int) ≤ (k : Int) + 1 := by omega
    have hk1 : ((k : Int) + 1).toNat = k + 1 := by omega
    have HhI := Lib.hid hI
    clear hI
    have Hhc := Lib.hid hc
    clear hc
    have He1 := Lib.hid e1
    clear e1
    have He2 := Lib.hid e2
    clear e2
    go_enter Tryd.func27, Tryd.ntmps27
    go_wp2_with fail
    refine (HhI.out _).mono ?_
    rintro e w1 ⟨rfl, rfl⟩
    go_wp2_with (go_quiet (fail))
    go_ret3
    exact ⟨rfl, by repeat (first | exact Ext.refl _ | apply Ext.drewN)⟩
theorem Cut_calls (s : ByteArray) (c : UInt8) (hs : s.size ≤ maxLen) (w : World) :
    Calls Tryd.prog 21 #[.string s, .string ⟨#[c]⟩] w fun e w' => e = .returned (cutT c (bytes s)) ∧ Ext w w' := by
  have hI := fun W => slCut_calls s c hs W
  unfold cutT at *
  generalize (bytes s).contains c = bb at *
  generalize str (hd1 c (bytes s)) = s1 at *
  generalize str (tl1 c (bytes s)) = s2 at *
  have HhI := Lib.hid hI
  clear hI
  go_enter Tryd.func21, Tryd.ntmps21
  go_wp2_with fail
  refine (HhI.out _).mono ?_
  rintro e w1 ⟨rfl, hx⟩
  go_wp2_with fail
  go_ret3
  exact ⟨rfl, hx⟩
theorem tl1_len (c : UInt8) (l : List UInt8) : (tl1 c l).length = l.length - (hd1 c l).length - 1 := by
  rw [← tl1_drop, List.length_drop]; omega
theorem str_eq (t : ByteArray) (l : List UInt8) : (t.toList == (str l).toList) = decide (bytes t = l) := by
  rw [str_beq, bytes_str, Bool.eq_iff_iff, beq_iff_eq, decide_eq_true_iff]
theorem Only_calls (a : Nat) (h : a < 4294967296) (w : World) : Calls Tryd.prog 15 #[.int .u32 (a : Int)] w fun e w' => e = .returned (.int .u32 ((a / 65536 * 65536 : Nat) : Int)) ∧ w = w' := by
  go_enter Tryd.func15, Tryd.ntmps15
  go_wp2
  go_ret
  exact ⟨by simp [andNot16 a h], rfl⟩
theorem Data_calls (a : Nat) (h : a < 4294967296) (w : World) : Calls Tryd.prog 17 #[.int .u32 (a : Int)] w fun e w' => e = .returned (.int .u32 ((a % 65536 : Nat) : Int)) ∧ w = w' := by
  go_enter Tryd.func17, Tryd.ntmps17
  go_wp2
  go_ret
  exact ⟨by simp [and16 a h], rfl⟩
theorem sg_wrap (a : Nat) (h : a < 4294967296) : wrap32 ((a : Int) / 65536 * 65536) = sg a * 65536 := by
  unfold wrap32 sg; split <;> omega
theorem Less_calls (a b : Nat) (h : a < 4294967296) (h' : b < 4294967296) (w : World) : Calls Tryd.prog 14 #[.int .u32 (a : Int), .int .u32 (b : Int)] w fun e w' => e = .returned (.bool (less a b)) ∧ w = w' := by
  go_enter Tryd.func14, Tryd.ntmps14
  go_wp2_with (go_at_call 15; refine (Only_calls _ (by assumption) _).mono ?_; rintro e w' ⟨rfl, rfl⟩)
  go_ret
  exact ⟨by simp [less, sg_wrap a h, sg_wrap b h'], rfl⟩
theorem idx_names (i : Nat) (h : i < 8) (w : World) : (Instr.index 45 (.agg namesV) (.int .i64 (i : Int))).run Tryd.prog w = .ok (.agg #[.int .u32 (codes.getD i 0 : Nat), .string ⟨(nms.getD i []).toArray⟩]) w := by
  rw [run_index_arr (n := 8) (sz := 2) Tryd.underlying45 Tryd.underlying44 (by kernel_rfl) _ i h]
  rcases lt8 i h with rfl | rfl | rfl | rfl | rfl | rfl | rfl | rfl <;> rfl
theorem names_calls (w : World) : Calls Tryd.prog 22 #[] w fun e w' => e = .returned (.agg namesV) ∧ Ext w w' := by
  go_enter Tryd.func22, Tryd.ntmps22
  go_wp2
  refine bodyPost_ret (v := .agg namesV) (by simp [results, Tryd.results22, go_sem]; rfl) rfl ⟨rfl, (Ext.refl _).alloc _⟩
theorem name_calls (a : Nat) (h : a < 4294967296) (w : World) : Calls Tryd.prog 16 #[.int .u32 (a : Int)] w fun e w' => e = .returned (.string ⟨(nm (a / 65536)).toArray⟩) ∧ Ext w w' := by
  go_enter Tryd.func16, Tryd.ntmps16
  go_wp2_with (go_at_call 22; refine (names_calls _).mono ?_; rintro e w1 ⟨rfl, hb1⟩)
  go_loopw [6] (fun i wr => ∃ k : Nat, k ≤ 8 ∧ i = .int .i64 k ∧ Ext w wr ∧ ∀ j, j < k → codes.getD j 0 ≠ a / 65536 * 65536) (fun i _ => 8 - (intOf i).toNat)
  case atStart => exact ⟨0, by omega, rfl, hb1, by omega⟩
  case round =>
    obtain ⟨k, hk, rfl, hb, hno⟩ := hrel
    have HB := Lib.hid hb
    have HN := Lib.hid hno
    clear hb hno hb1
    by_cases hlt : k < 8
    · have hidx := idx_names k hlt
      generalize hc : codes.getD k 0 = c at hidx
      generalize hn : nms.getD k [] = t at hidx
      have HC := Lib.hid hc
      have HT := Lib.hid hn
      clear hc hn
      go_wp2_with (go_quiet ((go_at_call 15; exact Calls.quiet_of_same ((Only_calls _ h _).mono fun _ _ ⟨e, f⟩ => ⟨e, f.symm⟩))))
      · go_ret
        refine ⟨?_, (HB.out.alloc _).drewN _⟩
        have hcc : ((c : Int) == (a : Int) / 65536 * 65536) = true := by assumption
        have e : codes.getD k 0 = a / 65536 * 65536 := by rw [HC.out]; have := eq_of_beq hcc; omega
        have e2 := nm_hit k a hlt e
        rw [HT.out] at e2
        simp [e2]
      · have hcc : ((c : Int) == (a : Int) / 65536 * 65536) = false := by assumption
        have e : codes.getD k 0 ≠ a / 65536 * 65536 := by rw [HC.out]; have := ne_of_beq_false hcc; omega
        go_roundw
        case rel =>
          refine ⟨k + 1, by omega, by go_num, (HB.out.alloc _).drewN _, fun j hj => ?_⟩
          by_cases hjk : j < k
          · exact HN.out j hjk
          · obtain rfl : j = k := by omega
            exact e
        case measure => simp [intOf]; omega
    · go_wp2
      go_ret
      obtain rfl : k = 8 := by omega
      exact ⟨by rw [nm_miss a HN.out]; simp, HB.out⟩
def rcodes : List Nat := [32768, 0, 3, 5, 32704, 32752, 32764, 32767]
theorem rk_hit (i k : Nat) (h : i < 8) (e : rcodes.getD i 0 = k) : rk k = i := by
  rcases lt8 i h with rfl | rfl | rfl | rfl | rfl | rfl | rfl | rfl <;> simp [rcodes] at e <;> subst e <;> rfl
theorem rk_miss (k : Nat) (e : ∀ i, i < 8 → rcodes.getD i 0 ≠ k) : rk k = -1 := by
  have e0 := e 0 (by omega); have e1 := e 1 (by omega); have e2 := e 2 (by omega); have e3 := e 3 (by omega)
  have e4 := e 4 (by omega); have e5 := e 5 (by omega); have e6 := e 6 (by omega); have e7 := e 7 (by omega)
  simp [rcodes] at e0 e1 e2 e3 e4 e5 e6 e7
  unfold rk
  rw [if_neg (by omega), if_neg (by omega), if_neg (by omega), if_neg (by omega), if_neg (by omega), if_neg (by omega), if_neg (by omega), if_neg (by omega)]
theorem rank_calls (a : Nat) (h : a < 4294967296) (w : World) : Calls Tryd.prog 19 #[.int .u32 (a : Int)] w fun e w' => e = .returned (.int .i64 (rk (a / 65536))) ∧ Ext w w' := by
  have hdv : ((a : Int) / 65536 : Int) = ((a / 65536 : Nat) : Int) := by omega
  have HD := Lib.hid hdv
  clear hdv
  go_enter Tryd.func19, Tryd.ntmps19
  go_wp2
  go_loopw [4] (fun i wr => ∃ k : Nat, k ≤ 8 ∧ i = .int .i64 k ∧ Ext w wr ∧ (∀ j, j < 8 → wr.cell? ⟨w.heap.size, j, none⟩ = some (.int .u32 (rcodes.getD j 0 : Nat))) ∧ ∀ j, j < k → rcodes.getD j 0 ≠ a / 65536) (fun i _ => 8 - (intOf i).toNat)
  case atStart =>
    refine ⟨0, by omega, rfl, (Ext.refl _).alloc _, fun j hj => ?_, by omega⟩
    rcases lt8 j hj with rfl | rfl | rfl | rfl | rfl | rfl | rfl | rfl <;> simp [go_sem, rcodes]
  case round =>
    obtain ⟨k, hk, rfl, hb, hcl, hno⟩ := hrel
    have HB := Lib.hid hb
    have HN := Lib.hid hno
    have HC := Lib.hid hcl
    clear hb hno hcl
    by_cases hlt : k < 8
    · have hcell := HC.out k hlt
      generalize hc : rcodes.getD k 0 = c at hcell
      have HE := Lib.hid hc
      clear hc
      go_wp2_with (go_quiet (fail))
      · go_ret
        have hcc : ((a : Int) / 65536 == (c : Int)) = true := by assumption
        have e : rcodes.getD k 0 = a / 65536 := by rw [HE.out]; have := eq_of_beq hcc; omega
        exact ⟨by simp [rk_hit k _ hlt e], HB.out⟩
      · have hcc : ((a : Int) / 65536 == (c : Int)) = false := by assumption
        have e : rcodes.getD k 0 ≠ a / 65536 := by rw [HE.out]; have := ne_of_beq_false hcc; omega
        go_roundw
        case rel =>
          refine ⟨k + 1, by omega, by go_num, HB.out, HC.out, fun j hj => ?_⟩
          by_cases hjk : j < k
          · exact HN.out j hjk
          · obtain rfl : j = k := by omega
            exact e
        case measure => simp [intOf]; omega
    · go_wp2
      go_ret
      obtain rfl : k = 8 := by omega
      exact ⟨by rw [rk_miss _ HN.out]; simp, HB.out⟩
theorem refKnown_calls (a : Nat) (h : a < 4294967296) (w : World) : Calls Tryd.prog 11 #[.int .u32 (a : Int)] w fun e w' => e = .returned (.bool (kn a)) ∧ Ext w w' := by
  go_enter Tryd.func11, Tryd.ntmps11
  go_wp2_with (go_at_call 19; refine (rank_calls a h _).mono ?_; rintro e w1 ⟨rfl, hb1⟩)
  go_ret
  exact ⟨by simp [kn], by assumption⟩
end L20
end Go.Proofs.YtjgglocabjpmeaaDoor
