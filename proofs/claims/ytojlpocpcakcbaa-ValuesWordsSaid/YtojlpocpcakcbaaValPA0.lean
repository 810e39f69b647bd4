/- Cut out of XNameA, XNameB, XNameC, XNameD, XNameE by wip/tools/cutout.py: what Errno_calls, errnoL_ok, str_beq, bytes_str, str_bytes, encB lean on. -/
import Derived.Deep.WholeRow
import Derived.Deep.DeepCutAuto
import Derived.Great.BuildSlice
import Derived.Lib.Strings
import Derived.Laws.Bits64b
import Derived.Laws.StructEq
import Derived.Test.YtojlpocpcakcbaaApp
namespace Go.Proofs.Ytojlpocpcakcbaa
open Go.RowKit V
attribute [local go_sem] Oper.semAt_some
namespace L10
/-- a name with its number -/
abbrev Nm := List UInt8 × Nat
def bytes (s : ByteArray) : List UInt8 := s.data.toList
def str (l : List UInt8) : ByteArray := ⟨l.toArray⟩
theorem bytes_len (s : ByteArray) : (bytes s).length = s.size := rfl
theorem str_size (l : List UInt8) : (str l).size = l.length := rfl
theorem bytes_inj {s t : ByteArray} (h : bytes s = bytes t) : s = t := by
  cases s; cases t; simp only [bytes] at h; congr; exact Array.toList_inj.1 h
theorem bytes_str (l : List UInt8) : bytes (str l) = l := by simp [bytes, str]
theorem str_bytes (s : ByteArray) : str (bytes s) = s := bytes_inj (bytes_str _)
def encW (x : Nm) : List Value := [.string (str x.1), .int .u32 (x.2 : Int)]
theorem encW_len (x : Nm) : (encW x).length = 2 := rfl
def errT : List Nm := [([69, 80, 69, 82, 77], 1), ([69, 78, 79, 69, 78, 84], 2), ([69, 73, 79], 5), ([69, 66, 65, 68, 70], 9), ([69, 65, 71, 65, 73, 78], 11), ([69, 78, 79, 77, 69, 77], 12), ([69, 65, 67, 67, 69, 83], 13), ([69, 70, 65, 85, 76, 84], 14), ([69, 66, 85, 83, 89], 16), ([69, 78, 79, 68, 69, 86], 19), ([69, 73, 78, 86, 65, 76], 22), ([69, 78, 79, 83, 89, 83], 38), ([69, 79, 80, 78, 79, 84, 83, 85, 80, 80], 95), ([69, 65, 70, 78, 79, 83, 85, 80, 80, 79, 82, 84], 97), ([69, 84, 73, 77, 69, 68, 79, 85, 84], 110)]
def errnosV : Array Value := #[.string ⟨#[69, 80, 69, 82, 77]⟩, .int .u32 1, .string ⟨#[69, 78, 79, 69, 78, 84]⟩, .int .u32 2, .string ⟨#[69, 73, 79]⟩, .int .u32 5, .string ⟨#[69, 66, 65, 68, 70]⟩, .int .u32 9, .string ⟨#[69, 65, 71, 65, 73, 78]⟩, .int .u32 11, .string ⟨#[69, 78, 79, 77, 69, 77]⟩, .int .u32 12, .string ⟨#[69, 65, 67, 67, 69, 83]⟩, .int .u32 13, .string ⟨#[69, 70, 65, 85, 76, 84]⟩, .int .u32 14, .string ⟨#[69, 66, 85, 83, 89]⟩, .int .u32 16, .string ⟨#[69, 78, 79, 68, 69, 86]⟩, .int .u32 19, .string ⟨#[69, 73, 78, 86, 65, 76]⟩, .int .u32 22, .string ⟨#[69, 78, 79, 83, 89, 83]⟩, .int .u32 38, .string ⟨#[69, 79, 80, 78, 79, 84, 83, 85, 80, 80]⟩, .int .u32 95, .string ⟨#[69, 65, 70, 78, 79, 83, 85, 80, 80, 79, 82, 84]⟩, .int .u32 97, .string ⟨#[69, 84, 73, 77, 69, 68, 79, 85, 84]⟩, .int .u32 110]
set_option maxRecDepth 100000 in
theorem errnosV_eq : errnosV.toList = errT.flatMap encW := by rfl
set_option maxRecDepth 100000 in
set_option maxHeartbeats 1000000 in
theorem errnos_calls (w : World) : Calls Try.prog 25 #[] w fun e w' => e = .returned (.agg errnosV) ∧ Ext w w' := by
  go_enter Try.func25, Try.ntmps25
  go_upto_region 1 with fail
  apply wp_region_lit
  refine wpList_buildTo rfl 55 _ rfl (some 1) rfl #[.string ⟨#[69, 80, 69, 82, 77]⟩, .int .u32 1] (by as_aux_lemma => kernel_rfl) ?_
  refine wpList_buildTo rfl 55 _ rfl (some 2) rfl #[.string ⟨#[69, 78, 79, 69, 78, 84]⟩, .int .u32 2] (by as_aux_lemma => kernel_rfl) ?_
  refine wpList_buildTo rfl 55 _ rfl (some 3) rfl #[.string ⟨#[69, 73, 79]⟩, .int .u32 5] (by as_aux_lemma => kernel_rfl) ?_
  refine wpList_buildTo rfl 55 _ rfl (some 4) rfl #[.string ⟨#[69, 66, 65, 68, 70]⟩, .int .u32 9] (by as_aux_lemma => kernel_rfl) ?_
  refine wpList_buildTo rfl 55 _ rfl (some 5) rfl #[.string ⟨#[69, 65, 71, 65, 73, 78]⟩, .int .u32 11] (by as_aux_lemma => kernel_rfl) ?_
  refine wpList_buildTo rfl 55 _ rfl (some 6) rfl #[.string ⟨#[69, 78, 79, 77, 69, 77]⟩, .int .u32 12] (by as_aux_lemma => kernel_rfl) ?_
  refine wpList_buildTo rfl 55 _ rfl (some 7) rfl #[.string ⟨#[69, 65, 67, 67, 69, 83]⟩, .int .u32 13] (by as_aux_lemma => kernel_rfl) ?_
  refine wpList_buildTo rfl 55 _ rfl (some 8) rfl #[.string ⟨#[69, 70, 65, 85, 76, 84]⟩, .int .u32 14] (by as_aux_lemma => kernel_rfl) ?_
  refine wpList_buildTo rfl 55 _ rfl (some 9) rfl #[.string ⟨#[69, 66, 85, 83, 89]⟩, .int .u32 16] (by as_aux_lemma => kernel_rfl) ?_
  refine wpList_buildTo rfl 55 _ rfl (some 10) rfl #[.string ⟨#[69, 78, 79, 68, 69, 86]⟩, .int .u32 19] (by as_aux_lemma => kernel_rfl) ?_
  refine wpList_buildTo rfl 55 _ rfl (some 11) rfl #[.string ⟨#[69, 73, 78, 86, 65, 76]⟩, .int .u32 22] (by as_aux_lemma => kernel_rfl) ?_
  refine wpList_buildTo rfl 55 _ rfl (some 12) rfl #[.string ⟨#[69, 78, 79, 83, 89, 83]⟩, .int .u32 38] (by as_aux_lemma => kernel_rfl) ?_
  refine wpList_buildTo rfl 55 _ rfl (some 13) rfl #[.string ⟨#[69, 79, 80, 78, 79, 84, 83, 85, 80, 80]⟩, .int .u32 95] (by as_aux_lemma => kernel_rfl) ?_
  refine wpList_buildTo rfl 55 _ rfl (some 14) rfl #[.string ⟨#[69, 65, 70, 78, 79, 83, 85, 80, 80, 79, 82, 84]⟩, .int .u32 97] (by as_aux_lemma => kernel_rfl) ?_
  refine wpList_buildTo rfl 55 _ rfl (some 15) rfl #[.string ⟨#[69, 84, 73, 77, 69, 68, 79, 85, 84]⟩, .int .u32 110] (by as_aux_lemma => kernel_rfl) ?_
  refine wpList_buildTo rfl 56 _ rfl (some 16) rfl errnosV (by as_aux_lemma => kernel_rfl) ?_
  refine wpList_store_rowTo rfl 56 _ _ rfl rfl w.heap.size errnosV (by as_aux_lemma => kernel_rfl) (by as_aux_lemma => kernel_rfl) 56 _ (heap_alloc_last w _) (by kernel_rfl) (by kernel_rfl) (by kernel_rfl) ?_
  rw [World.setRow_alloc_new]
  apply wpList_nil
  rename_i hK
  refine hK _ _ ?_
  have key : ∀ A : Act, A.tmps.getD 0 undef = .pointer (some ⟨w.heap.size, 0, none⟩) → A.defers = [] → Code.wp Try.prog Code.ret (bodyPost Try.prog Try.f25 fun e w' => e = .returned (.agg errnosV) ∧ Ext w w') A (w.alloc (.cells errnosV 56)) := by
    intro A h0 hd
    go_wp2_with fail
    exact bodyPost_ret (v := .agg errnosV) (results_cell_row Try.results25 _ _ _ _ _ _ _ h0 (heap_alloc_last w _) Try.underlying56 rfl (by kernel_rfl)) hd ⟨rfl, (Ext.refl _).alloc _⟩
  exact key _ (by as_aux_lemma => kernel_rfl) (by as_aux_lemma => kernel_rfl)
theorem str_beq (t s : ByteArray) : (t.toList == s.toList) = (bytes t == bytes s) := by rw [Lib.toList_data, Lib.toList_data]; rfl
theorem find_at {α : Type} {p : α → Bool} : ∀ {l : List α} {i : Nat} (h : i < l.length), (∀ (j : Nat) (hj : j < l.length), j < i → p l[j] = false) → p l[i] = true → l.find? p = some l[i]
  | x :: r, 0, _, _, hp => by
    simp at hp
    simp [List.find?, hp]
  | x :: r, i + 1, h, hn, hp => by
    have h0 : p x = false := hn 0 (by simp) (by omega)
    have := find_at (p := p) (l := r) (i := i) (Nat.lt_of_succ_lt_succ h) (fun j hj hji => hn (j + 1) (Nat.succ_lt_succ hj) (by omega)) hp
    simp [List.find?, h0, this]
theorem find_no {α : Type} {p : α → Bool} {l : List α} (h : ∀ (j : Nat) (hj : j < l.length), p l[j] = false) : l.find? p = none := by
  rw [List.find?_eq_none]
  intro x hx
  obtain ⟨j, hj, rfl⟩ := List.getElem_of_mem hx
  rw [h j hj]; simp
def findL (l : List Nm) (s : List UInt8) (no : Int) : Nat × Int := match l.find? (fun x => x.1 == s) with
  | some x => (x.2, 0)
  | none => (0, no)
theorem rdW_cell {w : World} {v : Value} {xs : List Nm} (h : Rd w 2 encW v xs) : ∃ a c, v = .slice a xs.length c ∧ xs.length ≤ c ∧ ∀ i, (hi : i < xs.length) → ∃ b o, a = some ⟨b, o, none⟩ ∧ w.cell? ⟨b, o + i * 2, none⟩ = some (.string (str (xs[i]).1)) ∧ w.cell? ⟨b, o + i * 2 + 1, none⟩ = some (.int .u32 ((xs[i]).2 : Int)) := by
  obtain ⟨a, c, h1, h2, h3, h4⟩ := h
  refine ⟨a, c, h1, h2, fun i hi => ?_⟩
  obtain ⟨b, o, e, k⟩ := h4 i hi
  have k0 := k 0 (by simp [encW])
  have k1 := k 1 (by simp [encW])
  exact ⟨b, o, e, by simpa [encW] using k0, by simpa [encW] using k1⟩
set_option maxRecDepth 100000 in
set_option maxHeartbeats 2000000 in
theorem find32_calls (l : List Nm) (v : Value) (s : ByteArray) (no : Int) (w : World) (hv : Rd w 2 encW v l) (hl : l.length ≤ 1000) :
    Calls Try.prog 26 #[v, .string s, .int .i64 no] w fun e w' => e = .returned (.tuple #[.int .u32 ((findL l (bytes s) no).1 : Int), .int .i64 (findL l (bytes s) no).2]) ∧ Ext w w' := by
  obtain ⟨a, c, rfl, hac, hc⟩ := rdW_cell hv
  obtain ⟨R, hR⟩ : ∃ R, R = findL l (bytes s) no := ⟨_, rfl⟩
  rw [← hR]
  clear hv
  have HhR := Lib.hid hR
  clear hR
  have Hhc := Lib.hid hc
  clear hc
  go_enter Try.func26, Try.ntmps26
  go_wp2_with fail
  go_loopw [13] (fun u wr => ∃ i : Nat, i ≤ l.length ∧ u = .int .i64 (i : Int) ∧ (∀ (j : Nat) (hj : j < l.length), j < i → (l[j].1 == bytes s) = false) ∧ Ext w wr) (fun u _ => l.length - (intOf u).toNat)
  case atStart => exact ⟨0, Nat.zero_le _, rfl, fun j _ h => by omega, Ext.refl _⟩
  case round =>
    obtain ⟨i, hi, rfl, hall, hx⟩ := hrel
    have Hhall := Lib.hid hall
    clear hall
    have HX := Lib.hid hx
    by_cases hlt : i < l.length
    · obtain ⟨b, o, rfl, d0, d1⟩ := Hhc.out i hlt
      replace d0 := hx.cell d0
      replace d1 := hx.cell d1
      have hz : (i : Int) < (l.length : Int) := by omega
      have hwi : IntKind.i64.wrap ((i : Int) + 1) = (i : Int) + 1 := IntWalk.i64_in _ (by omega)
      have hat : (l[i].1 == bytes s) = true → R = (l[i].2, 0) := fun h => by
        rw [HhR.out]
        unfold findL
        rw [find_at (p := fun x => x.1 == bytes s) hlt Hhall.out h]
      have hnext : (l[i].1 == bytes s) = false → ∀ (j : Nat) (hj : j < l.length), j < i + 1 → (l[j].1 == bytes s) = false := fun hbf j hj h => by
        by_cases hji : j = i
        · subst hji; exact hbf
        · exact Hhall.out j hj (by omega)
      have hsb := str_beq (str l[i].1) s
      rw [bytes_str] at hsb
      clear hx
      generalize hxi : l[i] = x at *
      obtain ⟨t, n⟩ := x
      dsimp only at d0 d1 hsb hnext hat
      cases hb : t == bytes s
      · rw [hb] at hsb hnext
        clear hb hxi hat
        generalize str t = st at *
        go_wp2_with fail
        go_roundw
        case rel => exact ⟨i + 1, by omega, by go_num, hnext rfl, by repeat (first | exact HX.out | apply Ext.alloc)⟩
        case measure => simp [intOf]; omega
      · rw [hb] at hsb hat
        have hf := hat rfl
        have Hhf := Lib.hid hf
        clear hf
        clear hb hxi hnext hat
        generalize str t = st at *
        go_wp2_with fail
        go_ret2
        exact ⟨by rw [Hhf.out]; rfl, by repeat (first | exact HX.out | apply Ext.alloc)⟩
    · obtain rfl : i = l.length := by omega
      have hz : ¬ ((l.length : Int) < (l.length : Int)) := by omega
      have hf : R = (0, no) := by
        rw [HhR.out]
        unfold findL
        rw [find_no (p := fun x => x.1 == bytes s) (fun j hj => Hhall.out j hj hj)]
      have Hhf := Lib.hid hf
      clear hf
      clear hx
      go_wp2_with fail
      go_ret2
      exact ⟨by rw [Hhf.out]; rfl, HX.out⟩
theorem rd_newV {W : World} {t : TypeId} {n : Nat} {enc : Nm → List Value} (henc : ∀ x, (enc x).length = n) {c : Array Value} {l : List Nm} (h : c.toList = l.flatMap enc) : Rd (W.alloc (.cells c t)) n enc (.slice (some ⟨W.heap.size, 0, none⟩) l.length l.length) l := by
  have := rd_lit henc W l t W.heap.size rfl
  rw [← h] at this
  simpa using this
theorem errnosSt (W : World) : (storeCells ⟨W.heap.size, 0, none⟩ errnosV.toList 0).run Try.prog (W.alloc (.cells #[.string ⟨#[]⟩, .int .u32 0, .string ⟨#[]⟩, .int .u32 0, .string ⟨#[]⟩, .int .u32 0, .string ⟨#[]⟩, .int .u32 0, .string ⟨#[]⟩, .int .u32 0, .string ⟨#[]⟩, .int .u32 0, .string ⟨#[]⟩, .int .u32 0, .string ⟨#[]⟩, .int .u32 0, .string ⟨#[]⟩, .int .u32 0, .string ⟨#[]⟩, .int .u32 0, .string ⟨#[]⟩, .int .u32 0, .string ⟨#[]⟩, .int .u32 0, .string ⟨#[]⟩, .int .u32 0, .string ⟨#[]⟩, .int .u32 0, .string ⟨#[]⟩, .int .u32 0] 56)) = .ok () (W.alloc (.cells errnosV 56)) := run_storeCells_new (P := Try.prog) W _ _ _ (by kernel_rfl) (by kernel_rfl) (by kernel_rfl)
def encB (x : UInt8) : List Value := [.int .u8 (x.toNat : Int)]
theorem encB_len (x : UInt8) : (encB x).length = 1 := rfl
theorem conv_str (w : World) (s : ByteArray) : (convert 9 60 (.string s)).run Try.prog w = .ok (.slice (some ⟨w.heap.size, 0, none⟩) s.size (grownCap w s.size 0 5))
      (w.drew.alloc (.cells (bytesRow s (grownCap w s.size 0 5)) 5 ((bytesRow s (grownCap w s.size 0 5)).size, (bytesRow s (grownCap w s.size 0 5)).size + 1))) :=
  run_bytes_of_string w _ _ _ s Try.underlying9 Try.underlying60 Try.underlying5
theorem rd_bytes (w : World) (s : ByteArray) (cap : Nat) (hc : s.size ≤ cap) (fr : Nat × Nat) : Rd (w.alloc (.cells (bytesRow s cap) 5 fr)) 1 encB (.slice (some ⟨w.heap.size, 0, none⟩) s.size cap) (bytes s) := by
  refine ⟨_, cap, by rw [bytes_len], by rw [bytes_len]; exact hc, (fun e => by cases e), fun i hi => ⟨w.heap.size, 0, rfl, fun j hj => ?_⟩⟩
  have hj0 : j = 0 := by simp [encB] at hj; exact hj
  subst hj0
  have hi' : i < s.data.size := by rw [bytes_len] at hi; exact hi
  rw [show 0 + i * 1 + 0 = i by omega, World.cell?_alloc_mark, bytesRow_at s cap i hi']
  simp [encB, bytes]
theorem rdB_cell {w : World} {v : Value} {xs : List UInt8} (h : Rd w 1 encB v xs) : ∃ a c, v = .slice a xs.length c ∧ xs.length ≤ c ∧ ∀ i, (hi : i < xs.length) → ∃ b o, a = some ⟨b, o, none⟩ ∧ w.cell? ⟨b, o + i, none⟩ = some (.int .u8 (xs[i].toNat : Int)) := by
  obtain ⟨a, c, h1, h2, h3, h4⟩ := h
  refine ⟨a, c, h1, h2, fun i hi => ?_⟩
  obtain ⟨b, o, e, k⟩ := h4 i hi
  have k0 := k 0 (by simp [encB])
  exact ⟨b, o, e, by simpa [encB] using k0⟩
def isD (c : UInt8) : Bool := decide (48 ≤ c.toNat) && decide (c.toNat ≤ 57)
def valL (l : List UInt8) : Nat := l.foldl (fun n c => 10 * n + (c.toNat - 48)) 0
def numL (s : List UInt8) : Nat × Int := if s.all isD = true ∧ 1 ≤ s.length ∧ s.length ≤ 4 ∧ valL s ≤ 4095 then (valL s, 0) else (0, 160)
def errnoL (s : List UInt8) : Nat × Int := if (findL errT s 160).2 = 0 then ((findL errT s 160).1, 0) else numL s
theorem valL_snoc (l : List UInt8) (c : UInt8) : valL (l ++ [c]) = 10 * valL l + (c.toNat - 48) := by unfold valL; rw [List.foldl_append]; rfl
theorem valL_lt : ∀ (k : Nat) (l : List UInt8), l.length = k → l.all isD = true → valL l < 10 ^ k
  | 0, l, h, _ => by rw [List.eq_nil_of_length_eq_zero h]; decide
  | k + 1, l, h, ha => by
    obtain ⟨r, x, rfl⟩ : ∃ r x, l = r ++ [x] := ⟨l.dropLast, l.getLast (by intro e; subst e; simp at h), (List.dropLast_concat_getLast _).symm⟩
    rw [List.all_append, Bool.and_eq_true] at ha
    have h1 := valL_lt k r (by rw [List.length_append] at h; simpa using h) ha.1
    have h2 : isD x = true := by simpa using ha.2
    unfold isD at h2
    rw [Bool.and_eq_true, decide_eq_true_iff, decide_eq_true_iff] at h2
    rw [valL_snoc, Nat.pow_succ]
    omega
theorem findL_ok (l : List Nm) (s : List UInt8) (no : Int) : (findL l s no).2 = 0 ∨ (findL l s no).2 = no := by
  unfold findL; split
  · exact .inl rfl
  · exact .inr rfl
set_option maxRecDepth 100000 in
set_option maxHeartbeats 4000000 in
theorem Errno_calls (s : ByteArray) (hs : s.size ≤ 1000000) (w : World) : Calls Try.prog 23 #[.string s] w fun e w' => e = .returned (.tuple #[.int .u32 ((errnoL (bytes s)).1 : Int), .int .i64 (errnoL (bytes s)).2]) ∧ Ext w w' := by
  have hT := fun W => errnos_calls W
  have hF := fun v W (h : Rd W 2 encW v errT) => find32_calls errT v s 160 W h (by decide)
  have hst := errnosSt
  have hcv := fun W => conv_str W s
  have hE : errnoL (bytes s) = if (findL errT (bytes s) 160).2 = 0 then ((findL errT (bytes s) 160).1, 0) else numL (bytes s) := rfl
  have hok := findL_ok errT (bytes s) 160
  obtain ⟨RR, hRR⟩ : ∃ RR, RR = errnoL (bytes s) := ⟨_, rfl⟩
  rw [← hRR] at hE ⊢
  generalize findL errT (bytes s) 160 = R at *
  obtain ⟨r1, r2⟩ := R
  dsimp only at hE hok hF
  have HhT := Lib.hid hT
  clear hT
  have HhF := Lib.hid hF
  clear hF
  clear hRR
  rcases hok with rfl | rfl
  · rw [if_pos rfl] at hE
    subst hE
    go_enter Try.func23, Try.ntmps23
    go_wp2_with fail
    refine (HhT.out _).mono ?_
    rintro e w1 ⟨rfl, hx1⟩
    go_wp2_with fail
    refine (HhF.out _ _ (rd_newV encW_len errnosV_eq)).mono ?_
    rintro e w2 ⟨rfl, hx2⟩
    go_wp2_with fail
    go_ret2
    exact ⟨rfl, (hx1.alloc _).trans hx2⟩
  · rw [if_neg (by simp)] at hE
    have hN : RR = if (bytes s).all isD = true ∧ 1 ≤ (bytes s).length ∧ (bytes s).length ≤ 4 ∧ valL (bytes s) ≤ 4095 then (valL (bytes s), 0) else (0, 160) := hE
    clear hE
    have HhN := Lib.hid hN
    clear hN
    go_enter Try.func23, Try.ntmps23
    go_wp2_with fail
    refine (HhT.out _).mono ?_
    rintro e w1 ⟨rfl, hx1⟩
    go_wp2_with fail
    refine (HhF.out _ _ (rd_newV encW_len errnosV_eq)).mono ?_
    rintro e w2 ⟨rfl, hx2⟩
    have HX2 := Lib.hid ((hx1.alloc (.cells errnosV 56)).trans hx2)
    clear hx1 hx2
    go_wp2_with fail
    have hrd : Rd ((w2.alloc (.cells (bytesRow s (grownCap w2 s.size 0 5)) 5 ((bytesRow s (grownCap w2 s.size 0 5)).size, (bytesRow s (grownCap w2 s.size 0 5)).size + 1))).drew) 1 encB (.slice (some ⟨w2.heap.size, 0, none⟩) s.size (grownCap w2 s.size 0 5)) (bytes s) := rd_bytes w2 s _ (grownCap_ge _ _ _ _) _
    obtain ⟨w3, hw3⟩ : ∃ w3, w3 = (w2.alloc (.cells (bytesRow s (grownCap w2 s.size 0 5)) 5 ((bytesRow s (grownCap w2 s.size 0 5)).size, (bytesRow s (grownCap w2 s.size 0 5)).size + 1))).drew := ⟨_, rfl⟩
    have HX3 : Hid (Ext w w3) := Lib.hid (by rw [hw3]; exact (HX2.out.alloc _).drew)
    rw [← hw3] at hrd ⊢
    clear hw3 hcv hst
    obtain ⟨av, cv, hav, -, hcell⟩ := rdB_cell hrd
    simp only [Value.slice.injEq] at hav
    obtain ⟨rfl, -, rfl⟩ := hav
    have Hhcell := Lib.hid hcell
    clear hcell
    clear hrd
    generalize grownCap w2 s.size 0 5 = cap at *
    generalize w2.heap.size = bk at *
    go_loopw [7, 23] (fun un ui wr => ∃ i n : Nat, i ≤ s.size ∧ ui = .int .i64 (i : Int) ∧ un = .int .i64 (n : Int) ∧ n ≤ 1048576 ∧ ((bytes s).take i).all isD = true ∧ (i ≤ 4 → n = valL ((bytes s).take i)) ∧ w3 = wr) (fun _ ui _ => s.size - (intOf ui).toNat)
    case atStart => exact ⟨0, 0, Nat.zero_le _, rfl, rfl, by omega, rfl, fun _ => rfl, rfl⟩
    case round =>
      obtain ⟨i, n, hi, rfl, rfl, hn, hall, hval, rfl⟩ := hrel
      by_cases hlt : i < s.size
      · have hltb : i < (bytes s).length := hlt
        obtain ⟨b, o, e, d0⟩ := Hhcell.out i hltb
        simp only [Option.some.injEq, Addr.mk.injEq, and_true] at e
        obtain ⟨rfl, rfl⟩ := e
        rw [Nat.zero_add] at d0
        have hz : (i : Int) < (s.size : Int) := by omega
        have hwi : IntKind.i64.wrap ((i : Int) + 1) = (i : Int) + 1 := IntWalk.i64_in _ (by omega)
        have htk : (bytes s).take (i + 1) = (bytes s).take i ++ [(bytes s)[i]] := List.take_succ_eq_append_getElem hltb
        have hnot : isD (bytes s)[i] = false → RR = (0, 160) := fun h => by
          rw [HhN.out, if_neg]
          intro hh
          have := List.all_eq_true.1 hh.1 _ (List.getElem_mem hltb)
          rw [h] at this
          cases this
        generalize (bytes s)[i] = c at *
        have hcl := c.toNat_lt
        have Hhtk := Lib.hid htk
        clear htk
        have Hhall := Lib.hid hall
        clear hall
        have Hhval := Lib.hid hval
        clear hval
        by_cases h48 : c.toNat < 48
        · have hf : RR = (0, 160) := hnot (by unfold isD; simp; omega)
          have g1 : decide ((c.toNat : Int) < 48) = true := decide_eq_true (by omega)
          have g2 : decide (c.toNat < 48) = true := decide_eq_true h48
          have Hhf := Lib.hid hf
          clear hf
          clear hnot
          go_wp2_with fail
          go_ret2
          exact ⟨by rw [Hhf.out]; rfl, HX3.out⟩
        · have g1 : decide ((c.toNat : Int) < 48) = false := decide_eq_false (by omega)
          have g2 : decide (c.toNat < 48) = false := decide_eq_false h48
          by_cases h57 : 57 < c.toNat
          · have hf : RR = (0, 160) := hnot (by unfold isD; simp; omega)
            have g3 : decide ((57 : Int) < (c.toNat : Int)) = true := decide_eq_true (by omega)
            have g4 : decide (57 < c.toNat) = true := decide_eq_true h57
            have Hhf := Lib.hid hf
            clear hf
            clear hnot
            go_wp2_with fail
            go_ret2
            exact ⟨by rw [Hhf.out]; rfl, HX3.out⟩
          · have g3 : decide ((57 : Int) < (c.toNat : Int)) = false := decide_eq_false (by omega)
            have g4 : decide (57 < c.toNat) = false := decide_eq_false h57
            have hD : isD c = true := by unfold isD; simp; omega
            obtain ⟨m, hm⟩ : ∃ m, m = min (10 * n + (c.toNat - 48)) 1048576 := ⟨_, rfl⟩
            have hmif : (if (1048576 : Int) < 10 * (n : Int) + ((c.toNat : Int) - 48) then 1048576 else 10 * (n : Int) + ((c.toNat : Int) - 48)) = (m : Int) := by split <;> omega
            have hmb : m ≤ 1048576 := by omega
            have hal2 : ((bytes s).take (i + 1)).all isD = true := by
              rw [Hhtk.out, List.all_append, Hhall.out]
              simpa using hD
            have hv2 : i + 1 ≤ 4 → m = valL ((bytes s).take (i + 1)) := fun h => by
              have h1 := Hhval.out (by omega)
              have h2 := valL_lt i _ (by rw [List.length_take]; omega) Hhall.out
              have h3 : 10 ^ i ≤ 10 ^ 3 := Nat.pow_le_pow_right (by omega) (by omega)
              rw [Hhtk.out, valL_snoc, ← h1, hm]
              rw [← h1] at h2
              omega
            have Hhmif := Lib.hid hmif
            clear hmif
            have Hhm := Lib.hid hm
            clear hm
            have HhD := Lib.hid hD
            clear hD
            have Hhal2 := Lib.hid hal2
            clear hal2
            have Hhv2 := Lib.hid hv2
            clear hv2
            clear hnot
            go_wp2_with fail
            go_roundw
            case rel => exact ⟨i + 1, m, by omega, by go_num, by rw [Hhmif.out], hmb, Hhal2.out, Hhv2.out, trivial⟩
            case measure => simp [intOf]; omega
      · obtain rfl : i = s.size := by omega
        have htl : (bytes s).take s.size = bytes s := List.take_of_length_le (by rw [bytes_len]; exact Nat.le_refl _)
        rw [htl] at hall hval
        have hN2 := HhN.out
        rw [hall, bytes_len] at hN2
        have Hhall := Lib.hid hall
        clear hall
        have Hhval := Lib.hid hval
        clear hval
        have Hhtl := Lib.hid htl
        clear htl
        by_cases h1 : s.size < 1
        · have g1 : decide (s.size < 1) = true := decide_eq_true h1
          have g2 : decide ((s.size : Int) < 1) = true := decide_eq_true (by omega)
          rw [if_neg (fun h => by omega)] at hN2
          have HhN2 := Lib.hid hN2
          clear hN2
          go_wp2_with fail
          go_ret2
          exact ⟨by rw [HhN2.out]; rfl, HX3.out⟩
        · have g1 : decide (s.size < 1) = false := decide_eq_false h1
          have g2 : decide ((s.size : Int) < 1) = false := decide_eq_false (by omega)
          by_cases h4 : 4 < s.size
          · have g3 : decide (4 < s.size) = true := decide_eq_true h4
            have g4 : decide ((4 : Int) < (s.size : Int)) = true := decide_eq_true (by omega)
            rw [if_neg (fun h => by omega)] at hN2
            have HhN2 := Lib.hid hN2
            clear hN2
            go_wp2_with fail
            go_ret2
            exact ⟨by rw [HhN2.out]; rfl, HX3.out⟩
          · have g3 : decide (4 < s.size) = false := decide_eq_false h4
            have g4 : decide ((4 : Int) < (s.size : Int)) = false := decide_eq_false (by omega)
            have hv := Hhval.out (by omega)
            rw [← hv] at hN2
            by_cases h9 : 4095 < n
            · have g5 : decide (4095 < n) = true := decide_eq_true h9
              have g6 : decide ((4095 : Int) < (n : Int)) = true := decide_eq_true (by omega)
              rw [if_neg (fun h => by omega)] at hN2
              have HhN2 := Lib.hid hN2
              clear hN2
              have Hhv := Lib.hid hv
              clear hv
              go_wp2_with fail
              go_ret2
              exact ⟨by rw [HhN2.out]; rfl, HX3.out⟩
            · have g5 : decide (4095 < n) = false := decide_eq_false h9
              have g6 : decide ((4095 : Int) < (n : Int)) = false := decide_eq_false (by omega)
              rw [if_pos ⟨rfl, by omega, by omega, by omega⟩] at hN2
              have hwn : IntKind.u32.wrap (n : Int) = (n : Int) := by simp [IntKind.wrap, IntKind.signed, IntKind.bits]; omega
              have HhN2 := Lib.hid hN2
              clear hN2
              have Hhv := Lib.hid hv
              clear hv
              go_wp2_with fail
              go_ret2
              exact ⟨by rw [HhN2.out]; rfl, HX3.out⟩
end L10
end Go.Proofs.Ytojlpocpcakcbaa
