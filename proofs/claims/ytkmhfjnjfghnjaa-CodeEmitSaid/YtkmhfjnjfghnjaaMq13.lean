import Derived.Test.YtkmhfjnjfghnjaaMq6
import Derived.Test.YtkmhfjnjfghnjaaMq2
import Derived.Test.YtkmhfjnjfghnjaaMq1
/- Layer 21: the walk of Clone over tests. -/
namespace Go.Proofs.Ytkmhfjnjfghnjaa
open Go.RowKit V
namespace L21
theorem infoT9 : (Try.prog.info? 37).map (fun i => (i.zero, i.size, i.bytes)) = some (some (.agg #[.int .i64 0, .int .u64 0, .int .u64 0, .int .u32 0]), 4, 32) := by kernel_rfl
set_option maxRecDepth 100000 in
theorem nil_eq (w : World) : (binOp .eql 32 (.slice none 0 0) (.slice none 0 0)).run Try.prog w = .ok (.bool true) w := by first | rfl | kernel_rfl | (simp [go_sem, binOp]; done)
set_option maxRecDepth 100000 in
theorem nil_ne (ad : Addr) (n c : Nat) (w : World) : (binOp .eql 32 (.slice (some ad) n c) (.slice none 0 0)).run Try.prog w = .ok (.bool false) w := by first | rfl | kernel_rfl | (simp [go_sem, binOp]; done)
set_option maxRecDepth 100000 in
set_option maxHeartbeats 400000 in
theorem Clone_calls (v : Value) (ts : List Test) (hl : ts.length ≤ 1000000) (w : World) (hv : Rd w 4 encT v ts) :
    Calls Try.prog 82 #[v] w fun e w' => ∃ u, e = .returned u ∧ w'.ownsRow w.heap.size 37 4 u ts.length (ts.flatMap encT) ∧ Ext w w' := by
  have HV := Lib.hid hv
  obtain ⟨a, c, rfl, h1, h2, -⟩ := hv
  have hl0 : ([] : List Test).length + ts.length = ts.length := by simp
  have HL := Lib.hid hl0
  clear hl0
  cases a with
  | none =>
    obtain rfl := h2 rfl
    have ht : ts = [] := List.eq_nil_of_length_eq_zero (by omega)
    subst ht
    clear h1 h2
    have hq := nil_eq
    go_enter Try.func82, Try.ntmps82
    go_wp2
    go_ret
    exact ⟨_, rfl, ⟨rfl, .inl ⟨rfl, rfl⟩⟩, Ext.refl _⟩
  | some ad =>
    clear h2
    have hq := nil_ne ad
    go_enter Try.func82, Try.ntmps82
    go_wp2_with (at_builtin; refine wpList_app_rd rfl (.tmp 5) (.tmp 6) _ rfl Try.underlying32 infoT9 rfl (by decide) encT_len encT_one w _ _ [] ts rfl rfl (own_lit encT_len w [] _ _ w.heap.size rfl (Nat.le_refl _) (by unfold maxLen; simp)) (HV.out.ext ((Ext.refl _).alloc _)) (by rw [HL.out]; omega) (by decide) ((Ext.refl _).alloc _) ?_; intro au1 cu1 w1 ho1 hx1; rw [HL.out] at ho1 ⊢; have HO1 := Lib.hid ho1; have HX1 := Lib.hid hx1; clear ho1 hx1)
    go_ret
    exact ⟨_, rfl, HO1.out, HX1.out⟩
end L21
end Go.Proofs.Ytkmhfjnjfghnjaa

/- Cut out of XSpanA by wip/tools/cutout.py: what all of XSpanA lean on. -/
namespace Go.Proofs.Ytkmhfjnjfghnjaa
open Go.RowKit V
namespace L23
structure Span where
  lo : Nat
  hi : Nat
  way : Int
structure OkS (s : Span) : Prop where
  l : s.lo < 4294967296
  h : s.hi < 4294967296
  a : -9223372036854775808 ≤ s.way
  b : s.way ≤ 9223372036854775807
def encS (s : Span) : List Value := [.int .u32 (s.lo : Int), .int .u32 (s.hi : Int), .int .i64 s.way]
theorem encS_len (s : Span) : (encS s).length = 3 := rfl
theorem encS_one (s : Span) : ∀ u ∈ encS s, u.oneCell' = true := by
  intro u hu; simp [encS] at hu; rcases hu with rfl | rfl | rfl <;> rfl
theorem rdS_cell {w : World} {v : Value} {xs : List Span} (h : Rd w 3 encS v xs) : ∃ a c, v = .slice a xs.length c ∧ xs.length ≤ c ∧ ∀ i, (hi : i < xs.length) → ∃ b o, a = some ⟨b, o, none⟩ ∧
    w.cell? ⟨b, o + i * 3, none⟩ = some (.int .u32 (xs[i].lo : Int)) ∧ w.cell? ⟨b, o + i * 3 + 1, none⟩ = some (.int .u32 (xs[i].hi : Int)) ∧ w.cell? ⟨b, o + i * 3 + 2, none⟩ = some (.int .i64 xs[i].way) := by
  obtain ⟨a, c, h1, h2, h3, h4⟩ := h
  refine ⟨a, c, h1, h2, fun i hi => ?_⟩
  obtain ⟨b, o, e, k⟩ := h4 i hi
  exact ⟨b, o, e, k 0 (by simp [encS]), k 1 (by simp [encS]), k 2 (by simp [encS])⟩
/-- from a number on, each span begins where the one ahead ended: what comes behind the last -/
def chain : List Span → Nat → Option Nat
  | [], n => some n
  | s :: r, n => if s.lo = n ∧ s.lo ≤ s.hi then chain r (s.hi + 1) else none
def whole (xs : List Span) : Bool := decide (chain xs 0 = some 4294967296)
theorem chain_step {xs : List Span} {k : Nat} (h : k < xs.length) (n : Nat) : chain (xs.drop k) n = if xs[k].lo = n ∧ xs[k].lo ≤ xs[k].hi then chain (xs.drop (k + 1)) (xs[k].hi + 1) else none := by
  rw [List.drop_eq_getElem_cons h]; rfl
theorem chain_last : ∀ {xs : List Span} {n m : Nat}, chain xs n = some m → ∀ (h : 0 < xs.length), m = xs[xs.length - 1].hi + 1
  | [s], n, m, h, _ => by
    simp only [chain] at h
    split at h
    · simp at h; simp [← h]
    · cases h
  | s :: t :: r, n, m, h, _ => by
    unfold chain at h
    split at h
    · have := chain_last h (by simp)
      simpa using this
    · cases h
theorem chain_nil (n : Nat) : chain [] n = some n := rfl
theorem whole_nil : whole [] = false := by decide
theorem whole_first {xs : List Span} (h : 0 < xs.length) (h0 : xs[0].lo ≠ 0) : whole xs = false := by
  unfold whole
  have := chain_step (k := 0) h 0
  rw [List.drop_zero, if_neg (fun e => h0 e.1)] at this
  rw [this]; rfl
theorem whole_last {xs : List Span} (h : 0 < xs.length) (h0 : xs[xs.length - 1].hi ≠ 4294967295) : whole xs = false := by
  unfold whole
  rw [decide_eq_false_iff_not]
  intro e
  have := chain_last e h
  omega
/-- the way of the first span that holds a number -/
def way : List Span → Nat → Int × Bool
  | [], _ => (0, false)
  | s :: r, n => if s.lo ≤ n ∧ n ≤ s.hi then (s.way, true) else way r n
theorem way_step {xs : List Span} {k : Nat} (h : k < xs.length) (n : Nat) : way (xs.drop k) n = if xs[k].lo ≤ n ∧ n ≤ xs[k].hi then (xs[k].way, true) else way (xs.drop (k + 1)) n := by
  rw [List.drop_eq_getElem_cons h]; rfl
def put (out : List Span) (s : Span) : List Span :=
  match out.getLast? with
  | some l => if l.way = s.way then out.set (out.length - 1) ⟨l.lo, s.hi, l.way⟩ else out ++ [s]
  | none => out ++ [s]
theorem put_nil (s : Span) : put [] s = [s] := rfl
theorem put_same {out : List Span} {s : Span} (h : 0 < out.length) (e : out[out.length - 1].way = s.way) : put out s = out.set (out.length - 1) ⟨out[out.length - 1].lo, s.hi, out[out.length - 1].way⟩ := by
  unfold put
  rw [List.getLast?_eq_getElem?, List.getElem?_eq_getElem (by omega)]
  simp only [e, if_true]
theorem put_other {out : List Span} {s : Span} (h : 0 < out.length) (e : out[out.length - 1].way ≠ s.way) : put out s = out ++ [s] := by
  unfold put
  rw [List.getLast?_eq_getElem?, List.getElem?_eq_getElem (by omega)]
  simp only [e, if_false]
theorem put_ok {out : List Span} {s : Span} (h : ∀ x ∈ out, OkS x) (hs : OkS s) : ∀ x ∈ put out s, OkS x := by
  unfold put
  split
  · rename_i l hl
    have hlm : l ∈ out := List.mem_of_getLast? hl
    split
    · intro x hx
      rcases List.mem_or_eq_of_mem_set hx with hx | rfl
      · exact h x hx
      · exact ⟨(h l hlm).l, hs.h, (h l hlm).a, (h l hlm).b⟩
    · intro x hx
      rcases List.mem_append.1 hx with hx | hx
      · exact h x hx
      · simp at hx; subst hx; exact hs
  · intro x hx
    rcases List.mem_append.1 hx with hx | hx
    · exact h x hx
    · simp at hx; subst hx; exact hs
theorem put_len (out : List Span) (s : Span) : (put out s).length ≤ out.length + 1 := by
  unfold put; split
  · split <;> simp
  · simp
/-- the way of the one at a place -/
def wy (xs : List Span) (i : Nat) : Int := match xs[i]? with | some s => s.way | none => 0
theorem wy_get {xs : List Span} {i : Nat} (h : i < xs.length) : wy xs i = xs[i].way := by unfold wy; rw [List.getElem?_eq_getElem h]
def dupAt (xs : List Span) (i : Nat) : Bool := decide (0 < i) && (wy xs i == wy xs (i - 1))
def dup (xs : List Span) (k : Nat) : Bool := (List.range k).any (dupAt xs)
theorem dup_succ (xs : List Span) (k : Nat) : dup xs (k + 1) = (dup xs k || dupAt xs k) := by simp [dup, List.range_succ]
theorem dup_mono {xs : List Span} {k n : Nat} (h : k ≤ n) (hd : dup xs k = true) : dup xs n = true := by
  unfold dup at *
  rw [List.any_eq_true] at *
  obtain ⟨i, hi, e⟩ := hd
  rw [List.mem_range] at hi
  exact ⟨i, List.mem_range.2 (by omega), e⟩
/-- are spans whole, and no neighbours of one way? -/
def mergedB (xs : List Span) : Bool := whole xs && !dup xs xs.length
def merge (xs : List Span) : List Span := xs.foldl put []
theorem merge_succ {xs : List Span} {k : Nat} (h : k < xs.length) : merge (xs.take (k + 1)) = put (merge (xs.take k)) xs[k] := by
  unfold merge
  rw [List.take_succ_eq_append_getElem h, List.foldl_append]; rfl
theorem merge_ok {xs : List Span} (h : ∀ x ∈ xs, OkS x) : ∀ x ∈ merge xs, OkS x := by
  unfold merge
  have : ∀ (ys out : List Span), (∀ x ∈ ys, OkS x) → (∀ x ∈ out, OkS x) → ∀ x ∈ ys.foldl put out, OkS x := by
    intro ys
    induction ys with
    | nil => intro out _ ho; exact ho
    | cons y ys ih => intro out hy ho; exact ih _ (fun x hx => hy x (by simp [hx])) (put_ok ho (hy y (by simp)))
  exact this xs [] h (by simp)
theorem merge_len (xs : List Span) : (merge xs).length ≤ xs.length := by
  unfold merge
  have : ∀ (ys out : List Span), (ys.foldl put out).length ≤ out.length + ys.length := by
    intro ys
    induction ys with
    | nil => intro out; simp
    | cons y ys ih => intro out; have := ih (put out y); have h2 := put_len out y; simp only [List.foldl_cons, List.length_cons]; omega
  simpa using this xs []
def sameS (a b : Span) : Bool := a.lo == b.lo && (a.hi == b.hi && a.way == b.way)
end L23
end Go.Proofs.Ytkmhfjnjfghnjaa

