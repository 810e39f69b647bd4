import Derived.Test.YtkmhfjnjfghnjaaMq10
import Derived.Test.YtkmhfjnjfghnjaaMq7
import Derived.Test.YtkmhfjnjfghnjaaMq12
import Derived.Test.YtkmhfjnjfghnjaaMq3
import Derived.Test.YtkmhfjnjfghnjaaMq2
import Derived.Test.YtkmhfjnjfghnjaaMq13
import Derived.RangeFuncBox
import Derived.Test.YtkmhfjnjfghnjaaMq5
import Derived.Deep.RegionLaw
import Derived.Deep.DeepCutAuto
/- Layer 21: the walks of first over tests by Denote's closure, over rules by Find's and Denote's. -/
namespace Go.Proofs.Ytkmhfjnjfghnjaa
open Go.RowKit V
namespace L21
open L25 (Dat datV OkD)
theorem idxH_cases (p : Test → Bool) : ∀ (ts : List Test) (k : Nat), (idxA p ts k = -1 ∧ ts.any p = false ∧ ts.find? p = none) ∨ ∃ i, ∃ h : i < ts.length, idxA p ts k = ((k + i : Nat) : Int) ∧ ts.find? p = some (ts[i]'h) ∧ ts.any p = true
  | [], k => .inl ⟨rfl, rfl, rfl⟩
  | t :: r, k => by
    cases hp : p t
    · rcases idxH_cases p r (k + 1) with ⟨h1, h2, h4⟩ | ⟨i, h, h1, h2, h3⟩
      · exact .inl ⟨by simp only [idxA, hp]; exact h1, by rw [List.any_cons, hp, h2]; rfl, by rw [List.find?_cons, hp]; exact h4⟩
      · refine .inr ⟨i + 1, by simp; omega, ?_, by rw [List.find?_cons, hp]; simpa using h2, by rw [List.any_cons, h3]; simp⟩
        simp only [idxA, hp]
        have e : ((k + 1 + i : Nat) : Int) = ((k + (i + 1) : Nat) : Int) := by omega
        rw [← e]; exact h1
    · exact .inr ⟨0, by simp, by simp [idxA, hp], by rw [List.find?_cons, hp]; rfl, by rw [List.any_cons, hp]; rfl⟩
/-- what is told of the first test that holds -/
def FndT (d : Dat) (ts : List Test) (t : Test) : Prop := ts.find? (holdP d) = if ts.any (holdP d) = true then some t else none
theorem FndT.no {d : Dat} {ts : List Test} (h1 : ts.any (holdP d) = false) (h2 : ts.find? (holdP d) = none) (t : Test) : FndT d ts t := by unfold FndT; rw [h1, h2]; rfl
theorem FndT.yes {d : Dat} {ts : List Test} {t : Test} (h1 : ts.any (holdP d) = true) (h2 : ts.find? (holdP d) = some t) : FndT d ts t := by unfold FndT; rw [h1, h2]; rfl
set_option maxRecDepth 100000 in
set_option maxHeartbeats 400000 in
theorem firstHold_calls (d : Dat) (hd : OkD d) (B : Nat) (v : Value) (ts : List Test) (hl : ts.length ≤ 140737488351232) (hok : ∀ t ∈ ts, OkT t) (w : World) (hB : Cda w B d) (hv : Rd w 4 encT v ts) :
    Calls Try.prog 53 #[v, .func (.func 54) #[] #[.pointer (some ⟨B, 0, none⟩)]] w fun e w' =>
      ∃ t : Test, e = .returned (.tuple #[.agg #[.int .i64 t.arg, .int .u64 (t.mask : Int), .int .u64 (t.value : Int), .int .u32 (t.action : Int)], .bool (ts.any (holdP d))]) ∧ Ext w w' ∧ FndT d ts t := by
  have hI := fun W (hx : Ext w W) => idxHold_calls d hd B v ts hl hok W (hB.ext hx) (hv.ext hx)
  obtain ⟨a, c, rfl, hac, hca⟩ := rdT_cell hv
  clear hv
  have Hhok := Lib.hid hok
  clear hok
  have HhB := Lib.hid hB
  clear hB
  rcases idxH_cases (holdP d) ts 0 with ⟨h1, h2, hf0⟩ | ⟨i, hi, h1, hf0, h2⟩
  · rw [h1] at hI
    rw [h2]
    have HhI := Lib.hid hI
    clear hI
    have Hh1 := Lib.hid h1
    clear h1
    have Hh2 := Lib.hid h2
    clear h2
    have Hhf0 := Lib.hid hf0
    clear hf0
    clear hca
    go_enter Try.func53, Try.ntmps53
    go_wp2_with fail
    refine (HhI.out _ ((Ext.refl _).alloc _)).mono ?_
    rintro e w1 ⟨rfl, hx1⟩
    have z0 := hx1.cell (p := ⟨w.heap.size, 0, none⟩) (by simp [go_sem]; rfl)
    have z1 := hx1.cell (p := ⟨w.heap.size, 1, none⟩) (by simp [go_sem]; rfl)
    have z2 := hx1.cell (p := ⟨w.heap.size, 2, none⟩) (by simp [go_sem]; rfl)
    have z3 := hx1.cell (p := ⟨w.heap.size, 3, none⟩) (by simp [go_sem]; rfl)
    have hsz : w.heap.size < w1.heap.size := World.block_lt_of_cell? _ _ z0
    have hf : ∀ j, w1.frozen? ⟨w.heap.size, j, none⟩ = false := fun j => (World.frozen?_of_block (hx1.block (by simp))).trans (by simp [go_sem])
    have f0 := hf 0
    have f1 := hf 1
    have f2 := hf 2
    have f3 := hf 3
    have HX1 := Lib.hid (((Ext.refl w).alloc _).trans hx1)
    clear hx1 hf
    go_wp2_with fail
    have hne : ¬ w.heap.size = w1.heap.size := by omega
    refine bodyPost_ret (v := .tuple #[.agg #[.int .i64 0, .int .u64 0, .int .u64 0, .int .u32 0], .bool false]) (by first | (simp [results, Try.results53, go_sem, World.cell?_alloc_old, hne, z0, z1, z2, z3]; done) | (simp [results, Try.results53, go_sem, World.cell?_alloc_old, hne, z0, z1, z2, z3]; rfl)) rfl ⟨⟨0, 0, 0, 0⟩, rfl, ?_, FndT.no Hh2.out Hhf0.out _⟩
    repeat (first | exact HX1.out | refine Ext.alloc ?_ _ | refine Ext.setCell ?_ (by simp) _)
  · have hi0 : (((0 + i : Nat) : Int)) = (i : Int) := by omega
    rw [h1, hi0] at hI
    rw [h2]
    obtain ⟨b, o, rfl, g0, g1, g2, g3⟩ := hca i hi
    generalize ts[i]'hi = t at *
    have HhI := Lib.hid hI
    clear hI
    have Hh1 := Lib.hid h1
    clear h1
    have Hh2 := Lib.hid h2
    clear h2
    have Hhf0 := Lib.hid hf0
    clear hf0
    clear hca hi0
    have d0 : decide ((0 : Int) ≤ (i : Int)) = true := decide_eq_true (by omega)
    go_enter Try.func53, Try.ntmps53
    go_wp2_with fail
    refine (HhI.out _ ((Ext.refl _).alloc _)).mono ?_
    rintro e w1 ⟨rfl, hx1⟩
    have z0 := hx1.cell (p := ⟨w.heap.size, 0, none⟩) (by simp [go_sem]; rfl)
    have z1 := hx1.cell (p := ⟨w.heap.size, 1, none⟩) (by simp [go_sem]; rfl)
    have z2 := hx1.cell (p := ⟨w.heap.size, 2, none⟩) (by simp [go_sem]; rfl)
    have z3 := hx1.cell (p := ⟨w.heap.size, 3, none⟩) (by simp [go_sem]; rfl)
    have hsz : w.heap.size < w1.heap.size := World.block_lt_of_cell? _ _ z0
    have hf : ∀ j, w1.frozen? ⟨w.heap.size, j, none⟩ = false := fun j => (World.frozen?_of_block (hx1.block (by simp))).trans (by simp [go_sem])
    have f0 := hf 0
    have f1 := hf 1
    have f2 := hf 2
    have f3 := hf 3
    have hxx := ((Ext.refl w).alloc (.cells #[.int .i64 0, .int .u64 0, .int .u64 0, .int .u32 0] 37)).trans hx1
    replace g0 := hxx.cell g0
    replace g1 := hxx.cell g1
    replace g2 := hxx.cell g2
    replace g3 := hxx.cell g3
    have HX1 := Lib.hid hxx
    clear hx1 hf hxx
    go_wp2_with fail
    refine bodyPost_ret (v := .tuple #[.agg #[.int .i64 t.arg, .int .u64 (t.mask : Int), .int .u64 (t.value : Int), .int .u32 (t.action : Int)], .bool true]) (by first | (simp [results, Try.results53, go_sem, z0, z1, z2, z3]; done) | (simp [results, Try.results53, go_sem, z0, z1, z2, z3]; rfl)) rfl ⟨t, rfl, ?_, FndT.yes Hh2.out Hhf0.out⟩
    repeat (first | exact HX1.out | refine Ext.alloc ?_ _ | refine Ext.setCell ?_ (by simp) _)
end L21
end Go.Proofs.Ytkmhfjnjfghnjaa

/- Layer 21 in plain Lean: which filters may be, what they say of data, their normal forms; the chapter's theorems on them. -/
namespace Go.Proofs.Ytkmhfjnjfghnjaa
open Go.RowKit V
namespace L21
open L25 (Dat datV OkD)
open L08 (ofA)
def upB : Option Nat → Nat → Bool
  | none, _ => true
  | some q, n => decide (q < n)
def mayL : Option Nat → List Rule → Bool
  | _, [] => true
  | p, r :: l => (mayR r && upB p r.nr) && mayL (some r.nr) l
def mayF (f : Filter) : Bool := decide (0 ≤ f.arch) && (decide (f.arch < 6) && (decide (f.rules.length ≤ 400) && (L20.kn f.dflt && mayL none f.rules)))
theorem mayL_weaken {p : Option Nat} {q : Nat} (h : upB p q = true) : ∀ {l : List Rule}, mayL (some q) l = true → mayL p l = true
  | [], _ => rfl
  | r :: l, k => by
    simp only [mayL, Bool.and_eq_true] at k ⊢
    refine ⟨⟨k.1.1, ?_⟩, k.2⟩
    have k2 := k.1.2
    cases p with
    | none => rfl
    | some p =>
      unfold upB at h k2 ⊢
      simp only [decide_eq_true_eq] at h k2 ⊢
      omega
theorem mayL_mem : ∀ {l : List Rule} {p : Option Nat}, mayL p l = true → ∀ r ∈ l, mayR r = true ∧ upB p r.nr = true
  | r :: l, p, k, x, hx => by
    simp only [mayL, Bool.and_eq_true] at k
    cases hx with
    | head => exact k.1
    | tail _ hx =>
      have h := mayL_mem k.2 x hx
      refine ⟨h.1, ?_⟩
      have h2 := h.2
      have k2 := k.1.2
      cases p with
      | none => rfl
      | some p =>
        unfold upB at h2 k2 ⊢
        simp only [decide_eq_true_eq] at h2 k2 ⊢
        omega
/-- what the first test that holds says, or else x -/
def fstA (d : Dat) (ts : List Test) (x : Nat) : Nat := match ts.find? (holdP d) with
  | some t => t.action
  | none => x
def denL (d : Dat) (df : Nat) (rs : List Rule) : Nat := match rs.find? (fun r => r.nr == d.nr) with
  | some r => fstA d r.tests r.action
  | none => df
def ownA (f : Filter) (d : Dat) : Bool := (ofA d.ar d.nr).2 && ((ofA d.ar d.nr).1 == f.arch)
def denA (f : Filter) (d : Dat) : Nat := if ownA f d = true then denL d f.dflt f.rules else 2147418112
/-- the tests ahead of the first one without a mask, and what is said else -/
def cutT : List Test → Nat → List Test × Nat
  | [], x => ([], x)
  | t :: l, x => if t.mask == 0 then ([], t.action) else (t :: (cutT l x).1, (cutT l x).2)
/-- how many of the first tests stay -/
def trimN (ts : List Test) (x : Nat) : Nat → Nat
  | 0 => 0
  | k + 1 => if (ts.getD k ⟨0, 0, 0, 0⟩).action == x then trimN ts x k else k + 1
def trimT (ts : List Test) (x : Nat) : List Test := ts.take (trimN ts x ts.length)
def normR (r : Rule) : Rule := ⟨r.nr, trimT (cutT r.tests r.action).1 (cutT r.tests r.action).2, (cutT r.tests r.action).2⟩
def keepB (df : Nat) (r : Rule) : Bool := !r.tests.isEmpty || !(r.action == df)
def normL (df : Nat) (rs : List Rule) : List Rule := (rs.map normR).filter (keepB df)
def normF (f : Filter) : Filter := ⟨f.arch, normL f.dflt f.rules, f.dflt⟩
theorem trimN_le (ts : List Test) (x : Nat) : ∀ k, trimN ts x k ≤ k
  | 0 => Nat.le_refl _
  | k + 1 => by
    unfold trimN
    split
    · have := trimN_le ts x k; omega
    · exact Nat.le_refl _
theorem trimN_end (ts : List Test) (x : Nat) : ∀ k, trimN ts x k = 0 ∨ ((ts.getD (trimN ts x k - 1) ⟨0, 0, 0, 0⟩).action == x) = false
  | 0 => .inl rfl
  | k + 1 => by
    unfold trimN
    split
    · exact trimN_end ts x k
    · rename_i h
      refine .inr ?_
      rw [Nat.add_sub_cancel]
      simpa using h
theorem trimN_cut (ts : List Test) (x : Nat) : ∀ k j, trimN ts x k ≤ j → j < k → (ts.getD j ⟨0, 0, 0, 0⟩).action = x
  | 0, j, _, h => by omega
  | k + 1, j, h, h2 => by
    unfold trimN at h
    split at h
    · rename_i he
      by_cases hj : j < k
      · exact trimN_cut ts x k j h hj
      · obtain rfl : j = k := by omega
        exact eq_of_beq he
    · omega
theorem cutT_len : ∀ (ts : List Test) (x : Nat), (cutT ts x).1.length ≤ ts.length
  | [], _ => Nat.le_refl _
  | t :: l, x => by
    unfold cutT
    split
    · simp
    · simpa using cutT_len l x
theorem cutT_mem : ∀ (ts : List Test) (x : Nat) (t : Test), t ∈ (cutT ts x).1 → t ∈ ts ∧ (t.mask == 0) = false
  | a :: l, x, t, h => by
    unfold cutT at h
    split at h
    · cases h
    · rename_i hm
      cases h with
      | head => exact ⟨.head _, by simpa using hm⟩
      | tail _ h => have := cutT_mem l x t h; exact ⟨.tail _ this.1, this.2⟩
theorem cutT_act : ∀ (ts : List Test) (x : Nat), (cutT ts x).2 = x ∨ ∃ t ∈ ts, (cutT ts x).2 = t.action
  | [], _ => .inl rfl
  | a :: l, x => by
    unfold cutT
    split
    · exact .inr ⟨a, .head _, rfl⟩
    · rcases cutT_act l x with h | ⟨t, h1, h2⟩
      · exact .inl h
      · exact .inr ⟨t, .tail _ h1, h2⟩
theorem cutT_self : ∀ (ts : List Test) (x : Nat), (∀ t ∈ ts, (t.mask == 0) = false) → cutT ts x = (ts, x)
  | [], _, _ => rfl
  | a :: l, x, h => by
    unfold cutT
    rw [if_neg (by rw [h a (.head _)]; simp), cutT_self l x (fun t ht => h t (.tail _ ht))]
theorem trimT_mem {ts : List Test} {x : Nat} {t : Test} (h : t ∈ trimT ts x) : t ∈ ts := List.mem_of_mem_take h
theorem trimT_self (ts : List Test) (x : Nat) : trimT (trimT ts x) x = trimT ts x := by
  have hle := trimN_le ts x ts.length
  have hl : (trimT ts x).length = trimN ts x ts.length := by unfold trimT; rw [List.length_take]; omega
  have key : trimN (trimT ts x) x (trimT ts x).length = (trimT ts x).length := by
    rw [hl]
    cases hn : trimN ts x ts.length with
    | zero => rfl
    | succ n =>
      unfold trimN
      rw [if_neg]
      have h := trimN_end ts x ts.length
      rw [hn] at h
      rcases h with h | h
      · omega
      · rw [Nat.add_sub_cancel] at h
        have e : (trimT ts x).getD n ⟨0, 0, 0, 0⟩ = ts.getD n ⟨0, 0, 0, 0⟩ := by
          unfold trimT
          rw [List.getD_eq_getElem?_getD, List.getD_eq_getElem?_getD, List.getElem?_take_of_lt (by omega)]
        rw [e, h]; simp
  show List.take (trimN (trimT ts x) x (trimT ts x).length) (trimT ts x) = _
  rw [key, List.take_length]
theorem normR_nr (r : Rule) : (normR r).nr = r.nr := rfl
theorem normR_mask {r : Rule} {t : Test} (h : t ∈ (normR r).tests) : t ∈ r.tests ∧ (t.mask == 0) = false := cutT_mem _ _ _ (trimT_mem h)
theorem normR_self (r : Rule) : normR (normR r) = normR r := by
  have h : cutT (normR r).tests (normR r).action = ((normR r).tests, (normR r).action) := cutT_self _ _ (fun t ht => (normR_mask ht).2)
  have e : normR (normR r) = ⟨(normR r).nr, trimT (cutT (normR r).tests (normR r).action).1 (cutT (normR r).tests (normR r).action).2, (cutT (normR r).tests (normR r).action).2⟩ := rfl
  rw [e, h]
  have e2 : trimT (normR r).tests (normR r).action = (normR r).tests := trimT_self _ _
  rw [e2]
theorem normL_self (df : Nat) (rs : List Rule) : normL df (normL df rs) = normL df rs := by
  have h : (normL df rs).map normR = normL df rs := by
    have e : (normL df rs).map normR = (normL df rs).map id := List.map_congr_left fun r hr => by
      obtain ⟨hr, -⟩ := List.mem_filter.1 hr
      obtain ⟨s, -, rfl⟩ := List.mem_map.1 hr
      exact normR_self s
    rw [e, List.map_id]
  show ((normL df rs).map normR).filter (keepB df) = _
  rw [h]
  unfold normL
  rw [List.filter_filter]
  congr 1
  funext r
  simp
theorem normF_self (f : Filter) : normF (normF f) = normF f := by
  have e : normF (normF f) = ⟨f.arch, normL f.dflt (normL f.dflt f.rules), f.dflt⟩ := rfl
  rw [e, normL_self]; rfl
theorem normL_len (df : Nat) (rs : List Rule) : (normL df rs).length ≤ rs.length := by
  unfold normL
  have := List.length_filter_le (keepB df) (rs.map normR)
  simpa using this
theorem mayT_of {r : Rule} (h : mayR r = true) : r.tests.length ≤ 32 ∧ (∀ t ∈ r.tests, mayT t = true) ∧ L20.kn r.action = true := by
  unfold mayR at h
  simp only [Bool.and_eq_true, decide_eq_true_eq] at h
  obtain ⟨h1, h2, h3⟩ := h
  refine ⟨h1, fun t ht => ?_, h3⟩
  cases hm : mayT t
  · have : r.tests.any badT = true := List.any_eq_true.2 ⟨t, ht, by unfold badT; rw [hm]; rfl⟩
    rw [this] at h2; cases h2
  · rfl
theorem mayR_mk {r : Rule} (h1 : r.tests.length ≤ 32) (h2 : ∀ t ∈ r.tests, mayT t = true) (h3 : L20.kn r.action = true) : mayR r = true := by
  unfold mayR
  have : r.tests.any badT = false := by
    cases hb : r.tests.any badT
    · rfl
    · obtain ⟨t, ht, hq⟩ := List.any_eq_true.1 hb
      unfold badT at hq
      rw [h2 t ht] at hq; cases hq
  rw [this, h3, decide_eq_true h1]; rfl
theorem mayT_parts {t : Test} (h : mayT t = true) : 0 ≤ t.arg ∧ t.arg < 6 ∧ (t.value &&& t.mask) = t.value ∧ L20.kn t.action = true := by
  unfold mayT at h
  simp only [Bool.and_eq_true, decide_eq_true_eq, beq_iff_eq] at h
  exact h
theorem normR_may {r : Rule} (h : mayR r = true) : mayR (normR r) = true := by
  obtain ⟨h1, h2, h3⟩ := mayT_of h
  refine mayR_mk ?_ (fun t ht => h2 t (normR_mask ht).1) ?_
  · have := cutT_len r.tests r.action
    show (trimT (cutT r.tests r.action).1 _).length ≤ 32
    unfold trimT
    rw [List.length_take]; omega
  · show L20.kn (cutT r.tests r.action).2 = true
    rcases cutT_act r.tests r.action with e | ⟨t, ht, e⟩
    · rw [e]; exact h3
    · rw [e]; exact (mayT_parts (h2 t ht)).2.2.2
theorem normL_may (df : Nat) : ∀ {rs : List Rule} {p : Option Nat}, mayL p rs = true → mayL p (normL df rs) = true
  | [], _, _ => rfl
  | r :: l, p, h => by
    simp only [mayL, Bool.and_eq_true] at h
    have ih := normL_may df h.2
    have e : normL df (r :: l) = if keepB df (normR r) = true then normR r :: normL df l else normL df l := by
      unfold normL
      rw [List.map_cons, List.filter_cons]
    rw [e]
    split
    · simp only [mayL, Bool.and_eq_true]
      exact ⟨⟨normR_may h.1.1, h.1.2⟩, ih⟩
    · exact mayL_weaken h.1.2 ih
theorem normF_may {f : Filter} (h : mayF f = true) : mayF (normF f) = true := by
  unfold mayF at h ⊢
  simp only [Bool.and_eq_true, decide_eq_true_eq] at h ⊢
  obtain ⟨h1, h2, h3, h4, h5⟩ := h
  exact ⟨h1, h2, Nat.le_trans (normL_len _ _) h3, h4, normL_may _ h5⟩
theorem holdP_zero {d : Dat} {t : Test} (h : mayT t = true) (hm : (t.mask == 0) = true) : holdP d t = true := by
  obtain ⟨h1, h2, h3, -⟩ := mayT_parts h
  have hm' := eq_of_beq hm
  rw [hm', Nat.and_zero] at h3
  unfold holdP holdsA
  rw [hm', ← h3, decide_eq_true h1, decide_eq_true h2]
  simp
theorem fstA_cons (d : Dat) (t : Test) (l : List Test) (x : Nat) : fstA d (t :: l) x = if holdP d t = true then t.action else fstA d l x := by
  unfold fstA
  rw [List.find?_cons]
  cases holdP d t <;> rfl
theorem fstA_cut {d : Dat} : ∀ {ts : List Test} {x : Nat}, (∀ t ∈ ts, mayT t = true) → fstA d (cutT ts x).1 (cutT ts x).2 = fstA d ts x
  | [], _, _ => rfl
  | t :: l, x, h => by
    rw [fstA_cons]
    unfold cutT
    split
    · rename_i hm
      rw [if_pos (holdP_zero (h t (.head _)) hm)]; rfl
    · rw [fstA_cons, fstA_cut (fun s hs => h s (.tail _ hs))]
theorem fstA_app (d : Dat) (x : Nat) (ys : List Test) (hy : ∀ t ∈ ys, t.action = x) : ∀ xs : List Test, fstA d (xs ++ ys) x = fstA d xs x
  | [] => by
    show fstA d ys x = x
    unfold fstA
    cases h : ys.find? (holdP d) with
    | none => rfl
    | some t => exact hy t (List.mem_of_find?_eq_some h)
  | t :: l => by rw [List.cons_append, fstA_cons, fstA_cons, fstA_app d x ys hy l]
theorem fstA_trim (d : Dat) (ts : List Test) (x : Nat) : fstA d (trimT ts x) x = fstA d ts x := by
  have e : ts = trimT ts x ++ ts.drop (trimN ts x ts.length) := by unfold trimT; rw [List.take_append_drop]
  conv => rhs; rw [e]
  refine (fstA_app d x _ (fun t ht => ?_) _).symm
  obtain ⟨i, hi, rfl⟩ := List.getElem_of_mem ht
  rw [List.length_drop] at hi
  rw [List.getElem_drop]
  have := trimN_cut ts x ts.length (trimN ts x ts.length + i) (by omega) (by omega)
  rw [List.getD_eq_getElem?_getD, List.getElem?_eq_getElem (by omega)] at this
  exact this
theorem fstA_norm {d : Dat} {r : Rule} (h : mayR r = true) : fstA d (normR r).tests (normR r).action = fstA d r.tests r.action :=
  (fstA_trim d _ _).trans (fstA_cut (mayT_of h).2.1)
theorem denL_cons (d : Dat) (df : Nat) (r : Rule) (l : List Rule) : denL d df (r :: l) = if (r.nr == d.nr) = true then fstA d r.tests r.action else denL d df l := by
  unfold denL
  rw [List.find?_cons]
  cases (r.nr == d.nr) <;> rfl
theorem denL_none {d : Dat} {df : Nat} {l : List Rule} (h : ∀ r ∈ l, r.nr ≠ d.nr) : denL d df l = df := by
  unfold denL
  rw [List.find?_eq_none.2 (fun r hr => by simpa using h r hr)]
theorem denL_norm {d : Dat} {df : Nat} : ∀ {rs : List Rule} {p : Option Nat}, mayL p rs = true → denL d df (normL df rs) = denL d df rs
  | [], _, _ => rfl
  | r :: l, p, h => by
    simp only [mayL, Bool.and_eq_true] at h
    have ih := denL_norm (d := d) (df := df) h.2
    have e : normL df (r :: l) = if keepB df (normR r) = true then normR r :: normL df l else normL df l := by
      unfold normL
      rw [List.map_cons, List.filter_cons]
    rw [e, denL_cons]
    split
    · rw [denL_cons, ih, fstA_norm h.1.1]; rfl
    · rename_i hk
      rw [ih]
      split
      · rename_i hn
        have hn' := eq_of_beq hn
        rw [denL_none (fun s hs => by
          have h2 := (mayL_mem h.2 s hs).2
          unfold upB at h2
          simp only [decide_eq_true_eq] at h2
          omega), ← fstA_norm h.1.1]
        unfold keepB at hk
        simp only [Bool.or_eq_true, not_or, Bool.not_eq_true] at hk
        obtain ⟨k1, k2⟩ := hk
        have k1' : (normR r).tests = [] := by
          cases hh : (normR r).tests with
          | nil => rfl
          | cons a b => rw [hh] at k1; cases k1
        have k2' : (normR r).action = df := by
          cases hb : ((normR r).action == df)
          · rw [hb] at k2; cases k2
          · exact eq_of_beq hb
        rw [k1', k2']; rfl
      · rfl
theorem denA_norm {f : Filter} (h : mayF f = true) (d : Dat) : denA (normF f) d = denA f d := by
  unfold mayF at h
  simp only [Bool.and_eq_true] at h
  unfold denA
  have e : ownA (normF f) d = ownA f d := rfl
  rw [e]
  split
  · exact denL_norm h.2.2.2.2
  · rfl
end L21
end Go.Proofs.Ytkmhfjnjfghnjaa

/- Layer 21: rules as pairs of what they say and where their tests lie; rows of them in memory; plain laws on one rule set in place of another. -/
namespace Go.Proofs.Ytkmhfjnjfghnjaa
open Go.RowKit V
namespace L21
open L25 (Dat datV OkD)
structure PR where
  r : Rule
  a : Option Addr
  c : Nat
def PR.v (p : PR) : Value := .slice p.a p.r.tests.length p.c
def encP (p : PR) : List Value := [.int .u32 (p.r.nr : Int), p.v, .int .u32 (p.r.action : Int)]
theorem encP_len (p : PR) : (encP p).length = 3 := rfl
theorem encP_one (p : PR) : ∀ u ∈ encP p, u.oneCell' = true := by
  intro u hu; simp [encP, PR.v] at hu; rcases hu with rfl | rfl | rfl <;> rfl
def GoodP (w : World) (p : PR) : Prop := Rd w 4 encT p.v p.r.tests
theorem GoodP.ext {a w : World} (h : Ext a w) {p : PR} (hp : GoodP a p) : GoodP w p := Rd.ext h hp
theorem infoR9 : (Try.prog.info? 34).map (fun i => (i.zero, i.size, i.bytes)) = some (some (.agg #[.int .u32 0, .slice none 0 0, .int .u32 0]), 3, 40) := by kernel_rfl
theorem rdRR_of {w : World} {v : Value} {ps : List PR} (h : Rd w 3 encP v ps) (hg : ∀ p ∈ ps, GoodP w p) : RdR w 3 (IsR w) v (ps.map PR.r) := by
  obtain ⟨a, c, h1, h2, h3, h4⟩ := h
  refine ⟨a, c, by rw [h1, List.length_map], by rw [List.length_map]; exact h2, h3, fun i hi => ?_⟩
  rw [List.length_map] at hi
  obtain ⟨b, o, e, hat⟩ := h4 i hi
  refine ⟨b, o, encP ps[i], e, rfl, hat, ps[i].v, ?_, ?_⟩
  · rw [List.getElem_map]; rfl
  · rw [List.getElem_map]; exact hg _ (List.getElem_mem hi)
theorem of_rdRR {w : World} {v : Value} {rs : List Rule} (h : RdR w 3 (IsR w) v rs) : ∃ ps : List PR, ps.map PR.r = rs ∧ Rd w 3 encP v ps ∧ ∀ p ∈ ps, GoodP w p := by
  obtain ⟨a, c, h1, h2, h3, h4⟩ := h
  have each : ∀ i, i < rs.length → ∃ p : PR, p.r = rs.getD i ⟨0, [], 0⟩ ∧ GoodP w p ∧ ∃ b o, a = some ⟨b, o, none⟩ ∧ At w b (o + i * 3) (encP p) := by
    intro i hi
    obtain ⟨b, o, cs, e, hl, hat, u, rfl, hu⟩ := h4 i hi
    have hu2 := hu
    obtain ⟨a', c', rfl, -⟩ := hu
    refine ⟨⟨rs[i], a', c'⟩, ?_, hu2, b, o, e, hat⟩
    rw [List.getD_eq_getElem?_getD, List.getElem?_eq_getElem hi]; rfl
  have pick : ∃ g : Nat → PR, ∀ i, i < rs.length → (g i).r = rs.getD i ⟨0, [], 0⟩ ∧ GoodP w (g i) ∧ ∃ b o, a = some ⟨b, o, none⟩ ∧ At w b (o + i * 3) (encP (g i)) := by
    classical
    refine ⟨fun i => if hi : i < rs.length then (each i hi).choose else ⟨⟨0, [], 0⟩, none, 0⟩, fun i hi => ?_⟩
    simp only [hi, dif_pos]
    exact (each i hi).choose_spec
  obtain ⟨g, hg⟩ := pick
  refine ⟨(List.range rs.length).map g, ?_, ⟨a, c, by simpa using h1, by simpa using h2, h3, fun i hi => ?_⟩, fun p hp => ?_⟩
  · apply List.ext_getElem (by simp)
    intro i hi hi'
    rw [List.getElem_map, List.getElem_map, List.getElem_range, (hg i hi').1, List.getD_eq_getElem?_getD, List.getElem?_eq_getElem hi']; rfl
  · simp only [List.length_map, List.length_range] at hi
    obtain ⟨-, -, b, o, e, hat⟩ := hg i hi
    refine ⟨b, o, e, ?_⟩
    rw [List.getElem_map, List.getElem_range]; exact hat
  · obtain ⟨i, hi, rfl⟩ := List.mem_map.1 hp
    exact (hg i (List.mem_range.1 hi)).2.1
/-- a slice of tests that lies in a block of its own, from some block on -/
def OwnT (w : World) (base : Nat) (p : PR) : Prop := (p.a = none ∧ p.r.tests = []) ∨ ∃ g cur, p.a = some ⟨g, 0, none⟩ ∧ base ≤ g ∧ w.heap[g]? = some (.cells cur 37 (0, 0))
theorem OwnT.base {w : World} {b b' : Nat} {p : PR} (h : OwnT w b p) (hb : b' ≤ b) : OwnT w b' p := by
  rcases h with h | ⟨g, cur, h1, h2, h3⟩
  · exact .inl h
  · exact .inr ⟨g, cur, h1, by omega, h3⟩
theorem OwnT.ext {a w : World} (h : Ext a w) {b : Nat} {p : PR} (hp : OwnT a b p) : OwnT w b p := by
  rcases hp with hp | ⟨g, cur, h1, h2, h3⟩
  · exact .inl hp
  · exact .inr ⟨g, cur, h1, h2, (h.block (Array.getElem?_eq_some_iff.1 h3).1).trans h3⟩
theorem denL_at {d : Dat} {df : Nat} : ∀ {rs : List Rule} {i : Nat} (hi : i < rs.length), rs[i].nr = d.nr → (∀ k (h : k < i), rs[k].nr ≠ d.nr) → denL d df rs = fstA d rs[i].tests rs[i].action
  | r :: l, 0, _, h, _ => by
    rw [denL_cons, if_pos (by simpa using h)]; rfl
  | r :: l, i + 1, hi, h, hk => by
    rw [denL_cons, if_neg (by have := hk 0 (by omega); simpa using this)]
    have hi' : i < l.length := by simpa using hi
    exact denL_at (rs := l) (i := i) hi' h (fun k hlt => hk (k + 1) (by omega))
theorem denL_set {d : Dat} {df : Nat} {r : Rule} : ∀ {rs : List Rule} {i : Nat} (hi : i < rs.length), r.nr = rs[i].nr → d.nr ≠ r.nr → denL d df (rs.set i r) = denL d df rs
  | s :: l, 0, _, h, hn => by
    have h' : r.nr = s.nr := h
    rw [List.set_cons_zero, denL_cons, denL_cons, if_neg (by simp; omega), if_neg (by simp; omega)]
  | s :: l, i + 1, hi, h, hn => by
    rw [List.set_cons_succ, denL_cons, denL_cons, denL_set (rs := l) (i := i) (by simpa using hi) h hn]
theorem fstA_behind {d : Dat} {t : Test} {x : Nat} : ∀ {ts : List Test}, (!holdP d t || ts.any (holdP d)) = true → fstA d (ts ++ [t]) x = fstA d ts x
  | [], h => by
    have h' : holdP d t = false := by simpa using h
    rw [List.nil_append, fstA_cons, h']; rfl
  | s :: l, h => by
    rw [List.cons_append, fstA_cons, fstA_cons]
    cases hs : holdP d s
    · rw [List.any_cons, hs, Bool.false_or] at h
      rw [fstA_behind h]
    · rfl
theorem great_len : ∀ {rs : List Rule} {n : Nat}, great n rs = false → n ≤ 1000 → n + rs.length ≤ 1000 ∧ ∀ r ∈ rs, r.tests.length ≤ 1000
  | [], n, _, h2 => ⟨by simpa using h2, fun r hr => by cases hr⟩
  | r :: l, n, h, h2 => by
    unfold great at h
    split at h
    · cases h
    · rename_i hlt
      obtain ⟨h3, h4⟩ := great_len h (by omega)
      refine ⟨by simp; omega, fun s hs => ?_⟩
      cases hs with
      | head => omega
      | tail _ hs => exact h4 s hs
theorem great_bd {rs : List Rule} (h : great 0 rs = false) : rs.length ≤ 1000 ∧ ∀ r ∈ rs, r.tests.length ≤ 1000 := by
  have := great_len h (by omega)
  exact ⟨by omega, this.2⟩
end L21
end Go.Proofs.Ytkmhfjnjfghnjaa

/- Layer 21: the walks of twin and Find. -/
namespace Go.Proofs.Ytkmhfjnjfghnjaa
open Go.RowKit V
namespace L21
theorem own_set {w : World} {base e n k : Nat} {v : Value} {zs : List Value} (h : w.ownsRow base e n v k zs) {p : Addr} (hp : p.block < base) (u : Value) : (w.setCell p u).ownsRow base e n v k zs :=
  ownsRow_keep (S := fun b => base ≤ b) h (Keep.setCell w (by omega) u) (fun b hb => (h.lt b hb).1)
theorem own_base {w : World} {b b' e n k : Nat} {v : Value} {zs : List Value} (h : w.ownsRow b e n v k zs) (hb : b' ≤ b) : w.ownsRow b' e n v k zs := by
  refine ⟨h.1, ?_⟩
  rcases h.2 with h2 | ⟨g, cap, cur, rfl, hg, r⟩
  · exact .inl h2
  · exact .inr ⟨g, cap, cur, rfl, by omega, r⟩
set_option maxRecDepth 100000 in
set_option maxHeartbeats 400000 in
theorem twin_calls (r : Rule) (v : Value) (hl : r.tests.length ≤ 1000000) (w : World) (hv : Rd w 4 encT v r.tests) :
    Calls Try.prog 48 #[.agg #[.int .u32 (r.nr : Int), v, .int .u32 (r.action : Int)]] w fun e w' =>
      ∃ a c, e = .returned (.agg #[.int .u32 (r.nr : Int), .slice a r.tests.length c, .int .u32 (r.action : Int)]) ∧ w'.ownsRow w.heap.size 37 4 (.slice a r.tests.length c) r.tests.length (r.tests.flatMap encT) ∧ Ext w w' := by
  obtain ⟨rn, ts, ra⟩ := r
  dsimp only at *
  have hC := fun W (hx : Ext w W) => Clone_calls v ts hl W (hv.ext hx)
  obtain ⟨av, cv, rfl, -, -⟩ := rdT_cell hv
  have HhC := Lib.hid hC
  clear hC
  go_enter Try.func48, Try.ntmps48
  go_wp2_with fail
  refine (HhC.out _ (((Ext.refl _).alloc _).alloc _)).mono ?_
  rintro e w1 ⟨u, rfl, ho, hx1⟩
  obtain ⟨au, cu, rfl⟩ := own_form ho
  have z0 := hx1.cell (p := ⟨w.heap.size, 0, none⟩) (by simp [go_sem]; rfl)
  have z1 := hx1.cell (p := ⟨w.heap.size, 1, none⟩) (by simp [go_sem]; rfl)
  have z2 := hx1.cell (p := ⟨w.heap.size, 2, none⟩) (by simp [go_sem]; rfl)
  have y0 := hx1.cell (p := ⟨w.heap.size + 1, 0, none⟩) (by simp [go_sem]; rfl)
  have y1 := hx1.cell (p := ⟨w.heap.size + 1, 1, none⟩) (by simp [go_sem]; rfl)
  have y2 := hx1.cell (p := ⟨w.heap.size + 1, 2, none⟩) (by simp [go_sem]; rfl)
  have f0 : w1.frozen? ⟨w.heap.size, 1, none⟩ = false := (World.frozen?_of_block (hx1.block (by simp; omega))).trans (by simp [go_sem])
  have f1 : ∀ j, w1.frozen? ⟨w.heap.size + 1, j, none⟩ = false := fun j => (World.frozen?_of_block (hx1.block (by simp))).trans (by simp [go_sem])
  have f10 := f1 0
  have f11 := f1 1
  have f12 := f1 2
  have hb1 : w.heap.size < w1.heap.size := World.block_lt_of_cell? _ _ z0
  have hb2 : w.heap.size + 1 < w1.heap.size := World.block_lt_of_cell? _ _ y0
  have HO := Lib.hid (own_base (b' := w.heap.size + 2) ho (by simp))
  have HX1 := Lib.hid ((((Ext.refl w).alloc _).alloc _).trans hx1)
  clear hx1 ho f1
  go_wp2_with fail
  refine bodyPost_ret (v := .agg #[.int .u32 (rn : Int), .slice au ts.length cu, .int .u32 (ra : Int)]) (by first | (simp [results, Try.results48, go_sem, y0, y1, y2]; done) | (simp [results, Try.results48, go_sem, y0, y1, y2]; rfl)) rfl ⟨_, _, rfl, ?_, ?_⟩
  · refine own_base (b := w.heap.size + 2) ?_ (by omega)
    repeat (first | exact HO.out | refine own_set ?_ (by first | (simp; done) | (simp; omega)) _)
  · repeat (first | exact HX1.out | refine Ext.setCell ?_ (by first | (simp; done) | (simp; omega)) _)
/-- which rule is told of a number -/
def FndI (nr : Nat) (rs : List Rule) (r : Rule) : Prop := (idxR nr rs 0 = -1 ∧ r = ⟨0, [], 0⟩) ∨ ∃ i, ∃ h : i < rs.length, idxR nr rs 0 = (i : Int) ∧ r = rs[i]'h
set_option maxRecDepth 100000 in
set_option maxHeartbeats 1000000 in
theorem Find_calls (f : Filter) (u : Value) (nr : Nat) (hl : f.rules.length ≤ 1000) (hlr : ∀ r ∈ f.rules, r.tests.length ≤ 1000) (w : World) (hu : RdR w 3 (IsR w) u f.rules) :
    Calls Try.prog 22 #[.agg #[.int .i64 f.arch, u, .int .u32 (f.dflt : Int)], .int .u32 (nr : Int)] w fun e w' =>
      ∃ (r : Rule) (a : Option Addr) (c : Nat), e = .returned (.tuple #[.agg #[.int .u32 (r.nr : Int), .slice a r.tests.length c, .int .u32 (r.action : Int)], .bool (decide (0 ≤ idxR nr f.rules 0))]) ∧
        w'.ownsRow w.heap.size 37 4 (.slice a r.tests.length c) r.tests.length (r.tests.flatMap encT) ∧ Ext w w' ∧ FndI nr f.rules r := by
  obtain ⟨ar, rs, df⟩ := f
  dsimp only at *
  have hF := fun W (hx : Ext w W) B (hB : W.cell? ⟨B, 0, none⟩ = some (.int .u32 (nr : Int))) => findFirst_calls u rs nr B (by omega) W hB (rdRR_ext hx hu)
  obtain ⟨av, cv, rfl, -, -⟩ := rdR_cell hu
  generalize hbb : decide (0 ≤ idxR nr rs 0) = bb at *
  have Hhbb := Lib.hid hbb
  clear hbb
  have HhF := Lib.hid hF
  clear hF
  clear hu
  go_enter Try.func22, Try.ntmps22
  go_wp2_with fail
  refine (HhF.out _ ((((Ext.refl _).alloc _).alloc _).alloc _) _ (by simp [go_sem])).mono ?_
  rintro e w1 ⟨r, v, rfl, hx1, hfnd⟩
  have hr1 : Rd w1 4 encT v r.tests ∧ r.tests.length ≤ 1000000 ∧ FndI nr rs r := by
    rcases hfnd with ⟨h1, rfl, rfl⟩ | ⟨i, h, h1, rfl, h3⟩
    · exact ⟨rd_none _ _ _, by simp, .inl ⟨h1, rfl⟩⟩
    · exact ⟨h3.ext hx1, by have := hlr _ (List.getElem_mem h); omega, .inr ⟨i, h, h1, rfl⟩⟩
  obtain ⟨hrd, hrl, hfi⟩ := hr1
  have y0 := hx1.cell (p := ⟨w.heap.size + 2, 0, none⟩) (by simp [go_sem]; rfl)
  have y1 := hx1.cell (p := ⟨w.heap.size + 2, 1, none⟩) (by simp [go_sem]; rfl)
  have y2 := hx1.cell (p := ⟨w.heap.size + 2, 2, none⟩) (by simp [go_sem]; rfl)
  have f1 : ∀ j, w1.frozen? ⟨w.heap.size + 2, j, none⟩ = false := fun j => (World.frozen?_of_block (hx1.block (by simp))).trans (by simp [go_sem])
  have hb2 : w.heap.size + 2 < w1.heap.size := World.block_lt_of_cell? _ _ y0
  have HX1 := Lib.hid (((((Ext.refl w).alloc _).alloc _).alloc _).trans hx1)
  obtain ⟨rn, ts, ra⟩ := r
  dsimp only at *
  obtain ⟨avv, cvv, rfl, -, -⟩ := rdT_cell hrd
  have hT := fun W (hx : Ext w1 W) => twin_calls ⟨rn, ts, ra⟩ (.slice avv ts.length cvv) hrl W (hrd.ext hx)
  dsimp only at hT
  have HXA := Lib.hid hx1
  have HhT := Lib.hid hT
  clear hT
  have Hhfi := Lib.hid hfi
  clear hfi
  clear hx1 hrd hfnd
  go_wp2_with fail
  refine (HhT.out _ ((Ext.refl _).alloc _)).mono ?_
  rintro e w2 ⟨a2, c2, rfl, ho, hx2⟩
  have hxx := ((Ext.refl w1).alloc (.cells #[.int .u32 (rn : Int), .slice avv ts.length cvv, .int .u32 (ra : Int)] 34)).trans hx2
  replace y0 := hxx.cell y0
  replace y1 := hxx.cell y1
  replace y2 := hxx.cell y2
  have f2 : ∀ j, w2.frozen? ⟨w.heap.size + 2, j, none⟩ = false := fun j => (World.frozen?_of_block (hxx.block hb2)).trans (f1 j)
  have f20 := f2 0
  have f21 := f2 1
  have f22 := f2 2
  have hb3 : w.heap.size + 2 < w2.heap.size := World.block_lt_of_cell? _ _ y0
  have HO := Lib.hid (own_base (b' := w.heap.size + 3) ho (by simp; omega))
  have HX2 := Lib.hid (HX1.out.trans hxx)
  clear hx2 ho f1 f2 hxx
  go_wp2_with fail
  refine bodyPost_ret (v := .tuple #[.agg #[.int .u32 (rn : Int), .slice a2 ts.length c2, .int .u32 (ra : Int)], .bool bb]) (by first | (simp [results, Try.results22, go_sem, y0, y1, y2]; done) | (simp [results, Try.results22, go_sem, y0, y1, y2]; rfl)) rfl ⟨⟨rn, ts, ra⟩, _, _, rfl, ?_, ?_, Hhfi.out⟩
  · refine own_base (b := w.heap.size + 3) ?_ (by omega)
    repeat (first | exact HO.out | refine own_set ?_ (by first | (simp; done) | (simp; omega)) _)
  · repeat (first | exact HX2.out | refine Ext.setCell ?_ (by first | (simp; done) | (simp; omega)) _)
end L21
end Go.Proofs.Ytkmhfjnjfghnjaa

/- Layer 21: the walk of normal. -/
namespace Go.Proofs.Ytkmhfjnjfghnjaa
open Go.RowKit V
namespace L21
theorem cut_idx : ∀ (ts : List Test) (x k : Nat), (idxA zeroT ts k = -1 ∧ cutT ts x = (ts, x)) ∨ ∃ i, ∃ h : i < ts.length, idxA zeroT ts k = ((k + i : Nat) : Int) ∧ cutT ts x = (ts.take i, (ts[i]'h).action)
  | [], x, k => .inl ⟨rfl, rfl⟩
  | t :: r, x, k => by
    cases hp : zeroT t
    · have hp' : ¬ (t.mask == 0) = true := by unfold zeroT at hp; rw [hp]; simp
      rcases cut_idx r x (k + 1) with ⟨h1, h2⟩ | ⟨i, h, h1, h2⟩
      · exact .inl ⟨by simp only [idxA, hp]; exact h1, by unfold cutT; rw [if_neg hp', h2]⟩
      · refine .inr ⟨i + 1, by simp; omega, ?_, by unfold cutT; rw [if_neg hp', h2]; rfl⟩
        simp only [idxA, hp]
        have e : ((k + 1 + i : Nat) : Int) = ((k + (i + 1) : Nat) : Int) := by omega
        rw [← e]; exact h1
    · have hp' : (t.mask == 0) = true := hp
      exact .inr ⟨0, by simp, by simp [idxA, hp], by unfold cutT; rw [if_pos hp']; rfl⟩
theorem Rd.setCell {α : Type} {w : World} {n : Nat} {enc : α → List Value} {a : Option Addr} {m c : Nat} {xs : List α} (h : Rd w n enc (.slice a m c) xs) {p : Addr} (hp : ∀ b o, a = some ⟨b, o, none⟩ → b ≠ p.block) (u : Value) : Rd (w.setCell p u) n enc (.slice a m c) xs := by
  obtain ⟨a', c', e, h1, h2, h3⟩ := h
  simp only [Value.slice.injEq] at e
  obtain ⟨rfl, rfl, rfl⟩ := e
  refine ⟨a, c, rfl, h1, h2, fun i hi => ?_⟩
  obtain ⟨b, o, e, hat⟩ := h3 i hi
  refine ⟨b, o, e, fun j hj => ?_⟩
  have hk := Keep.setCell (S := fun k => k ≠ p.block) w (p := p) (fun h => h rfl) u
  exact (hk.cell (p := ⟨b, _, none⟩) (hp b o e)).trans (hat j hj)
theorem OwnT.setCell {w : World} {base : Nat} {p : PR} (h : OwnT w base p) {q : Addr} (hq : q.block < base) (u : Value) : OwnT (w.setCell q u) base p := by
  rcases h with h | ⟨g, cur, h1, h2, h3⟩
  · exact .inl h
  · exact .inr ⟨g, cur, h1, h2, ((Keep.setCell (S := fun k => k ≠ q.block) w (p := q) (fun h => h rfl) u).block g (by omega)).trans h3⟩
/-- a rule in a box of a call's own, with its tests in memory of its own -/
structure NS (w : World) (B rn : Nat) (a : Option Addr) (k c x : Nat) (ts : List Test) (W : World) : Prop where
  ext : Ext w W
  hB : w.heap.size ≤ B
  b0 : W.cell? ⟨B, 0, none⟩ = some (.int .u32 (rn : Int))
  b1 : W.cell? ⟨B, 1, none⟩ = some (.slice a k c)
  b2 : W.cell? ⟨B, 2, none⟩ = some (.int .u32 (x : Int))
  f : ∀ j, W.frozen? ⟨B, j, none⟩ = false
  hk : k ≤ ts.length
  kc : k ≤ c
  good : Rd W 4 encT (.slice a k c) (ts.take k)
  own : OwnT W (B + 2) ⟨⟨rn, ts.take k, x⟩, a, c⟩
  y0 : W.cell? ⟨B + 1, 0, none⟩ = some (.int .u32 0)
  y1 : W.cell? ⟨B + 1, 1, none⟩ = some (.slice none 0 0)
  y2 : W.cell? ⟨B + 1, 2, none⟩ = some (.int .u32 0)
  fy : ∀ j, W.frozen? ⟨B + 1, j, none⟩ = false
theorem NS.out {w : World} {B rn : Nat} {a : Option Addr} {k c x : Nat} {ts : List Test} {W : World} (h : NS w B rn a k c x ts W) (b o : Nat) (e : a = some ⟨b, o, none⟩) : B + 2 ≤ b ∧ o = 0 := by
  rcases h.own with ⟨h1, -⟩ | ⟨g, cur, h1, h2, h3⟩
  · dsimp only at h1; rw [h1] at e; cases e
  · dsimp only at h1; rw [h1] at e; simp at e; omega
theorem NS.nil {w : World} {B rn : Nat} {a : Option Addr} {k c x : Nat} {ts : List Test} {W : World} (h : NS w B rn a k c x ts W) : a = none → c = 0 := by
  obtain ⟨a', c', e, -, h2, -⟩ := h.good
  simp only [Value.slice.injEq] at e
  obtain ⟨rfl, -, rfl⟩ := e
  exact h2
theorem set_ne {w : World} {B i j : Nat} (u : Value) (h : i ≠ j) : (w.setCell ⟨B, i, none⟩ u).cell? ⟨B, j, none⟩ = w.cell? ⟨B, j, none⟩ := by
  exact World.cell?_setCell_other _ _ _ _ (fun e => h (Addr.mk.inj e).2.1)
theorem NS.cut {w : World} {B rn : Nat} {a : Option Addr} {k c x : Nat} {ts : List Test} {W : World} (h : NS w B rn a k c x ts W) {k' c' : Nat} (hk' : k' ≤ k) (hc : k' ≤ c') (hn : a = none → c' = 0) :
    NS w B rn a k' c' x ts (W.setCell ⟨B, 1, none⟩ (.slice a k' c')) := by
  have hne : ∀ b o, a = some ⟨b, o, none⟩ → b ≠ B := fun b o e => by have := h.out b o e; omega
  refine ⟨h.ext.setCell h.hB _, h.hB, ?_, ?_, ?_, fun j => (World.frozen?_setCell _ _ _ _).trans (h.f j), by have := h.hk; omega, hc, ?_, ?_, by simpa [go_sem] using h.y0, by simpa [go_sem] using h.y1, by simpa [go_sem] using h.y2, fun j => (World.frozen?_setCell _ _ _ _).trans (h.fy j)⟩
  · rw [set_ne _ (by omega)]; exact h.b0
  · have := h.b1; simp [go_sem, this]
  · rw [set_ne _ (by omega)]; exact h.b2
  · have h1 := h.good.take (k := k') (c' := c') (by rw [List.length_take]; have := h.hk; omega) hc hn
    rw [List.take_take, Nat.min_eq_left hk'] at h1
    exact Rd.setCell h1 hne _
  · refine OwnT.setCell ?_ (by dsimp only; omega) _
    rcases h.own with ⟨h1, h2⟩ | ⟨g, cur, h1, h2, h3⟩
    · refine .inl ⟨h1, ?_⟩
      dsimp only at h2 ⊢
      have : (ts.take k).take k' = [] := by rw [h2, List.take_nil]
      rw [List.take_take, Nat.min_eq_left hk'] at this
      exact this
    · exact .inr ⟨g, cur, h1, h2, h3⟩
theorem NS.act {w : World} {B rn : Nat} {a : Option Addr} {k c x : Nat} {ts : List Test} {W : World} (h : NS w B rn a k c x ts W) (x' : Nat) :
    NS w B rn a k c x' ts (W.setCell ⟨B, 2, none⟩ (.int .u32 (x' : Int))) := by
  have hne : ∀ b o, a = some ⟨b, o, none⟩ → b ≠ B := fun b o e => by have := h.out b o e; omega
  refine ⟨h.ext.setCell h.hB _, h.hB, ?_, ?_, ?_, fun j => (World.frozen?_setCell _ _ _ _).trans (h.f j), h.hk, h.kc, ?_, ?_, by simpa [go_sem] using h.y0, by simpa [go_sem] using h.y1, by simpa [go_sem] using h.y2, fun j => (World.frozen?_setCell _ _ _ _).trans (h.fy j)⟩
  · rw [set_ne _ (by omega)]; exact h.b0
  · rw [set_ne _ (by omega)]; exact h.b1
  · have := h.b2; simp [go_sem, this]
  · exact Rd.setCell h.good hne _
  · exact OwnT.setCell h.own (by dsimp only; omega) _
theorem NS.kept {w : World} {B rn : Nat} {a : Option Addr} {k c x : Nat} {ts : List Test} {W W' : World} (h : NS w B rn a k c x ts W) (hx : Ext W W') : NS w B rn a k c x ts W' :=
  ⟨h.ext.trans hx, h.hB, hx.cell h.b0, hx.cell h.b1, hx.cell h.b2, fun j => (World.frozen?_of_block (a := ⟨B, j, none⟩) (hx.block (k := B) (World.block_lt_of_cell? _ ⟨B, 0, none⟩ h.b0))).trans (h.f j), h.hk, h.kc, h.good.ext hx, h.own.ext hx, hx.cell h.y0, hx.cell h.y1, hx.cell h.y2, fun j => (World.frozen?_of_block (a := ⟨B + 1, j, none⟩) (hx.block (k := B + 1) (World.block_lt_of_cell? _ ⟨B + 1, 0, none⟩ h.y0))).trans (h.fy j)⟩
theorem NS.pre {w : World} {B rn : Nat} {a : Option Addr} {k c x : Nat} {ts : List Test} {W : World} (h : NS w B rn a k c x ts W) {i : Nat} (hi : k ≤ i) : NS w B rn a k c x (ts.take i) W := by
  have e : (ts.take i).take k = ts.take k := by rw [List.take_take, Nat.min_eq_left hi]
  exact ⟨h.ext, h.hB, h.b0, h.b1, h.b2, h.f, by rw [List.length_take]; have := h.hk; omega, h.kc, by rw [e]; exact h.good, by rw [e]; exact h.own, h.y0, h.y1, h.y2, h.fy⟩
theorem NS.done {w : World} {B rn : Nat} {a : Option Addr} {k c x : Nat} {ts : List Test} {W : World} (h : NS w B rn a k c x ts W) (u0 u1 u2 : Value) :
    Ext w (((W.setCell ⟨B + 1, 0, none⟩ u0).setCell ⟨B + 1, 1, none⟩ u1).setCell ⟨B + 1, 2, none⟩ u2) ∧ GoodP (((W.setCell ⟨B + 1, 0, none⟩ u0).setCell ⟨B + 1, 1, none⟩ u1).setCell ⟨B + 1, 2, none⟩ u2) ⟨⟨rn, ts.take k, x⟩, a, c⟩ ∧
      OwnT (((W.setCell ⟨B + 1, 0, none⟩ u0).setCell ⟨B + 1, 1, none⟩ u1).setCell ⟨B + 1, 2, none⟩ u2) w.heap.size ⟨⟨rn, ts.take k, x⟩, a, c⟩ := by
  have hb := h.hB
  have hne : ∀ b o, a = some ⟨b, o, none⟩ → b ≠ B + 1 := fun b o e => by have := h.out b o e; omega
  refine ⟨((h.ext.setCell (by show _ ≤ B + 1; omega) _).setCell (by show _ ≤ B + 1; omega) _).setCell (by show _ ≤ B + 1; omega) _, ?_, ?_⟩
  · have e : (ts.take k).length = k := by rw [List.length_take]; have := h.hk; omega
    unfold GoodP PR.v
    dsimp only
    rw [e]
    exact Rd.setCell (Rd.setCell (Rd.setCell h.good hne _) hne _) hne _
  · exact OwnT.base (OwnT.setCell (OwnT.setCell (OwnT.setCell h.own (by show B + 1 < B + 2; omega) _) (by show B + 1 < B + 2; omega) _) (by show B + 1 < B + 2; omega) _) (by omega)
theorem NS.cellT {w : World} {B rn : Nat} {a : Option Addr} {k c x : Nat} {ts : List Test} {W : World} (h : NS w B rn a k c x ts W) {j : Nat} (hj : j < k) : ∃ g, a = some ⟨g, 0, none⟩ ∧ W.cell? ⟨g, j * 4 + 3, none⟩ = some (.int .u32 ((ts[j]'(by have := h.hk; omega)).action : Int)) := by
  have hk := h.hk
  obtain ⟨a', c', e, -, hc⟩ := rdT_cell h.good
  simp only [Value.slice.injEq] at e
  obtain ⟨rfl, -, rfl⟩ := e
  obtain ⟨b, o, rfl, -, -, -, h4⟩ := hc j (by rw [List.length_take]; omega)
  obtain ⟨-, rfl⟩ := h.out b o rfl
  refine ⟨b, rfl, ?_⟩
  rw [List.getElem_take, Nat.zero_add] at h4
  exact h4
theorem trimN_step {ts : List Test} {x k : Nat} (h : k < ts.length) : trimN ts x (k + 1) = if (ts[k].action == x) = true then trimN ts x k else k + 1 := by
  rw [trimN, List.getD_eq_getElem?_getD, List.getElem?_eq_getElem h]; rfl
theorem NS.start {w w1 : World} {B rn x : Nat} {a : Option Addr} {c : Nat} {ts : List Test} (hx : Ext w w1) (hB : w.heap.size ≤ B) {v0 v1 v2 : Value} (z0 : w1.cell? ⟨B, 0, none⟩ = some v0) (z1 : w1.cell? ⟨B, 1, none⟩ = some v1) (z2 : w1.cell? ⟨B, 2, none⟩ = some v2)
    (f : ∀ j, w1.frozen? ⟨B, j, none⟩ = false) (y0 : w1.cell? ⟨B + 1, 0, none⟩ = some (.int .u32 0)) (y1 : w1.cell? ⟨B + 1, 1, none⟩ = some (.slice none 0 0)) (y2 : w1.cell? ⟨B + 1, 2, none⟩ = some (.int .u32 0)) (fy : ∀ j, w1.frozen? ⟨B + 1, j, none⟩ = false)
    (ho : w1.ownsRow (B + 2) 37 4 (.slice a ts.length c) ts.length (ts.flatMap encT)) :
    NS w B rn a ts.length c x ts (((w1.setCell ⟨B, 0, none⟩ (.int .u32 (rn : Int))).setCell ⟨B, 1, none⟩ (.slice a ts.length c)).setCell ⟨B, 2, none⟩ (.int .u32 (x : Int))) := by
  have hrd := rd_of_own encT_len ho
  have hne : ∀ b o, a = some ⟨b, o, none⟩ → b ≠ B := fun b o e => by
    rcases ho.2 with ⟨h1, -⟩ | ⟨g, cap, cur, h1, hg, -⟩
    · simp only [Value.slice.injEq] at h1; rw [h1.1] at e; cases e
    · simp only [Value.slice.injEq] at h1
      rw [h1.1] at e
      simp only [Option.some.injEq, Addr.mk.injEq] at e
      omega
  refine ⟨((hx.setCell hB _).setCell hB _).setCell hB _, hB, ?_, ?_, ?_, fun j => ?_, Nat.le_refl _, ?_, ?_, ?_, ?_, ?_, ?_, fun j => ?_⟩
  · simp [go_sem, z0]
  · simp [go_sem, z1]
  · simp [go_sem, z2]
  · rw [World.frozen?_setCell, World.frozen?_setCell, World.frozen?_setCell]; exact f j
  · obtain ⟨a', c', e, h1, -⟩ := hrd
    simp only [Value.slice.injEq] at e
    obtain ⟨-, -, rfl⟩ := e
    exact h1
  · rw [List.take_length]
    exact Rd.setCell (Rd.setCell (Rd.setCell hrd hne _) hne _) hne _
  · refine OwnT.setCell (OwnT.setCell (OwnT.setCell ?_ (by dsimp only; omega) _) (by dsimp only; omega) _) (by dsimp only; omega) _
    rcases ho.2 with ⟨h1, h2⟩ | ⟨g, cap, cur, h1, hg, hh, -⟩
    · simp only [Value.slice.injEq] at h1
      exact .inl ⟨h1.1, by rw [List.take_length]; exact List.eq_nil_of_length_eq_zero h2⟩
    · simp only [Value.slice.injEq] at h1
      exact .inr ⟨g, cur, h1.1, hg, hh⟩
  · simp [go_sem, y0]
  · simp [go_sem, y1]
  · simp [go_sem, y2]
  · rw [World.frozen?_setCell, World.frozen?_setCell, World.frozen?_setCell]; exact fy j
end L21
end Go.Proofs.Ytkmhfjnjfghnjaa

/- Layer 21: a filter that a call builds in a box of its own: its rules in memory of its own, each rule's tests in memory of their own. -/
namespace Go.Proofs.Ytkmhfjnjfghnjaa
open Go.RowKit V
namespace L21
theorem own_ext {W W' : World} {base e n k : Nat} {v : Value} {zs : List Value} (h : W.ownsRow base e n v k zs) (hx : Ext W W') : W'.ownsRow base e n v k zs :=
  ownsRow_keep (S := fun b => b < W.heap.size) h (Keep.of_below hx (fun _ h => h)) (fun b hb => (h.lt b hb).2)
theorem own_typed {W : World} {base e n k : Nat} {v : Value} {zs : List Value} (h : W.ownsRow base e n v k zs) : ∀ g, v.ownBlock = some g → ∃ cur, W.heap[g]? = some (.cells cur e (0, 0)) := fun g hg => by
  rcases h.2 with ⟨rfl, -⟩ | ⟨g', cap, cur, rfl, -, hh, -⟩
  · cases hg
  · simp only [Value.ownBlock, Option.some.injEq] at hg
    subst hg
    exact ⟨cur, hh⟩
theorem good_grown {W w' : World} {row : Option Nat} {base : Nat} {p : PR} (hg : W.grownBy w' row) (hrow : ∀ k, row = some k → ∃ cur, W.heap[k]? = some (.cells cur 34 (0, 0))) (hp : GoodP W p) (ho : OwnT W base p) : GoodP w' p ∧ OwnT w' base p := by
  have hne : ∀ g cur, W.heap[g]? = some (.cells cur 37 (0, 0)) → some g ≠ row := fun g cur h e => by
    obtain ⟨cur', h'⟩ := hrow g e.symm
    rw [h] at h'
    simp at h'
  constructor
  · obtain ⟨a, c, e, h1, h2, h3⟩ := hp
    refine ⟨a, c, e, h1, h2, fun i hi => ?_⟩
    obtain ⟨b, o, ea, hat⟩ := h3 i hi
    refine ⟨b, o, ea, fun j hj => ?_⟩
    rcases ho with ⟨-, hn⟩ | ⟨g, cur, e1, -, hh⟩
    · rw [hn] at hi; cases hi
    · have e2 : p.a = a := by unfold PR.v at e; simp only [Value.slice.injEq] at e; exact e.1
      rw [← e2, e1] at ea
      simp only [Option.some.injEq, Addr.mk.injEq] at ea
      obtain ⟨rfl, -⟩ := ea
      exact hg.cell (hat j hj) (hne _ cur hh)
  · rcases ho with ho | ⟨g, cur, e1, hb, hh⟩
    · exact .inl ho
    · exact .inr ⟨g, cur, e1, hb, (hg.block g (Array.getElem?_eq_some_iff.1 hh).1 (hne _ cur hh)).trans hh⟩
theorem good_set {W : World} {base : Nat} {p : PR} (hp : GoodP W p) (ho : OwnT W base p) {q : Addr} (hq : q.block < base) (u : Value) : GoodP (W.setCell q u) p ∧ OwnT (W.setCell q u) base p := by
  refine ⟨Rd.setCell hp (fun b o e => ?_) u, OwnT.setCell ho hq u⟩
  rcases ho with ⟨h1, -⟩ | ⟨g, cur, h1, h2, -⟩
  · rw [h1] at e; cases e
  · rw [h1] at e
    simp only [Option.some.injEq, Addr.mk.injEq] at e
    omega
structure OS (w : World) (ar : Int) (df : Nat) (v : Value) (ps : List PR) (W : World) : Prop where
  ext : Ext w W
  b0 : W.cell? ⟨w.heap.size, 0, none⟩ = some (.int .i64 ar)
  b1 : W.cell? ⟨w.heap.size, 1, none⟩ = some v
  b2 : W.cell? ⟨w.heap.size, 2, none⟩ = some (.int .u32 (df : Int))
  f : ∀ j, W.frozen? ⟨w.heap.size, j, none⟩ = false
  own : W.ownsRow (w.heap.size + 1) 34 3 v ps.length (ps.flatMap encP)
  good : ∀ p ∈ ps, GoodP W p ∧ OwnT W (w.heap.size + 1) p
theorem OS.start (w : World) (ar : Int) (df : Nat) (t : TypeId) : OS w ar df (.slice none 0 0) [] (w.alloc (.cells #[.int .i64 ar, .slice none 0 0, .int .u32 (df : Int)] t)) :=
  ⟨(Ext.refl _).alloc _, by simp [go_sem], by simp [go_sem], by simp [go_sem], fun j => by simp [go_sem], World.ownsRow_nil _ _ _ _, fun p hp => by cases hp⟩
theorem OS.lt {w W : World} {ar : Int} {df : Nat} {v : Value} {ps : List PR} (h : OS w ar df v ps W) : w.heap.size < W.heap.size := World.block_lt_of_cell? _ ⟨w.heap.size, 0, none⟩ h.b0
theorem OS.kept {w W W' : World} {ar : Int} {df : Nat} {v : Value} {ps : List PR} (h : OS w ar df v ps W) (hx : Ext W W') : OS w ar df v ps W' :=
  ⟨h.ext.trans hx, hx.cell h.b0, hx.cell h.b1, hx.cell h.b2, fun j => (World.frozen?_of_block (a := ⟨w.heap.size, j, none⟩) (hx.block h.lt)).trans (h.f j), own_ext h.own hx, fun p hp => ⟨(h.good p hp).1.ext hx, (h.good p hp).2.ext hx⟩⟩
theorem OS.size {w W w' : World} {ar : Int} {df : Nat} {v : Value} {ps : List PR} (h : OS w ar df v ps W) (hg : W.grownBy w' v.ownBlock) (j : Nat) (u : Value) (hu : W.cell? ⟨w.heap.size, j, none⟩ = some u) : w'.cell? ⟨w.heap.size, j, none⟩ = some u :=
  hg.cell hu (fun e => by have := (h.own.lt _ e.symm).1; dsimp only at this; omega)
theorem OS.frz {w W w' : World} {ar : Int} {df : Nat} {v : Value} {ps : List PR} (h : OS w ar df v ps W) (hg : W.grownBy w' v.ownBlock) (j : Nat) : w'.frozen? ⟨w.heap.size, j, none⟩ = false :=
  (World.frozen?_of_block (a := ⟨w.heap.size, j, none⟩) (hg.block w.heap.size h.lt (fun e => by have := (h.own.lt _ e.symm).1; omega))).trans (h.f j)
theorem OS.grown {w W w' : World} {ar : Int} {df : Nat} {v v' : Value} {ps : List PR} {p : PR} (h : OS w ar df v ps W) (hp : GoodP W p) (ho : OwnT W (w.heap.size + 1) p) (hg : W.grownBy w' v.ownBlock)
    (hown : w'.ownsRow (w.heap.size + 1) 34 3 v' (ps.length + 1) ((ps ++ [p]).flatMap encP)) : OS w ar df v' (ps ++ [p]) (w'.setCell ⟨w.heap.size, 1, none⟩ v') := by
  have hx : Ext w w' := h.ext.grown hg (fun k e => by have := (h.own.lt k e).1; omega)
  refine ⟨hx.setCell (Nat.le_refl _) _, ?_, ?_, ?_, fun j => (World.frozen?_setCell _ _ _ _).trans (h.frz hg j), by rw [List.length_append]; exact own_set hown (by dsimp only; omega) _, fun q hq => ?_⟩
  · rw [set_ne _ (by omega)]; exact h.size hg 0 _ h.b0
  · exact World.cell?_setCell_same' _ _ _ (by rw [h.size hg 1 _ h.b1]; rfl)
  · rw [set_ne _ (by omega)]; exact h.size hg 2 _ h.b2
  · have hh : GoodP w' q ∧ OwnT w' (w.heap.size + 1) q := by
      rcases List.mem_append.1 hq with hq | hq
      · exact good_grown hg (own_typed h.own) (h.good q hq).1 (h.good q hq).2
      · rw [List.mem_singleton] at hq
        subst hq
        exact good_grown hg (own_typed h.own) hp ho
    exact good_set hh.1 hh.2 (by dsimp only; omega) _
/-- rules in memory of a call's own -/
def RF (W : World) (base : Nat) (v : Value) (ps : List PR) : Prop := W.ownsRow base 34 3 v ps.length (ps.flatMap encP) ∧ ∀ p ∈ ps, GoodP W p ∧ OwnT W base p
theorem RF.set {W : World} {base : Nat} {v : Value} {ps : List PR} (h : RF W base v ps) {q : Addr} (hq : q.block < base) (u : Value) : RF (W.setCell q u) base v ps :=
  ⟨own_set h.1 hq u, fun p hp => good_set (h.2 p hp).1 (h.2 p hp).2 hq u⟩
theorem RF.base {W : World} {b b' : Nat} {v : Value} {ps : List PR} (h : RF W b v ps) (hb : b' ≤ b) : RF W b' v ps := ⟨own_base h.1 hb, fun p hp => ⟨(h.2 p hp).1, (h.2 p hp).2.base hb⟩⟩
theorem RF.ext {W W' : World} {b : Nat} {v : Value} {ps : List PR} (h : RF W b v ps) (hx : Ext W W') : RF W' b v ps := ⟨own_ext h.1 hx, fun p hp => ⟨(h.2 p hp).1.ext hx, (h.2 p hp).2.ext hx⟩⟩
theorem RF.rd {W : World} {b : Nat} {v : Value} {ps : List PR} (h : RF W b v ps) : RdR W 3 (IsR W) v (ps.map PR.r) := rdRR_of (rd_of_own encP_len h.1) (fun p hp => (h.2 p hp).1)
theorem OS.rf {w W : World} {ar : Int} {df : Nat} {v : Value} {ps : List PR} (h : OS w ar df v ps W) : RF W (w.heap.size + 1) v ps := ⟨h.own, h.good⟩
end L21
end Go.Proofs.Ytkmhfjnjfghnjaa

/- Layer 25: a row that is being written: the writer's box, its row, what is done later, labels. -/
namespace Go.Proofs.Ytkmhfjnjfghnjaa
open Go.RowKit V
namespace L25W
open L25 (Sy encY encY_len encY_one)
open L21 (own_set own_ext own_typed set_ne)
/-- what is done later: a jump's place, its code, the labels' blocks, the blocks of what the closure holds -/
structure Jm where
  at_ : Nat
  code : Nat
  th : Nat
  el : Option Nat
  bt : Nat
  bw : Nat
  ba : Nat
  bc : Nat
  bo : Nat
def pv (b : Nat) : Value := .pointer (some ⟨b, 0, none⟩)
def Jm.val (j : Jm) : Value := .func (.func 98) #[] #[pv j.bt, pv j.bw, pv j.ba, pv j.bc, pv j.bo]
def encJ (j : Jm) : List Value := [j.val]
theorem encJ_len (j : Jm) : (encJ j).length = 1 := rfl
theorem encJ_one (j : Jm) : ∀ u ∈ encJ j, u.oneCell' = true := by
  intro u hu; simp [encJ] at hu; rw [hu]; rfl
theorem infoY9 : (Try.prog.info? 70).map (fun i => (i.zero, i.size, i.bytes)) = some (some (.agg #[.int .u16 0, .int .u32 0, .int .i64 0, .int .i64 0]), 4, 24) := by kernel_rfl
theorem infoJ9 : (Try.prog.info? 1).map (fun i => (i.zero, i.size, i.bytes)) = some (some (.nilFunc), 1, 8) := by kernel_rfl
structure JOk (W : World) (B : Nat) (j : Jm) : Prop where
  t : Boxed W j.bt 96 (pv j.th)
  w : Boxed W j.bw 92 (pv B)
  a : Boxed W j.ba 3 (.int .i64 (j.at_ : Int))
  c : Boxed W j.bc 68 (.int .u16 (j.code : Int))
  o : Boxed W j.bo 96 (.pointer (j.el.map fun b => ⟨b, 0, none⟩))
/-- what lay there in other types than the writer's own lies as it lay, but for X -/
structure WK (X : Nat → Prop) (W W' : World) : Prop where
  size : W.heap.size ≤ W'.heap.size
  kept : ∀ k cs t fr, ¬ X k → W.heap[k]? = some (.cells cs t fr) → t ≠ 70 → t ≠ 1 → t ≠ 95 → W'.heap[k]? = some (.cells cs t fr)
theorem WK.refl (X : Nat → Prop) (W : World) : WK X W W := ⟨Nat.le_refl _, fun _ _ _ _ _ h _ _ _ => h⟩
theorem WK.trans {X : Nat → Prop} {a b c : World} (h : WK X a b) (k : WK X b c) : WK X a c := ⟨Nat.le_trans h.size k.size, fun i cs t fr hx h0 h1 h2 h3 => k.kept i cs t fr hx (h.kept i cs t fr hx h0 h1 h2 h3) h1 h2 h3⟩
theorem WK.mono {X Y : Nat → Prop} {a b : World} (h : WK X a b) (hxy : ∀ k, X k → Y k) : WK Y a b := ⟨h.size, fun i cs t fr hx => h.kept i cs t fr (fun hh => hx (hxy i hh))⟩
theorem WK.ext {X : Nat → Prop} {a b : World} (h : Ext a b) : WK X a b := ⟨h.size, fun _ _ _ _ _ h0 _ _ _ => (h.block (Array.getElem?_eq_some_iff.1 h0).1).trans h0⟩
theorem WK.boxed {X : Nat → Prop} {a b : World} (h : WK X a b) {k t : Nat} {v : Value} (hb : Boxed a k t v) (hx : ¬ X k) (h1 : t ≠ 70) (h2 : t ≠ 1) (h3 : t ≠ 95) : Boxed b k t v := h.kept k _ _ _ hx hb h1 h2 h3
theorem JOk.kept {X : Nat → Prop} {a b : World} (h : WK X a b) {B : Nat} {j : Jm} (hj : JOk a B j) (hX : ∀ k, X k → ∃ v, Boxed a k 98 v) : JOk b B j := by
  have hn : ∀ (k t : Nat) (v : Value), Boxed a k t v → t ≠ 98 → ¬ X k := fun k t v hb ht hx => by
    obtain ⟨u, hu⟩ := hX k hx
    have e := Option.some.inj (hb.symm.trans hu)
    simp only [Obj.cells.injEq] at e
    exact ht e.2.1
  exact ⟨h.boxed hj.t (hn _ _ _ hj.t (by decide)) (by decide) (by decide) (by decide), h.boxed hj.w (hn _ _ _ hj.w (by decide)) (by decide) (by decide) (by decide), h.boxed hj.a (hn _ _ _ hj.a (by decide)) (by decide) (by decide) (by decide),
    h.boxed hj.c (hn _ _ _ hj.c (by decide)) (by decide) (by decide) (by decide), h.boxed hj.o (hn _ _ _ hj.o (by decide)) (by decide) (by decide) (by decide)⟩
/-- the writer in box B: its row, what is done later -/
structure WS (w0 : World) (B : Nat) (v v2 : Value) (ls : List Sy) (js : List Jm) (W : World) : Prop where
  ext : Ext w0 W
  hB : w0.heap.size ≤ B
  box : W.heap[B]? = some (.cells #[v, v2] 95 (0, 0))
  own : W.ownsRow (B + 1) 70 4 v ls.length (ls.flatMap encY)
  late : W.ownsRow (B + 1) 1 1 v2 js.length (js.flatMap encJ)
  jok : ∀ j ∈ js, JOk W B j ∧ j.at_ < ls.length
theorem WS.lt {w0 W : World} {B : Nat} {v v2 : Value} {ls : List Sy} {js : List Jm} (h : WS w0 B v v2 ls js W) : B < W.heap.size := (Array.getElem?_eq_some_iff.1 h.box).1
theorem WS.b0 {w0 W : World} {B : Nat} {v v2 : Value} {ls : List Sy} {js : List Jm} (h : WS w0 B v v2 ls js W) : W.cell? ⟨B, 0, none⟩ = some v := by simp [World.cell?, h.box]
theorem WS.b1 {w0 W : World} {B : Nat} {v v2 : Value} {ls : List Sy} {js : List Jm} (h : WS w0 B v v2 ls js W) : W.cell? ⟨B, 1, none⟩ = some v2 := by simp [World.cell?, h.box]
theorem WS.f {w0 W : World} {B : Nat} {v v2 : Value} {ls : List Sy} {js : List Jm} (h : WS w0 B v v2 ls js W) (j : Nat) : W.frozen? ⟨B, j, none⟩ = false := by simp [World.frozen?, h.box]
/-- two rows of unlike types share no block -/
theorem rows_ne {W : World} {b1 b2 e1 e2 n1 n2 k1 k2 : Nat} {v1 v2 : Value} {z1 z2 : List Value} (h1 : W.ownsRow b1 e1 n1 v1 k1 z1) (h2 : W.ownsRow b2 e2 n2 v2 k2 z2) (he : e1 ≠ e2) (g : Nat) (hg : v1.ownBlock = some g) : some g ≠ v2.ownBlock := fun e => by
  obtain ⟨c1, h3⟩ := own_typed h1 g hg
  obtain ⟨c2, h4⟩ := own_typed h2 g e.symm
  have := Option.some.inj (h3.symm.trans h4)
  simp only [Obj.cells.injEq] at this
  exact he this.2.1
theorem own_other {W w' : World} {row : Option Nat} {base e n k : Nat} {v : Value} {zs : List Value} (h : W.ownsRow base e n v k zs) (hg : W.grownBy w' row) (hne : ∀ g, v.ownBlock = some g → some g ≠ row) : w'.ownsRow base e n v k zs := by
  refine ⟨h.1, ?_⟩
  rcases h.2 with h2 | ⟨g, cap, cur, rfl, h3, h4, r⟩
  · exact .inl h2
  · exact .inr ⟨g, cap, cur, rfl, h3, (hg.block g (Array.getElem?_eq_some_iff.1 h4).1 (hne g rfl)).trans h4, r⟩
theorem box_set0 {W : World} {B t : Nat} {v v2 : Value} (h : W.heap[B]? = some (.cells #[v, v2] t (0, 0))) (u : Value) : (W.setCell ⟨B, 0, none⟩ u).heap[B]? = some (.cells #[u, v2] t (0, 0)) := by
  obtain ⟨hlt, hk⟩ := Array.getElem?_eq_some_iff.1 h
  show (W.heap.modify B _)[B]? = _
  rw [Array.getElem?_eq_getElem (by rw [Array.size_modify]; exact hlt), Array.getElem_modify_self, hk]
  rfl
theorem box_set1 {W : World} {B t : Nat} {v v2 : Value} (h : W.heap[B]? = some (.cells #[v, v2] t (0, 0))) (u : Value) : (W.setCell ⟨B, 1, none⟩ u).heap[B]? = some (.cells #[v, u] t (0, 0)) := by
  obtain ⟨hlt, hk⟩ := Array.getElem?_eq_some_iff.1 h
  show (W.heap.modify B _)[B]? = _
  rw [Array.getElem?_eq_getElem (by rw [Array.size_modify]; exact hlt), Array.getElem_modify_self, hk]
  rfl
theorem size_set (W : World) (p : Addr) (u : Value) : (W.setCell p u).heap.size = W.heap.size := by simp
/-- growth of one of the writer's rows, then a store into its box -/
theorem WK.step {W w' : World} {B t : Nat} {row : Option Nat} {cur : Array Value} (hB : W.heap[B]? = some (.cells cur 95 (0, 0))) (hg : W.grownBy w' row)
    (hrow : ∀ g, row = some g → ∃ c, W.heap[g]? = some (.cells c t (0, 0))) (ht : t = 70 ∨ t = 1) (i : Nat) (u : Value) : WK (fun _ => False) W (w'.setCell ⟨B, i, none⟩ u) := by
  refine ⟨by rw [size_set]; exact hg.size, fun k cs t' fr _ h0 h1 h2 h3 => ?_⟩
  have hkB : k ≠ B := fun e => by
    rw [e, hB] at h0
    have := Option.some.inj h0
    simp only [Obj.cells.injEq] at this
    exact h3 this.2.1.symm
  have hkr : some k ≠ row := fun e => by
    obtain ⟨c, h4⟩ := hrow k e.symm
    rw [h4] at h0
    have := Option.some.inj h0
    simp only [Obj.cells.injEq] at this
    rcases ht with ht | ht
    · exact h1 (by rw [← this.2.1, ht])
    · exact h2 (by rw [← this.2.1, ht])
  exact (Below.heap_setCell _ _ _ k (fun e => hkB e)).trans ((hg.block k (Array.getElem?_eq_some_iff.1 h0).1 hkr).trans h0)
theorem WS.put {w0 W w' : World} {B : Nat} {v v2 v' : Value} {ls ys : List Sy} {js : List Jm} (h : WS w0 B v v2 ls js W) (hg : W.grownBy w' v.ownBlock)
    (hown : w'.ownsRow (B + 1) 70 4 v' (ls.length + ys.length) ((ls ++ ys).flatMap encY)) :
    WS w0 B v' v2 (ls ++ ys) js (w'.setCell ⟨B, 0, none⟩ v') ∧ WK (fun _ => False) W (w'.setCell ⟨B, 0, none⟩ v') := by
  have hk := WK.step h.box hg (fun g e => own_typed h.own g e) (.inl rfl) 0 v'
  have hb : w'.heap[B]? = some (.cells #[v, v2] 95 (0, 0)) := (hg.block B h.lt (fun e => by have := (h.own.lt _ e.symm).1; omega)).trans h.box
  refine ⟨⟨(h.ext.grown hg (fun k e => by have := (h.own.lt k e).1; have := h.hB; omega)).setCell h.hB _, h.hB, box_set0 hb v', by rw [List.length_append]; exact own_set hown (by dsimp only; omega) _, own_set (own_other h.late hg (rows_ne h.late h.own (by decide))) (by dsimp only; omega) _, fun j hj => ?_⟩, hk⟩
  obtain ⟨h1, h2⟩ := h.jok j hj
  exact ⟨h1.kept hk (fun k hk => hk.elim), by rw [List.length_append]; omega⟩
theorem WS.later {w0 W w' : World} {B : Nat} {v v2 v' : Value} {ls : List Sy} {js : List Jm} {j : Jm} (h : WS w0 B v v2 ls js W) (hg : W.grownBy w' v2.ownBlock) (hj : JOk W B j) (hjl : j.at_ < ls.length)
    (hown : w'.ownsRow (B + 1) 1 1 v' (js.length + 1) ((js ++ [j]).flatMap encJ)) :
    WS w0 B v v' ls (js ++ [j]) (w'.setCell ⟨B, 1, none⟩ v') ∧ WK (fun _ => False) W (w'.setCell ⟨B, 1, none⟩ v') := by
  have hk := WK.step h.box hg (fun g e => own_typed h.late g e) (.inr rfl) 1 v'
  have hb : w'.heap[B]? = some (.cells #[v, v2] 95 (0, 0)) := (hg.block B h.lt (fun e => by have := (h.late.lt _ e.symm).1; omega)).trans h.box
  refine ⟨⟨(h.ext.grown hg (fun k e => by have := (h.late.lt k e).1; have := h.hB; omega)).setCell h.hB _, h.hB, box_set1 hb v', own_set (own_other h.own hg (rows_ne h.own h.late (by decide))) (by dsimp only; omega) _, by rw [List.length_append]; exact own_set hown (by dsimp only; omega) _, fun i hi => ?_⟩, hk⟩
  rcases List.mem_append.1 hi with hi | hi
  · obtain ⟨h1, h2⟩ := h.jok i hi
    exact ⟨h1.kept hk (fun k hk => hk.elim), h2⟩
  · rw [List.mem_singleton] at hi
    subst hi
    exact ⟨hj.kept hk (fun k hk => hk.elim), hjl⟩
theorem WS.kept {w0 W W' : World} {B : Nat} {v v2 : Value} {ls : List Sy} {js : List Jm} (h : WS w0 B v v2 ls js W) (hx : Ext W W') : WS w0 B v v2 ls js W' :=
  ⟨h.ext.trans hx, h.hB, (hx.block h.lt).trans h.box, own_ext h.own hx, own_ext h.late hx, fun j hj => ⟨(h.jok j hj).1.kept (WK.ext (X := fun _ => False) hx) (fun _ hk => hk.elim), (h.jok j hj).2⟩⟩
/-- a label's place -/
theorem WS.here {w0 W : World} {B lb : Nat} {v v2 u : Value} {ls : List Sy} {js : List Jm} (h : WS w0 B v v2 ls js W) (hl : Boxed W lb 98 u) (hlb : w0.heap.size ≤ lb) (u' : Value) :
    WS w0 B v v2 ls js (W.setCell ⟨lb, 0, none⟩ u') ∧ WK (fun k => k = lb) W (W.setCell ⟨lb, 0, none⟩ u') ∧ Boxed (W.setCell ⟨lb, 0, none⟩ u') lb 98 u' := by
  have hk : WK (fun k => k = lb) W (W.setCell ⟨lb, 0, none⟩ u') := ⟨by rw [size_set]; exact Nat.le_refl _, fun k cs t fr hx h0 _ _ _ => (Below.heap_setCell _ _ _ k (fun e => hx e)).trans h0⟩
  have hne : ∀ (k t : Nat) (cs : Array Value) (fr : Nat × Nat), W.heap[k]? = some (.cells cs t fr) → t ≠ 98 → k ≠ lb := fun k t cs fr h0 ht e => by
    rw [e] at h0
    have := Option.some.inj (h0.symm.trans hl)
    simp only [Obj.cells.injEq] at this
    exact ht this.2.1
  have hrow : ∀ {base e n k : Nat} {v : Value} {zs : List Value}, W.ownsRow base e n v k zs → e ≠ 98 → (W.setCell ⟨lb, 0, none⟩ u').ownsRow base e n v k zs := fun hr he => by
    refine own_other hr (grownBy_setCell' W lb u') (fun g hg e => ?_)
    obtain ⟨cur, h0⟩ := own_typed hr g hg
    exact hne g _ _ _ h0 he (Option.some.inj e)
  refine ⟨⟨h.ext.setCell hlb _, h.hB, (Below.heap_setCell _ _ _ B (fun e => hne B _ _ _ h.box (by decide) e)).trans h.box, hrow h.own (by decide), hrow h.late (by decide), fun j hj => ⟨(h.jok j hj).1.kept hk (fun k e => ⟨u, by rw [e]; exact hl⟩), (h.jok j hj).2⟩⟩, hk, hl.set u'⟩
theorem WS.start (w : World) : WS w w.heap.size (.slice none 0 0) (.slice none 0 0) [] [] (w.alloc (.cells #[.slice none 0 0, .slice none 0 0] 95)) :=
  ⟨(Ext.refl _).alloc _, Nat.le_refl _, World.alloc_heap_new w _, World.ownsRow_nil _ _ _ _, World.ownsRow_nil _ _ _ _, fun j hj => by cases hj⟩
end L25W
end Go.Proofs.Ytkmhfjnjfghnjaa

/- Layer 25: the walks of the writer's put, load, ret, here. -/
namespace Go.Proofs.Ytkmhfjnjfghnjaa
open Go.RowKit V
namespace L25W
open L25 (Sy encY encY_len encY_one)
open L21 (own_set own_ext own_typed set_ne)
set_option maxRecDepth 100000 in
theorem put_calls {w0 W : World} {B : Nat} {v v2 u : Value} {ls ys : List Sy} {js : List Jm} (h : WS w0 B v v2 ls js W) (hu : Rd W 4 encY u ys) (hl : ls.length + ys.length ≤ 1000000) :
    Calls Try.prog 95 #[pv B, u] W fun e w' => e = .returned (.tuple #[]) ∧ ∃ v', WS w0 B v' v2 (ls ++ ys) js w' ∧ WK (fun _ => False) W w' := by
  have HS := Lib.hid h
  have HU := Lib.hid hu
  have b0 := h.b0
  have hbb := h.lt
  obtain ⟨au, cu, rfl⟩ := own_form h.own
  obtain ⟨av, cv, rfl, -, -⟩ := L25.rdY_cell hu
  clear h hu
  unfold pv
  go_enter Try.func95, Try.ntmps95
  go_wp2_with (at_builtin
               refine wpList_app_g rfl (.tmp 8) (.tmp 9) _ rfl Try.underlying52 infoY9 rfl (by decide) encY_len encY_one (B + 1) _ _ ls ys rfl rfl HS.out.own HU.out (by omega) (by decide) (by omega) ?_
               intro au5 cu5 w5 ho5 hg5
               obtain ⟨hs5, hk5⟩ := HS.out.put hg5 ho5
               have c0 : w5.cell? ⟨B, 0, none⟩ = some (.slice au ls.length cu) := hg5.cell b0 (fun e => by have := (HS.out.own.lt _ e.symm).1; dsimp only at this; omega)
               have f0 : w5.frozen? ⟨B, 0, none⟩ = false := (World.frozen?_of_block (a := ⟨B, 0, none⟩) (hg5.block B hbb (fun e => by have := (HS.out.own.lt _ e.symm).1; omega))).trans (HS.out.f 0)
               have hb5 := World.block_lt_of_cell? _ _ c0
               have HS5 := Lib.hid hs5
               have HK5 := Lib.hid hk5
               clear ho5 hg5 hs5 hk5)
  go_end0
  exact ⟨rfl, ⟨_, HS5.out⟩, HK5.out⟩
theorem rd_litY (W : World) (ys : List Sy) (t : TypeId) (g : Nat) (hg : g = W.heap.size) : Rd (W.alloc (.cells (ys.flatMap encY).toArray t)) 4 encY (.slice (some ⟨g, 0, none⟩) ys.length ys.length) ys := rd_lit encY_len W ys t g hg
theorem WK.alloc {X : Nat → Prop} {a b : World} (h : WK X a b) (o : Obj) : WK X a (b.alloc o) := h.trans (WK.ext ((Ext.refl _).alloc o))
theorem WK.after {X : Nat → Prop} {a b : World} (o : Obj) (h : WK X (a.alloc o) b) : WK X a b := (WK.ext ((Ext.refl _).alloc o)).trans h
set_option maxRecDepth 100000 in
theorem load_calls {w0 W : World} {B : Nat} {v v2 : Value} {ls : List Sy} {js : List Jm} (h : WS w0 B v v2 ls js W) (hl : ls.length ≤ 100000) (k : Nat) :
    Calls Try.prog 64 #[pv B, .int .u32 (k : Int)] W fun e w' => e = .returned (.tuple #[]) ∧ ∃ v', WS w0 B v' v2 (ls ++ [⟨32, k, 0, 0⟩]) js w' ∧ WK (fun _ => False) W w' := by
  have HS := Lib.hid h
  clear h
  unfold pv
  go_enter Try.func64, Try.ntmps64
  go_wp2_with fail
  refine (put_calls (ys := [⟨32, k, 0, 0⟩]) (HS.out.kept ((Ext.refl W).alloc _)) (rd_litY W [⟨32, k, 0, 0⟩] _ _ rfl) (by simp; omega)).mono ?_
  rintro e w' ⟨rfl, v', hs, hk⟩
  have HH := Lib.hid (And.intro hs (WK.after _ hk))
  clear hs hk
  go_wp2_with fail
  go_end0
  exact ⟨rfl, v', HH.out⟩
set_option maxRecDepth 100000 in
theorem ret_calls {w0 W : World} {B : Nat} {v v2 : Value} {ls : List Sy} {js : List Jm} (h : WS w0 B v v2 ls js W) (hl : ls.length ≤ 100000) (k : Nat) :
    Calls Try.prog 70 #[pv B, .int .u32 (k : Int)] W fun e w' => e = .returned (.tuple #[]) ∧ ∃ v', WS w0 B v' v2 (ls ++ [⟨6, k, 0, 0⟩]) js w' ∧ WK (fun _ => False) W w' := by
  have HS := Lib.hid h
  clear h
  unfold pv
  go_enter Try.func70, Try.ntmps70
  go_wp2_with fail
  refine (put_calls (ys := [⟨6, k, 0, 0⟩]) (HS.out.kept ((Ext.refl W).alloc _)) (rd_litY W [⟨6, k, 0, 0⟩] _ _ rfl) (by simp; omega)).mono ?_
  rintro e w' ⟨rfl, v', hs, hk⟩
  have HH := Lib.hid (And.intro hs (WK.after _ hk))
  clear hs hk
  go_wp2_with fail
  go_end0
  exact ⟨rfl, v', HH.out⟩
set_option maxRecDepth 100000 in
theorem here_calls {w0 W : World} {B lb : Nat} {v v2 u : Value} {ls : List Sy} {js : List Jm} (h : WS w0 B v v2 ls js W) (hb : Boxed W lb 98 u) (hlb : w0.heap.size ≤ lb) :
    Calls Try.prog 69 #[pv B, pv lb] W fun e w' => e = .returned (.tuple #[]) ∧ WS w0 B v v2 ls js w' ∧ WK (fun k => k = lb) W w' ∧ Boxed w' lb 98 (.int .i64 (ls.length : Int)) := by
  have HH := Lib.hid (h.here hb hlb (.int .i64 (ls.length : Int)))
  have b0 := h.b0
  have hbb := h.lt
  have c0 := hb.cell
  have f0 := hb.frozen
  have hll := hb.lt
  obtain ⟨au, cu, rfl⟩ := own_form h.own
  clear h hb
  unfold pv
  go_enter Try.func69, Try.ntmps69
  go_wp2_with fail
  go_end0
  exact ⟨rfl, HH.out⟩
end L25W
end Go.Proofs.Ytkmhfjnjfghnjaa

