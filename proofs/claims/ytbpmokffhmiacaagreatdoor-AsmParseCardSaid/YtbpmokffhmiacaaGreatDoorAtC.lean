/- Layer 7: the walk of read. -/
import Derived.Test.YtbpmokffhmiacaaGreatDoorAtB
namespace Go.Proofs.YtbpmokffhmiacaaGreatDoor
open Go.RowKit Go.Shelf Go.Sort V
attribute [local go_sem] Oper.semAt_some
namespace L07
theorem split_le (k : Nat) : ∀ (s : List UInt8), ∀ x ∈ Lib.splitK [32] 0 k s, x.length ≤ s.length := by
  induction k with
  | zero => intro s x hx; cases List.mem_singleton.1 hx; exact Nat.le_refl _
  | succ k ih =>
    intro s x hx
    unfold Lib.splitK at hx
    split at hx
    · cases List.mem_singleton.1 hx; exact Nat.le_refl _
    · rcases List.mem_cons.1 hx with rfl | h
      · rw [List.length_take]; exact Nat.min_le_right _ _
      · have := ih _ x h
        rw [List.length_drop] at this; omega
theorem words_le (l : List UInt8) : ∀ x ∈ wordsS l, x.length ≤ l.length := split_le _ l
theorem words_num (l : List UInt8) : (wordsS l).length ≤ l.length + 1 := by
  rw [← words_len]
  have := Lib.countB_le ⟨#[32]⟩ (by decide) _ (str l) (Nat.le_refl _)
  rw [str_size] at this
  omega
theorem words_ne (l : List UInt8) : wordsS l ≠ [] := fun h => by
  have := words_len l
  rw [h] at this; cases this
theorem number_rest {ws r : List (List UInt8)} {u : Nat} (h : numberA ws = some (u, r)) : ∃ w, ws = w :: r := by
  cases ws with
  | nil => cases h
  | cons w q =>
    replace h : (numW w).map (fun u => (u, q)) = some (u, r) := h
    cases hn : numW w with
    | none => rw [hn] at h; cases h
    | some x => rw [hn] at h; cases h; exact ⟨w, rfl⟩
theorem place_rest {ws r : List (List UInt8)} {p u : Nat} (h : placeA p ws = some (u, r)) : ∃ w, ws = w :: r := by
  cases ws with
  | nil => cases h
  | cons w q =>
    cases w with
    | nil => cases h
    | cons c x =>
      rw [place_out] at h
      split at h
      · split at h
        · split at h
          · cases h; exact ⟨_, rfl⟩
          · cases h
        · cases h
      · cases h
theorem blk_set {W : World} {B j : Nat} {cs : Array Value} {t : TypeId} {fz : Nat × Nat} (h : W.heap[B]? = some (.cells cs t fz)) (v : Value) : (W.setCell ⟨B, j, none⟩ v).heap[B]? = some (.cells (cs.setIfInBounds j v) t fz) := by
  obtain ⟨hlt, hr⟩ := Array.getElem?_eq_some_iff.1 h
  simp only [World.setCell]
  rw [Array.getElem?_eq_getElem (by rw [Array.size_modify]; exact hlt), Array.getElem_modify_self, hr]
  simp
theorem frozen4 {W : World} {B j : Nat} {cs : Array Value} {t : TypeId} (h : W.heap[B]? = some (.cells cs t (0, 0))) : W.frozen? ⟨B, j, none⟩ = false := by simp [World.frozen?, h]
set_option maxRecDepth 100000 in
/-- the end: the struct stands in its slot of memory -/
theorem cell_end4 {fn : Func} {w W : World} {A : Act} {B : Nat} {x y z u a b c d v : Value} {Q : Ending → World → Prop} (hr : fn.results = #[.cell 4 34, .tmp 5])
    (h2 : A.tmps.getD 4 undef = .pointer (some ⟨B, 0, none⟩)) (h3 : A.tmps.getD 5 undef = v) (hd : A.defers = []) (hb : W.heap[B]? = some (.cells #[a, b, c, d] 34 (0, 0))) (hE : Ext w W) (hB : w.heap.size ≤ B)
    (hQ : ∀ W', Ext w W' → Q (.returned (.tuple #[.agg #[x, y, z, u], v])) W') :
    bodyPost Tryz.prog fn Q .ret A ((((W.setCell ⟨B, 0, none⟩ x).setCell ⟨B, 1, none⟩ y).setCell ⟨B, 2, none⟩ z).setCell ⟨B, 3, none⟩ u) := by
  have h1 := blk_set (j := 3) (blk_set (j := 2) (blk_set (j := 1) (blk_set (j := 0) hb x) y) z) u
  obtain ⟨s0, s1, s2, s3⟩ := blk4 (show _ = some (Obj.cells #[x, y, z, u] 34 (0, 0)) from h1)
  refine bodyPost_ret (v := .tuple #[.agg #[x, y, z, u], v]) ?_ hd (hQ _ ((((hE.setCell hB _).setCell hB _).setCell hB _).setCell hB _))
  rw [results_cell_tmp hr, h2, h3]
  have hl : ∀ W', W'.cell? ⟨B, 0, none⟩ = some x → W'.cell? ⟨B, 1, none⟩ = some y → W'.cell? ⟨B, 2, none⟩ = some z → W'.cell? ⟨B, 3, none⟩ = some u → (loadVar 34 ⟨B, 0, none⟩).run Tryz.prog W' = .ok (.agg #[x, y, z, u]) W' := fun W' q0 q1 q2 q3 => by
    simp [go_sem, q0, q1, q2, q3]
  show (((loadVar 34 ⟨B, 0, none⟩).run Tryz.prog _).andThen _) = _
  rw [hl _ s0 s1 s2 s3]
  rfl
/-- read's state: its slot, its instruction -/
structure RS (w : World) (B : Nat) (c jt jf k : Int) (W : World) : Prop where
  ext : Ext w W
  b4 : W.heap[w.heap.size]? = some (.cells #[.int .u16 0, .int .u8 0, .int .u8 0, .int .u32 0] 34 (0, 0))
  b9 : W.heap[B]? = some (.cells #[.int .u16 c, .int .u8 jt, .int .u8 jf, .int .u32 k] 34 (0, 0))
  ne : w.heap.size < B
theorem RS.ext' {w W W' : World} {B : Nat} {c jt jf k : Int} (h : RS w B c jt jf k W) (hx : Ext W W') : RS w B c jt jf k W' := ⟨h.ext.trans hx, blk_ext4 h.b4 hx, blk_ext4 h.b9 hx, h.ne⟩
theorem RS.set {w W : World} {B j : Nat} {c jt jf k c' jt' jf' k' : Int} {v : Value} (h : RS w B c jt jf k W) (he : (#[.int .u16 c, .int .u8 jt, .int .u8 jf, .int .u32 k] : Array Value).setIfInBounds j v = #[.int .u16 c', .int .u8 jt', .int .u8 jf', .int .u32 k']) : RS w B c' jt' jf' k' (W.setCell ⟨B, j, none⟩ v) :=
  ⟨h.ext.setCell (by show w.heap.size ≤ B; exact Nat.le_of_lt h.ne) _, (Below.heap_setCell _ _ _ _ (by show w.heap.size ≠ B; have := h.ne; omega)).trans h.b4, by rw [blk_set h.b9, he], h.ne⟩
theorem RS.facts {w W : World} {B : Nat} {c jt jf k : Int} (h : RS w B c jt jf k W) :
    (W.cell? ⟨B, 0, none⟩ = some (.int .u16 c) ∧ W.cell? ⟨B, 1, none⟩ = some (.int .u8 jt) ∧ W.cell? ⟨B, 2, none⟩ = some (.int .u8 jf) ∧ W.cell? ⟨B, 3, none⟩ = some (.int .u32 k)) ∧
    (W.cell? ⟨w.heap.size, 0, none⟩ = some (.int .u16 0) ∧ W.cell? ⟨w.heap.size, 1, none⟩ = some (.int .u8 0) ∧ W.cell? ⟨w.heap.size, 2, none⟩ = some (.int .u8 0) ∧ W.cell? ⟨w.heap.size, 3, none⟩ = some (.int .u32 0)) ∧
    (W.frozen? ⟨B, 0, none⟩ = false ∧ W.frozen? ⟨B, 1, none⟩ = false ∧ W.frozen? ⟨B, 2, none⟩ = false ∧ W.frozen? ⟨B, 3, none⟩ = false) ∧
    (W.frozen? ⟨w.heap.size, 0, none⟩ = false ∧ W.frozen? ⟨w.heap.size, 1, none⟩ = false ∧ W.frozen? ⟨w.heap.size, 2, none⟩ = false ∧ W.frozen? ⟨w.heap.size, 3, none⟩ = false) :=
  ⟨blk4 h.b9, blk4 h.b4, ⟨frozen4 h.b9, frozen4 h.b9, frozen4 h.b9, frozen4 h.b9⟩, ⟨frozen4 h.b4, frozen4 h.b4, frozen4 h.b4, frozen4 h.b4⟩⟩
theorem number_none {ws : List (List UInt8)} (hn : numberA ws = none) (hb : ∀ x ∈ ws, x.length ≤ 1000000) (hl : ws.length ≤ 1000000) (W : World) (v : Value) (h : Tb W) (W0 : World) (hx0 : Ext W0 W) (hv : Rd W0 1 encS v ws) :
    Calls Tryz.prog 27 #[v] W fun e w' => Ext W w' ∧ ∃ (k : Int) (v' : Value), e = .returned (.tuple #[.int .u32 k, v', .bool false]) :=
  (number_calls ws v hb hl W h W0 hx0 hv).mono (by
    rintro e w' ⟨hx, k, v', rfl, -⟩
    rw [hn]
    exact ⟨hx, k, v', rfl⟩)
theorem number_some {ws r : List (List UInt8)} {u : Nat} (hn : numberA ws = some (u, r)) (hb : ∀ x ∈ ws, x.length ≤ 1000000) (hl : ws.length ≤ 1000000) (W : World) (v : Value) (h : Tb W) (W0 : World) (hx0 : Ext W0 W) (hv : Rd W0 1 encS v ws) :
    Calls Tryz.prog 27 #[v] W fun e w' => Ext W w' ∧ ∃ (v' : Value), e = .returned (.tuple #[.int .u32 (u : Int), v', .bool true]) ∧ Rd W0 1 encS v' r ∧ u < 4294967296 :=
  (number_calls ws v hb hl W h W0 hx0 hv).mono (by
    rintro e w' ⟨hx, k, v', rfl, hk⟩
    obtain ⟨rfl, h1, h2⟩ := hk u r hn
    rw [hn]
    exact ⟨hx, v', rfl, h2, h1⟩)
theorem place_none {ws : List (List UInt8)} {p : Nat} (hp : p ≤ 1000000) (hn : placeA p ws = none) (hb : ∀ x ∈ ws, x.length ≤ 1000000) (hl : ws.length ≤ 1000000) (W : World) (v : Value) (h : Tb W) (W0 : World) (hx0 : Ext W0 W) (hv : Rd W0 1 encS v ws) :
    Calls Tryz.prog 28 #[v, .int .i64 (p : Int)] W fun e w' => Ext W w' ∧ ∃ (k : Int) (v' : Value), e = .returned (.tuple #[.int .i64 k, v', .bool false]) :=
  (place_calls ws v hb hl p hp W h W0 hx0 hv).mono (by
    rintro e w' ⟨hx, k, v', rfl, -⟩
    rw [hn]
    exact ⟨hx, k, v', rfl⟩)
theorem place_some {ws r : List (List UInt8)} {p u : Nat} (hp : p ≤ 1000000) (hn : placeA p ws = some (u, r)) (hb : ∀ x ∈ ws, x.length ≤ 1000000) (hl : ws.length ≤ 1000000) (W : World) (v : Value) (h : Tb W) (W0 : World) (hx0 : Ext W0 W) (hv : Rd W0 1 encS v ws) :
    Calls Tryz.prog 28 #[v, .int .i64 (p : Int)] W fun e w' => Ext W w' ∧ ∃ (v' : Value), e = .returned (.tuple #[.int .i64 (u : Int), v', .bool true]) ∧ Rd W0 1 encS v' r ∧ u < 4096 :=
  (place_calls ws v hb hl p hp W h W0 hx0 hv).mono (by
    rintro e w' ⟨hx, k, v', rfl, hk⟩
    obtain ⟨rfl, h1, h2⟩ := hk u r hn
    rw [hn]
    exact ⟨hx, v', rfl, h2, h1⟩)
theorem end_some (i : In) (r : List (List UInt8)) : (endA i r).isSome = decide (r = []) ∧ ∀ j, endA i r = some j → j = i := by
  unfold endA
  by_cases h : r = []
  · rw [if_pos h]; exact ⟨by simp [h], fun j hj => (Option.some.inj hj).symm⟩
  · rw [if_neg h]; exact ⟨by simp [h], fun j hj => by cases hj⟩
theorem len_nil (r : List (List UInt8)) : ((r.length : Int) == 0) = decide (r = []) := by
  by_cases h : r = []
  · subst h; rfl
  · have h1 : r.length ≠ 0 := fun h' => h (List.eq_nil_of_length_eq_zero h')
    rw [decide_eq_false h]
    exact beq_eq_false_iff_ne.2 (by omega)
theorem uses_cases (c : Nat) : (kU c = false ∧ oneU c = false ∧ twoU c = false) ∨ (kU c = true ∧ oneU c = false ∧ twoU c = false) ∨ (kU c = false ∧ oneU c = true ∧ twoU c = false) ∨ (kU c = true ∧ oneU c = false ∧ twoU c = true) ∨ (kU c = false ∧ oneU c = false ∧ twoU c = true) := by
  obtain ⟨h1, h2, h3⟩ := uses_eq c
  have hs := shape_le c
  rw [h1, h2, h3]
  generalize shape c = s at *
  obtain rfl | rfl | rfl | rfl | rfl : s = 0 ∨ s = 1 ∨ s = 2 ∨ s = 3 ∨ s = 4 := by omega
  all_goals simp
set_option maxRecDepth 100000 in
set_option maxHeartbeats 16000000 in
theorem read_calls (l : List UInt8) (hl : l.length ≤ 100000) (p : Nat) (hp : p ≤ 1000000) (w : World) (ht : Tb w) :
    Calls Tryz.prog 15 #[.string (str l), .int .i64 (p : Int)] w fun e w' => Ext w w' ∧ ∃ a b c d : Int, e = .returned (.tuple #[.agg #[.int .u16 a, .int .u8 b, .int .u8 c, .int .u32 d], .bool (readA l p).isSome]) ∧ ∀ j, readA l p = some j → inV j = .agg #[.int .u16 a, .int .u8 b, .int .u8 c, .int .u32 d] ∧ OkN j := by
  have hSp := fun W (h : Tb W) => Split_calls l (by omega) W h
  have hwl := words_le l
  have hwn := words_num l
  have hR : readA l p = (match wordsS l with
    | [] => none
    | w :: r => match tabI.find? (fun e => e.nm == w) with
      | none => none
      | some e => (kA e.c r).bind fun k => restA p e.c k.1 k.2) := rfl
  obtain ⟨R, hRe⟩ : ∃ R, readA l p = R := ⟨_, rfl⟩
  rw [hRe]
  rw [hRe] at hR
  clear hRe
  cases hws : wordsS l with
  | nil => exact absurd hws (words_ne l)
  | cons w0 r =>
    rw [hws] at hSp hwl hwn hR
    have hwb : ∀ x ∈ w0 :: r, x.length ≤ 1000000 := fun x hx => by have := hwl x hx; omega
    have hwr : ∀ x ∈ r, x.length ≤ 1000000 := fun x hx => hwb x (by simp [hx])
    have hrn : r.length + 1 ≤ 1000000 := by have : (w0 :: r).length = r.length + 1 := rfl; omega
    have hCo := fun W => Code_calls (str w0) W
    rw [bytes_str] at hCo
    dsimp only at hR
    have HT := Lib.hid ht
    clear hwl hwn hws hl ht
    cases hf : tabI.find? (fun e => e.nm == w0) with
    | none =>
      rw [hf] at hCo hR
      dsimp only at hR
      subst hR
      have HhSp := Lib.hid hSp
      clear hSp
      have HhCo := Lib.hid hCo
      clear hCo
      go_enter Tryz.func15, Tryz.ntmps15
      go_wp2_with (first
        | (go_at_call 24; refine (HhSp.out _ (HT.out.ext ((Ext.refl w).alloc _))).mono ?_; rintro e1 w1 ⟨v1, rfl, hr1, hx1⟩; obtain ⟨a1, c1, rfl, -, hca⟩ := rdS_cell hr1; obtain ⟨b1, o1, rfl, h0⟩ := hca 0 (by simp); have h0' : w1.cell? ⟨b1, o1, none⟩ = some (.string (str w0)) := h0; have HX1 := Lib.hid hx1; have HR1 := Lib.hid hr1; clear hx1 hr1 hca h0)
        | (go_at_call 25; refine (HhCo.out _).mono ?_; rintro e2 w2 ⟨rfl, hx2⟩; have HX2 := Lib.hid (HX1.out.trans hx2); have HR2 := Lib.hid (Rd.ext hx2 HR1.out); have hb4 : w2.heap[w.heap.size]? = some (.cells #[.int .u16 0, .int .u8 0, .int .u8 0, .int .u32 0] 34 (0, 0)) := blk_ext4 (heap_alloc_new w _) HX2.out; obtain ⟨z0, z1, z2, z3⟩ := blk4 hb4; have f0 := frozen4 (j := 0) hb4; have f1 := frozen4 (j := 1) hb4; have f2 := frozen4 (j := 2) hb4; have f3 := frozen4 (j := 3) hb4; have HB4 := Lib.hid hb4; clear hx2 h0' hb4))
      trace_state
      exact cell_end4 Tryz.results15 rfl rfl rfl HB4.out (((Ext.refl w).alloc _).trans HX2.out) (Nat.le_refl _) (fun W' h => ⟨h, 0, 0, 0, 0, rfl, fun j hj => by cases hj⟩)
    | some e =>
      have hem := (List.find?_some hf)
      have hmem := List.mem_of_find?_eq_some hf
      have hec := (names_full e hmem).2.2.2.2
      rw [hf] at hCo hR
      simp only [Option.getD_some, Option.isSome_some] at hCo
      dsimp only at hR
      have hU := fun W => uses_calls e.c hec W
      have hcs := uses_cases e.c
      unfold kA restA at hR
      generalize kU e.c = ku at *
      generalize oneU e.c = on at *
      generalize twoU e.c = tw at *
      clear hf hem hmem hwb
      generalize e.c = c at *
      have HWR := Lib.hid hwr
      have HhSp := Lib.hid hSp
      clear hSp
      have HhCo := Lib.hid hCo
      clear hCo
      have HhU := Lib.hid hU
      clear hU
      have HhR := Lib.hid hR
      clear hR
      clear hwr
      go_enter Tryz.func15, Tryz.ntmps15
      go_upto_region 7 with (first
        | (go_at_call 24; refine (HhSp.out _ (HT.out.ext ((Ext.refl w).alloc _))).mono ?_; rintro e1 w1 ⟨v1, rfl, hr1, hx1⟩; obtain ⟨a1, c1, rfl, -, hca⟩ := rdS_cell hr1; obtain ⟨b1, o1, rfl, h0⟩ := hca 0 (by simp); have h0' : w1.cell? ⟨b1, o1, none⟩ = some (.string (str w0)) := h0; have HX1 := Lib.hid hx1; have HR1 := Lib.hid hr1; clear hx1 hr1 hca h0)
        | (go_at_call 25; refine (HhCo.out _).mono ?_; rintro e2 w2 ⟨rfl, hx2⟩; have HX2 := Lib.hid (HX1.out.trans hx2); have HR2 := Lib.hid (Rd.ext hx2 HR1.out); clear hx2 h0')
        | (go_at_call 26; refine (HhU.out _).mono ?_; rintro e3 w3 ⟨rfl, hx3⟩; have HX3 := Lib.hid hx3; clear hx3))
      obtain ⟨A, hsl, hrd⟩ := rd_tail HR2.out
      have hE2 : Ext w w2 := ((Ext.refl w).alloc _).trans HX2.out
      have hE3 : Ext w2 w3 := ((Ext.refl w2).alloc _).trans HX3.out
      have hS : RS w w2.heap.size (c : Int) 0 0 0 w3 := by
        refine ⟨hE2.trans hE3, blk_ext4 (blk_ext4 (heap_alloc_new w _) HX2.out) hE3, blk_ext4 (heap_alloc_new w2 _) HX3.out, ?_⟩
        have := HX2.out.size
        rw [World.size_alloc] at this; omega
      have HS := Lib.hid hS
      have HRD := Lib.hid hrd
      have HE3 := Lib.hid hE3
      have HT3 : Hid (Tb w3) := Lib.hid (HT.out.ext hS.ext)
      have hne : w.heap.size ≠ w2.heap.size := by have := hS.ne; omega
      have hne' : w2.heap.size ≠ w.heap.size := hne.symm
      obtain ⟨⟨g0, g1, g2, g3⟩, ⟨z0, z1, z2, z3⟩, ⟨l0, l1, l2, l3⟩, f0, f1, f2, f3⟩ := RS.facts hS
      clear hS hrd hE2 hE3 HX1 HX2 HX3 HR1 HR2
      have hlen : (w0 :: r).length = r.length + 1 := rfl
      rw [hlen] at hsl
      clear hlen
      rcases hcs with ⟨rfl, rfl, rfl⟩ | ⟨rfl, rfl, rfl⟩ | ⟨rfl, rfl, rfl⟩ | ⟨rfl, rfl, rfl⟩ | ⟨rfl, rfl, rfl⟩
      · have hR2 : R = endA ⟨c, 0, 0, 0⟩ r := HhR.out
        have hq := len_nil r
        have hes := end_some ⟨c, 0, 0, 0⟩ r
        rw [← hR2] at hes
        generalize decide (r = []) = dn at *
        have Hhes := Lib.hid hes
        clear hes
        clear hR2 HhR
        go_wp2_with fail
        all_goals exact cell_end4 (v := .bool dn) Tryz.results15 rfl rfl rfl (HS.out).b4 (HS.out).ext (Nat.le_refl _) (fun W' h => ⟨h, c, 0, 0, 0, by rw [Hhes.out.1], fun j hj => by rw [Hhes.out.2 j hj]; exact ⟨rfl, hec, Nat.zero_lt_succ _, Nat.zero_lt_succ _, Nat.zero_lt_succ _⟩⟩)
      · have hR2 : R = (numberA r).bind fun k => endA ⟨c, 0, 0, k.1⟩ k.2 := HhR.out
        clear HhR
        cases hn : numberA r with
        | none =>
          have hN0 := number_none hn HWR.out (by omega)
          rw [hn] at hR2
          replace hR2 : R = none := hR2
          have HR2 := Lib.hid hR2
          have HhN0 := Lib.hid hN0
          clear hN0
          clear hR2 hn
          go_wp2_with (first
            | (go_at_call 27; refine (HhN0.out _ _ HT3.out _ HE3.out HRD.out).mono ?_; rintro e4 w4 ⟨hx4, k4, v4, rfl⟩; have HS4 := Lib.hid (RS.ext' HS.out hx4); obtain ⟨⟨g0, g1, g2, g3⟩, ⟨z0, z1, z2, z3⟩, ⟨l0, l1, l2, l3⟩, f0, f1, f2, f3⟩ := RS.facts HS4.out; clear hx4))
          exact cell_end4 (v := .bool false) Tryz.results15 rfl rfl rfl (RS.set (c' := (c : Int)) (jt' := 0) (jf' := 0) (k' := k4) (HS4.out) rfl).b4 (RS.set (c' := (c : Int)) (jt' := 0) (jf' := 0) (k' := k4) (HS4.out) rfl).ext (Nat.le_refl _) (fun W' h => ⟨h, c, 0, 0, k4, by rw [HR2.out]; rfl, fun j hj => by rw [HR2.out] at hj; cases hj⟩)
        | some x =>
          obtain ⟨u, r2⟩ := x
          have hN0 := number_some hn HWR.out (by omega)
          rw [hn] at hR2
          replace hR2 : R = endA ⟨c, 0, 0, u⟩ r2 := hR2
          have hq := len_nil r2
          have hes := end_some ⟨c, 0, 0, u⟩ r2
          rw [← hR2] at hes
          generalize decide (r2 = []) = dn at *
          have Hhes := Lib.hid hes
          clear hes
          have HhN0 := Lib.hid hN0
          clear hN0
          clear hR2 hn
          go_wp2_with (first
            | (go_at_call 27; refine (HhN0.out _ _ HT3.out _ HE3.out HRD.out).mono ?_; rintro e4 w4 ⟨hx4, v4, rfl, hrd4, hu⟩; obtain ⟨a4, c4, rfl, -, -⟩ := rdS_cell hrd4; have HS4 := Lib.hid (RS.ext' HS.out hx4); obtain ⟨⟨g0, g1, g2, g3⟩, ⟨z0, z1, z2, z3⟩, ⟨l0, l1, l2, l3⟩, f0, f1, f2, f3⟩ := RS.facts HS4.out; have HRD4 := Lib.hid hrd4; have HE4 := Lib.hid (HE3.out.trans hx4); clear hx4 hrd4))
          all_goals exact cell_end4 (v := .bool dn) Tryz.results15 rfl rfl rfl (RS.set (c' := (c : Int)) (jt' := 0) (jf' := 0) (k' := (u : Int)) (HS4.out) rfl).b4 (RS.set (c' := (c : Int)) (jt' := 0) (jf' := 0) (k' := (u : Int)) (HS4.out) rfl).ext (Nat.le_refl _) (fun W' h => ⟨h, c, 0, 0, u, by rw [Hhes.out.1], fun j hj => by rw [Hhes.out.2 j hj]; exact ⟨rfl, hec, Nat.zero_lt_succ _, Nat.zero_lt_succ _, hu⟩⟩)
      · have hR2 : R = (placeA p r).bind fun a => endA ⟨c, 0, 0, a.1⟩ a.2 := HhR.out
        clear HhR
        cases hn : placeA p r with
        | none =>
          have hP0 := place_none hp hn HWR.out (by omega)
          rw [hn] at hR2
          replace hR2 : R = none := hR2
          have HR2 := Lib.hid hR2
          have HhP0 := Lib.hid hP0
          clear hP0
          clear hR2 hn
          go_wp2_with (first
            | (go_at_call 28; refine (HhP0.out _ _ HT3.out _ HE3.out HRD.out).mono ?_; rintro e5 w5 ⟨hx5, k5, v5, rfl⟩; have HS5 := Lib.hid (RS.ext' HS.out hx5); obtain ⟨⟨g0, g1, g2, g3⟩, ⟨z0, z1, z2, z3⟩, ⟨l0, l1, l2, l3⟩, f0, f1, f2, f3⟩ := RS.facts HS5.out; clear hx5))
          exact cell_end4 (v := .bool false) Tryz.results15 rfl rfl rfl (HS5.out).b4 (HS5.out).ext (Nat.le_refl _) (fun W' h => ⟨h, c, 0, 0, 0, by rw [HR2.out]; rfl, fun j hj => by rw [HR2.out] at hj; cases hj⟩)
        | some x =>
          obtain ⟨u, r2⟩ := x
          have hP0 := place_some hp hn HWR.out (by omega)
          rw [hn] at hR2
          replace hR2 : R = endA ⟨c, 0, 0, u⟩ r2 := hR2
          have hq := len_nil r2
          have hes := end_some ⟨c, 0, 0, u⟩ r2
          rw [← hR2] at hes
          generalize decide (r2 = []) = dn at *
          have Hhes := Lib.hid hes
          clear hes
          have HhP0 := Lib.hid hP0
          clear hP0
          clear hR2 hn
          go_wp2_with (first
            | (go_at_call 28; refine (HhP0.out _ _ HT3.out _ HE3.out HRD.out).mono ?_; rintro e5 w5 ⟨hx5, v5, rfl, hrd5, hu⟩; obtain ⟨a5, c5, rfl, -, -⟩ := rdS_cell hrd5; have HS5 := Lib.hid (RS.ext' HS.out hx5); obtain ⟨⟨g0, g1, g2, g3⟩, ⟨z0, z1, z2, z3⟩, ⟨l0, l1, l2, l3⟩, f0, f1, f2, f3⟩ := RS.facts HS5.out; have HRD5 := Lib.hid hrd5; have HE5 := Lib.hid (HE3.out.trans hx5); clear hx5 hrd5; have hw1 : IntKind.u32.wrap (u : Int) = (u : Int) := by (simp [IntKind.wrap, IntKind.signed, IntKind.bits]; omega)))
          all_goals exact cell_end4 (v := .bool dn) Tryz.results15 rfl rfl rfl (RS.set (c' := (c : Int)) (jt' := 0) (jf' := 0) (k' := (u : Int)) (HS5.out) rfl).b4 (RS.set (c' := (c : Int)) (jt' := 0) (jf' := 0) (k' := (u : Int)) (HS5.out) rfl).ext (Nat.le_refl _) (fun W' h => ⟨h, c, 0, 0, u, by rw [Hhes.out.1], fun j hj => by rw [Hhes.out.2 j hj]; exact ⟨rfl, hec, Nat.zero_lt_succ _, Nat.zero_lt_succ _, by show u < _; omega⟩⟩)
      · have hR2 : R = (numberA r).bind fun k => (placeA p k.2).bind fun a => (placeA p a.2).bind fun b => if a.1 ≤ 255 ∧ b.1 ≤ 255 then endA ⟨c, a.1, b.1, k.1⟩ b.2 else none := HhR.out
        clear HhR
        cases hn : numberA r with
        | none =>
          have hN0 := number_none hn HWR.out (by omega)
          rw [hn] at hR2
          replace hR2 : R = none := hR2
          have HR2 := Lib.hid hR2
          have HhN0 := Lib.hid hN0
          clear hN0
          clear hR2 hn
          go_wp2_with (first
            | (go_at_call 27; refine (HhN0.out _ _ HT3.out _ HE3.out HRD.out).mono ?_; rintro e4 w4 ⟨hx4, k4, v4, rfl⟩; have HS4 := Lib.hid (RS.ext' HS.out hx4); obtain ⟨⟨g0, g1, g2, g3⟩, ⟨z0, z1, z2, z3⟩, ⟨l0, l1, l2, l3⟩, f0, f1, f2, f3⟩ := RS.facts HS4.out; clear hx4))
          exact cell_end4 (v := .bool false) Tryz.results15 rfl rfl rfl (RS.set (c' := (c : Int)) (jt' := 0) (jf' := 0) (k' := k4) (HS4.out) rfl).b4 (RS.set (c' := (c : Int)) (jt' := 0) (jf' := 0) (k' := k4) (HS4.out) rfl).ext (Nat.le_refl _) (fun W' h => ⟨h, c, 0, 0, k4, by rw [HR2.out]; rfl, fun j hj => by rw [HR2.out] at hj; cases hj⟩)
        | some x =>
          obtain ⟨u, r2⟩ := x
          have hN0 := number_some hn HWR.out (by omega)
          rw [hn] at hR2
          replace hR2 : R = (placeA p r2).bind fun a => (placeA p a.2).bind fun b => if a.1 ≤ 255 ∧ b.1 ≤ 255 then endA ⟨c, a.1, b.1, u⟩ b.2 else none := hR2
          have hwx : (∀ x ∈ r2, x.length ≤ 1000000) ∧ r2.length ≤ 1000000 := by
            obtain ⟨q, rfl⟩ := number_rest hn
            refine ⟨fun x hx => HWR.out x (by simp [hx]), ?_⟩
            simp only [List.length_cons] at hrn
            omega
          clear hn
          have HhN0 := Lib.hid hN0
          clear hN0
          cases hn1 : placeA p r2 with
          | none =>
            have hP0 := place_none hp hn1 hwx.1 hwx.2
            rw [hn1] at hR2
            replace hR2 : R = none := hR2
            have HR2 := Lib.hid hR2
            have HhP0 := Lib.hid hP0
            clear hP0
            clear hR2 hn1
            go_wp2_with (first
              | (go_at_call 27; refine (HhN0.out _ _ HT3.out _ HE3.out HRD.out).mono ?_; rintro e4 w4 ⟨hx4, v4, rfl, hrd4, hu⟩; obtain ⟨a4, c4, rfl, -, -⟩ := rdS_cell hrd4; have HS4 := Lib.hid (RS.ext' HS.out hx4); obtain ⟨⟨g0, g1, g2, g3⟩, ⟨z0, z1, z2, z3⟩, ⟨l0, l1, l2, l3⟩, f0, f1, f2, f3⟩ := RS.facts HS4.out; have HRD4 := Lib.hid hrd4; have HE4 := Lib.hid (HE3.out.trans hx4); clear hx4 hrd4)
              | (go_at_call 28; refine (HhP0.out _ _ (Tb.ext HT.out (RS.ext (RS.set (c' := (c : Int)) (jt' := 0) (jf' := 0) (k' := (u : Int)) (v := .int .u32 (u : Int)) (j := 3) HS4.out rfl))) _ (HE4.out.setCell (show w2.heap.size ≤ w2.heap.size from Nat.le_refl _) _) HRD4.out).mono ?_; rintro e5 w5 ⟨hx5, k5, v5, rfl⟩; have HS5 := Lib.hid (RS.ext' (RS.set (c' := (c : Int)) (jt' := 0) (jf' := 0) (k' := (u : Int)) (v := .int .u32 (u : Int)) (j := 3) HS4.out rfl) hx5); obtain ⟨⟨g0, g1, g2, g3⟩, ⟨z0, z1, z2, z3⟩, ⟨l0, l1, l2, l3⟩, f0, f1, f2, f3⟩ := RS.facts HS5.out; clear hx5))
            exact cell_end4 (v := .bool false) Tryz.results15 rfl rfl rfl (HS5.out).b4 (HS5.out).ext (Nat.le_refl _) (fun W' h => ⟨h, c, 0, 0, u, by rw [HR2.out]; rfl, fun j hj => by rw [HR2.out] at hj; cases hj⟩)
          | some x1 =>
            obtain ⟨u1, r3⟩ := x1
            have hP0 := place_some hp hn1 hwx.1 hwx.2
            rw [hn1] at hR2
            replace hR2 : R = (placeA p r3).bind fun b => if u1 ≤ 255 ∧ b.1 ≤ 255 then endA ⟨c, u1, b.1, u⟩ b.2 else none := hR2
            have hr3 : (∀ x ∈ r3, x.length ≤ 1000000) ∧ r3.length ≤ 1000000 := by
              obtain ⟨q, rfl⟩ := place_rest hn1
              refine ⟨fun x hx => (hwx).1 x (by simp [hx]), ?_⟩
              have := hwx.2
              simp only [List.length_cons] at this
              omega
            clear hn1
            have HhP0 := Lib.hid hP0
            clear hP0
            have HR3 := Lib.hid hr3
            clear hr3
            cases hn2 : placeA p r3 with
            | none =>
              have hP1 := place_none hp hn2 HR3.out.1 HR3.out.2
              rw [hn2] at hR2
              replace hR2 : R = none := hR2
              have HR2 := Lib.hid hR2
              have HhP1 := Lib.hid hP1
              clear hP1
              clear hR2 hn2
              go_wp2_with (first
                | (go_at_call 28; refine (HhP1.out _ _ HT5.out _ HE5.out HRD5.out).mono ?_; rintro e6 w6 ⟨hx6, k6, v6, rfl⟩; have HS6 := Lib.hid (RS.ext' (HS5.out) hx6); obtain ⟨⟨g0, g1, g2, g3⟩, ⟨z0, z1, z2, z3⟩, ⟨l0, l1, l2, l3⟩, f0, f1, f2, f3⟩ := RS.facts HS6.out; clear hx6)
                | (go_at_call 27; refine (HhN0.out _ _ HT3.out _ HE3.out HRD.out).mono ?_; rintro e4 w4 ⟨hx4, v4, rfl, hrd4, hu⟩; obtain ⟨a4, c4, rfl, -, -⟩ := rdS_cell hrd4; have HS4 := Lib.hid (RS.ext' HS.out hx4); obtain ⟨⟨g0, g1, g2, g3⟩, ⟨z0, z1, z2, z3⟩, ⟨l0, l1, l2, l3⟩, f0, f1, f2, f3⟩ := RS.facts HS4.out; have HRD4 := Lib.hid hrd4; have HE4 := Lib.hid (HE3.out.trans hx4); clear hx4 hrd4)
                | (go_at_call 28; refine (HhP0.out _ _ (Tb.ext HT.out (RS.ext (RS.set (c' := (c : Int)) (jt' := 0) (jf' := 0) (k' := (u : Int)) (v := .int .u32 (u : Int)) (j := 3) HS4.out rfl))) _ (HE4.out.setCell (show w2.heap.size ≤ w2.heap.size from Nat.le_refl _) _) HRD4.out).mono ?_; rintro e5 w5 ⟨hx5, v5, rfl, hrd5, hu5⟩; obtain ⟨a5, c5, rfl, -, -⟩ := rdS_cell hrd5; have HS5 := Lib.hid (RS.ext' (RS.set (c' := (c : Int)) (jt' := 0) (jf' := 0) (k' := (u : Int)) (v := .int .u32 (u : Int)) (j := 3) HS4.out rfl) hx5); obtain ⟨⟨g0, g1, g2, g3⟩, ⟨z0, z1, z2, z3⟩, ⟨l0, l1, l2, l3⟩, f0, f1, f2, f3⟩ := RS.facts HS5.out; have HRD5 := Lib.hid hrd5; have HE5 := Lib.hid (((HE4.out.setCell (show w2.heap.size ≤ w2.heap.size from Nat.le_refl _) _)).trans hx5); have HT5 := Lib.hid (Tb.ext HT.out HS5.out.ext); clear hx5 hrd5))
              exact cell_end4 (v := .bool false) Tryz.results15 rfl rfl rfl (HS6.out).b4 (HS6.out).ext (Nat.le_refl _) (fun W' h => ⟨h, c, 0, 0, u, by rw [HR2.out]; rfl, fun j hj => by rw [HR2.out] at hj; cases hj⟩)
            | some x2 =>
              obtain ⟨u2, r4⟩ := x2
              have hP1 := place_some hp hn2 HR3.out.1 HR3.out.2
              rw [hn2] at hR2
              replace hR2 : R = if u1 ≤ 255 ∧ u2 ≤ 255 then endA ⟨c, u1, u2, u⟩ r4 else none := hR2
              clear hn2
              have HhP1 := Lib.hid hP1
              clear hP1
              by_cases hb : u1 ≤ 255 ∧ u2 ≤ 255
              · rw [if_pos hb] at hR2
                obtain ⟨hb1, hb2⟩ := hb
                have hq := len_nil r4
                have hes := end_some ⟨c, u1, u2, u⟩ r4
                rw [← hR2] at hes
                generalize decide (r4 = []) = dn at *
                have Hhes := Lib.hid hes
                clear hes
                have hw1 : IntKind.u8.wrap (u1 : Int) = (u1 : Int) := by simp [IntKind.wrap, IntKind.signed, IntKind.bits]; omega
                have hw2 : IntKind.u8.wrap (u2 : Int) = (u2 : Int) := by simp [IntKind.wrap, IntKind.signed, IntKind.bits]; omega
                have hl1 : ¬ (255 : Int) < (u1 : Int) := by omega
                have hl2 : ¬ (255 : Int) < (u2 : Int) := by omega
                clear hR2
                go_wp2_with (first
                  | (go_at_call 28; refine (HhP1.out _ _ HT5.out _ HE5.out HRD5.out).mono ?_; rintro e6 w6 ⟨hx6, v6, rfl, hrd6, hu6⟩; obtain ⟨a6, c6, rfl, -, -⟩ := rdS_cell hrd6; have HS6 := Lib.hid (RS.ext' (HS5.out) hx6); obtain ⟨⟨g0, g1, g2, g3⟩, ⟨z0, z1, z2, z3⟩, ⟨l0, l1, l2, l3⟩, f0, f1, f2, f3⟩ := RS.facts HS6.out; have HRD6 := Lib.hid hrd6; have HE6 := Lib.hid ((HE5.out).trans hx6); have HT6 := Lib.hid (Tb.ext HT.out HS6.out.ext); clear hx6 hrd6)
                  | (go_at_call 27; refine (HhN0.out _ _ HT3.out _ HE3.out HRD.out).mono ?_; rintro e4 w4 ⟨hx4, v4, rfl, hrd4, hu⟩; obtain ⟨a4, c4, rfl, -, -⟩ := rdS_cell hrd4; have HS4 := Lib.hid (RS.ext' HS.out hx4); obtain ⟨⟨g0, g1, g2, g3⟩, ⟨z0, z1, z2, z3⟩, ⟨l0, l1, l2, l3⟩, f0, f1, f2, f3⟩ := RS.facts HS4.out; have HRD4 := Lib.hid hrd4; have HE4 := Lib.hid (HE3.out.trans hx4); clear hx4 hrd4)
                  | (go_at_call 28; refine (HhP0.out _ _ (Tb.ext HT.out (RS.ext (RS.set (c' := (c : Int)) (jt' := 0) (jf' := 0) (k' := (u : Int)) (v := .int .u32 (u : Int)) (j := 3) HS4.out rfl))) _ (HE4.out.setCell (show w2.heap.size ≤ w2.heap.size from Nat.le_refl _) _) HRD4.out).mono ?_; rintro e5 w5 ⟨hx5, v5, rfl, hrd5, hu5⟩; obtain ⟨a5, c5, rfl, -, -⟩ := rdS_cell hrd5; have HS5 := Lib.hid (RS.ext' (RS.set (c' := (c : Int)) (jt' := 0) (jf' := 0) (k' := (u : Int)) (v := .int .u32 (u : Int)) (j := 3) HS4.out rfl) hx5); obtain ⟨⟨g0, g1, g2, g3⟩, ⟨z0, z1, z2, z3⟩, ⟨l0, l1, l2, l3⟩, f0, f1, f2, f3⟩ := RS.facts HS5.out; have HRD5 := Lib.hid hrd5; have HE5 := Lib.hid (((HE4.out.setCell (show w2.heap.size ≤ w2.heap.size from Nat.le_refl _) _)).trans hx5); have HT5 := Lib.hid (Tb.ext HT.out HS5.out.ext); clear hx5 hrd5))
                all_goals exact cell_end4 (v := .bool dn) Tryz.results15 rfl rfl rfl (RS.set (c' := (c : Int)) (jt' := (u1 : Int)) (jf' := (u2 : Int)) (k' := (u : Int)) (RS.set (c' := (c : Int)) (jt' := (u1 : Int)) (jf' := 0) (k' := (u : Int)) (HS6.out) rfl) rfl).b4 (RS.set (c' := (c : Int)) (jt' := (u1 : Int)) (jf' := (u2 : Int)) (k' := (u : Int)) (RS.set (c' := (c : Int)) (jt' := (u1 : Int)) (jf' := 0) (k' := (u : Int)) (HS6.out) rfl) rfl).ext (Nat.le_refl _) (fun W' h => ⟨h, c, u1, u2, u, by rw [Hhes.out.1], fun j hj => by rw [Hhes.out.2 j hj]; exact ⟨rfl, hec, by show u1 < _; omega, by show u2 < _; omega, hu⟩⟩)
              · rw [if_neg hb] at hR2
                have HR2 := Lib.hid hR2
                clear hR2
                by_cases hb1 : (255 : Int) < (u1 : Int)
                · clear hb
                  go_wp2_with (first
                    | (go_at_call 28; refine (HhP1.out _ _ HT5.out _ HE5.out HRD5.out).mono ?_; rintro e6 w6 ⟨hx6, v6, rfl, hrd6, hu6⟩; obtain ⟨a6, c6, rfl, -, -⟩ := rdS_cell hrd6; have HS6 := Lib.hid (RS.ext' (HS5.out) hx6); obtain ⟨⟨g0, g1, g2, g3⟩, ⟨z0, z1, z2, z3⟩, ⟨l0, l1, l2, l3⟩, f0, f1, f2, f3⟩ := RS.facts HS6.out; have HRD6 := Lib.hid hrd6; have HE6 := Lib.hid ((HE5.out).trans hx6); have HT6 := Lib.hid (Tb.ext HT.out HS6.out.ext); clear hx6 hrd6)
                    | (go_at_call 27; refine (HhN0.out _ _ HT3.out _ HE3.out HRD.out).mono ?_; rintro e4 w4 ⟨hx4, v4, rfl, hrd4, hu⟩; obtain ⟨a4, c4, rfl, -, -⟩ := rdS_cell hrd4; have HS4 := Lib.hid (RS.ext' HS.out hx4); obtain ⟨⟨g0, g1, g2, g3⟩, ⟨z0, z1, z2, z3⟩, ⟨l0, l1, l2, l3⟩, f0, f1, f2, f3⟩ := RS.facts HS4.out; have HRD4 := Lib.hid hrd4; have HE4 := Lib.hid (HE3.out.trans hx4); clear hx4 hrd4)
                    | (go_at_call 28; refine (HhP0.out _ _ (Tb.ext HT.out (RS.ext (RS.set (c' := (c : Int)) (jt' := 0) (jf' := 0) (k' := (u : Int)) (v := .int .u32 (u : Int)) (j := 3) HS4.out rfl))) _ (HE4.out.setCell (show w2.heap.size ≤ w2.heap.size from Nat.le_refl _) _) HRD4.out).mono ?_; rintro e5 w5 ⟨hx5, v5, rfl, hrd5, hu5⟩; obtain ⟨a5, c5, rfl, -, -⟩ := rdS_cell hrd5; have HS5 := Lib.hid (RS.ext' (RS.set (c' := (c : Int)) (jt' := 0) (jf' := 0) (k' := (u : Int)) (v := .int .u32 (u : Int)) (j := 3) HS4.out rfl) hx5); obtain ⟨⟨g0, g1, g2, g3⟩, ⟨z0, z1, z2, z3⟩, ⟨l0, l1, l2, l3⟩, f0, f1, f2, f3⟩ := RS.facts HS5.out; have HRD5 := Lib.hid hrd5; have HE5 := Lib.hid (((HE4.out.setCell (show w2.heap.size ≤ w2.heap.size from Nat.le_refl _) _)).trans hx5); have HT5 := Lib.hid (Tb.ext HT.out HS5.out.ext); clear hx5 hrd5))
                  all_goals exact cell_end4 (v := .bool false) Tryz.results15 rfl rfl rfl (HS6.out).b4 (HS6.out).ext (Nat.le_refl _) (fun W' h => ⟨h, c, 0, 0, u, by rw [HR2.out]; rfl, fun j hj => by rw [HR2.out] at hj; cases hj⟩)
                · have hb2 : (255 : Int) < (u2 : Int) := by omega
                  clear hb
                  go_wp2_with (first
                    | (go_at_call 28; refine (HhP1.out _ _ HT5.out _ HE5.out HRD5.out).mono ?_; rintro e6 w6 ⟨hx6, v6, rfl, hrd6, hu6⟩; obtain ⟨a6, c6, rfl, -, -⟩ := rdS_cell hrd6; have HS6 := Lib.hid (RS.ext' (HS5.out) hx6); obtain ⟨⟨g0, g1, g2, g3⟩, ⟨z0, z1, z2, z3⟩, ⟨l0, l1, l2, l3⟩, f0, f1, f2, f3⟩ := RS.facts HS6.out; have HRD6 := Lib.hid hrd6; have HE6 := Lib.hid ((HE5.out).trans hx6); have HT6 := Lib.hid (Tb.ext HT.out HS6.out.ext); clear hx6 hrd6)
                    | (go_at_call 27; refine (HhN0.out _ _ HT3.out _ HE3.out HRD.out).mono ?_; rintro e4 w4 ⟨hx4, v4, rfl, hrd4, hu⟩; obtain ⟨a4, c4, rfl, -, -⟩ := rdS_cell hrd4; have HS4 := Lib.hid (RS.ext' HS.out hx4); obtain ⟨⟨g0, g1, g2, g3⟩, ⟨z0, z1, z2, z3⟩, ⟨l0, l1, l2, l3⟩, f0, f1, f2, f3⟩ := RS.facts HS4.out; have HRD4 := Lib.hid hrd4; have HE4 := Lib.hid (HE3.out.trans hx4); clear hx4 hrd4)
                    | (go_at_call 28; refine (HhP0.out _ _ (Tb.ext HT.out (RS.ext (RS.set (c' := (c : Int)) (jt' := 0) (jf' := 0) (k' := (u : Int)) (v := .int .u32 (u : Int)) (j := 3) HS4.out rfl))) _ (HE4.out.setCell (show w2.heap.size ≤ w2.heap.size from Nat.le_refl _) _) HRD4.out).mono ?_; rintro e5 w5 ⟨hx5, v5, rfl, hrd5, hu5⟩; obtain ⟨a5, c5, rfl, -, -⟩ := rdS_cell hrd5; have HS5 := Lib.hid (RS.ext' (RS.set (c' := (c : Int)) (jt' := 0) (jf' := 0) (k' := (u : Int)) (v := .int .u32 (u : Int)) (j := 3) HS4.out rfl) hx5); obtain ⟨⟨g0, g1, g2, g3⟩, ⟨z0, z1, z2, z3⟩, ⟨l0, l1, l2, l3⟩, f0, f1, f2, f3⟩ := RS.facts HS5.out; have HRD5 := Lib.hid hrd5; have HE5 := Lib.hid (((HE4.out.setCell (show w2.heap.size ≤ w2.heap.size from Nat.le_refl _) _)).trans hx5); have HT5 := Lib.hid (Tb.ext HT.out HS5.out.ext); clear hx5 hrd5))
                  all_goals exact cell_end4 (v := .bool false) Tryz.results15 rfl rfl rfl (HS6.out).b4 (HS6.out).ext (Nat.le_refl _) (fun W' h => ⟨h, c, 0, 0, u, by rw [HR2.out]; rfl, fun j hj => by rw [HR2.out] at hj; cases hj⟩)
      · have hR2 : R = (placeA p r).bind fun a => (placeA p a.2).bind fun b => if a.1 ≤ 255 ∧ b.1 ≤ 255 then endA ⟨c, a.1, b.1, 0⟩ b.2 else none := HhR.out
        clear HhR
        have hwx : (∀ x ∈ r, x.length ≤ 1000000) ∧ r.length ≤ 1000000 := ⟨HWR.out, by omega⟩
        cases hn1 : placeA p r with
        | none =>
          have hP0 := place_none hp hn1 hwx.1 hwx.2
          rw [hn1] at hR2
          replace hR2 : R = none := hR2
          have HR2 := Lib.hid hR2
          have HhP0 := Lib.hid hP0
          clear hP0
          clear hR2 hn1
          go_wp2_with (first
            | (go_at_call 28; refine (HhP0.out _ _ HT3.out _ HE3.out HRD.out).mono ?_; rintro e5 w5 ⟨hx5, k5, v5, rfl⟩; have HS5 := Lib.hid (RS.ext' (HS.out) hx5); obtain ⟨⟨g0, g1, g2, g3⟩, ⟨z0, z1, z2, z3⟩, ⟨l0, l1, l2, l3⟩, f0, f1, f2, f3⟩ := RS.facts HS5.out; clear hx5))
          exact cell_end4 (v := .bool false) Tryz.results15 rfl rfl rfl (HS5.out).b4 (HS5.out).ext (Nat.le_refl _) (fun W' h => ⟨h, c, 0, 0, 0, by rw [HR2.out]; rfl, fun j hj => by rw [HR2.out] at hj; cases hj⟩)
        | some x1 =>
          obtain ⟨u1, r3⟩ := x1
          have hP0 := place_some hp hn1 hwx.1 hwx.2
          rw [hn1] at hR2
          replace hR2 : R = (placeA p r3).bind fun b => if u1 ≤ 255 ∧ b.1 ≤ 255 then endA ⟨c, u1, b.1, 0⟩ b.2 else none := hR2
          have hr3 : (∀ x ∈ r3, x.length ≤ 1000000) ∧ r3.length ≤ 1000000 := by
            obtain ⟨q, rfl⟩ := place_rest hn1
            refine ⟨fun x hx => (hwx).1 x (by simp [hx]), ?_⟩
            have := hwx.2
            simp only [List.length_cons] at this
            omega
          clear hn1
          have HhP0 := Lib.hid hP0
          clear hP0
          have HR3 := Lib.hid hr3
          clear hr3
          cases hn2 : placeA p r3 with
          | none =>
            have hP1 := place_none hp hn2 HR3.out.1 HR3.out.2
            rw [hn2] at hR2
            replace hR2 : R = none := hR2
            have HR2 := Lib.hid hR2
            have HhP1 := Lib.hid hP1
            clear hP1
            clear hR2 hn2
            go_wp2_with (first
              | (go_at_call 28; refine (HhP1.out _ _ HT5.out _ HE5.out HRD5.out).mono ?_; rintro e6 w6 ⟨hx6, k6, v6, rfl⟩; have HS6 := Lib.hid (RS.ext' (HS5.out) hx6); obtain ⟨⟨g0, g1, g2, g3⟩, ⟨z0, z1, z2, z3⟩, ⟨l0, l1, l2, l3⟩, f0, f1, f2, f3⟩ := RS.facts HS6.out; clear hx6)
              | (go_at_call 28; refine (HhP0.out _ _ HT3.out _ HE3.out HRD.out).mono ?_; rintro e5 w5 ⟨hx5, v5, rfl, hrd5, hu5⟩; obtain ⟨a5, c5, rfl, -, -⟩ := rdS_cell hrd5; have HS5 := Lib.hid (RS.ext' (HS.out) hx5); obtain ⟨⟨g0, g1, g2, g3⟩, ⟨z0, z1, z2, z3⟩, ⟨l0, l1, l2, l3⟩, f0, f1, f2, f3⟩ := RS.facts HS5.out; have HRD5 := Lib.hid hrd5; have HE5 := Lib.hid ((HE3.out).trans hx5); have HT5 := Lib.hid (Tb.ext HT.out HS5.out.ext); clear hx5 hrd5))
            exact cell_end4 (v := .bool false) Tryz.results15 rfl rfl rfl (HS6.out).b4 (HS6.out).ext (Nat.le_refl _) (fun W' h => ⟨h, c, 0, 0, 0, by rw [HR2.out]; rfl, fun j hj => by rw [HR2.out] at hj; cases hj⟩)
          | some x2 =>
            obtain ⟨u2, r4⟩ := x2
            have hP1 := place_some hp hn2 HR3.out.1 HR3.out.2
            rw [hn2] at hR2
            replace hR2 : R = if u1 ≤ 255 ∧ u2 ≤ 255 then endA ⟨c, u1, u2, 0⟩ r4 else none := hR2
            clear hn2
            have HhP1 := Lib.hid hP1
            clear hP1
            by_cases hb : u1 ≤ 255 ∧ u2 ≤ 255
            · rw [if_pos hb] at hR2
              obtain ⟨hb1, hb2⟩ := hb
              have hq := len_nil r4
              have hes := end_some ⟨c, u1, u2, 0⟩ r4
              rw [← hR2] at hes
              generalize decide (r4 = []) = dn at *
              have Hhes := Lib.hid hes
              clear hes
              have hw1 : IntKind.u8.wrap (u1 : Int) = (u1 : Int) := by simp [IntKind.wrap, IntKind.signed, IntKind.bits]; omega
              have hw2 : IntKind.u8.wrap (u2 : Int) = (u2 : Int) := by simp [IntKind.wrap, IntKind.signed, IntKind.bits]; omega
              have hl1 : ¬ (255 : Int) < (u1 : Int) := by omega
              have hl2 : ¬ (255 : Int) < (u2 : Int) := by omega
              clear hR2
              go_wp2_with (first
                | (go_at_call 28; refine (HhP1.out _ _ HT5.out _ HE5.out HRD5.out).mono ?_; rintro e6 w6 ⟨hx6, v6, rfl, hrd6, hu6⟩; obtain ⟨a6, c6, rfl, -, -⟩ := rdS_cell hrd6; have HS6 := Lib.hid (RS.ext' (HS5.out) hx6); obtain ⟨⟨g0, g1, g2, g3⟩, ⟨z0, z1, z2, z3⟩, ⟨l0, l1, l2, l3⟩, f0, f1, f2, f3⟩ := RS.facts HS6.out; have HRD6 := Lib.hid hrd6; have HE6 := Lib.hid ((HE5.out).trans hx6); have HT6 := Lib.hid (Tb.ext HT.out HS6.out.ext); clear hx6 hrd6)
                | (go_at_call 28; refine (HhP0.out _ _ HT3.out _ HE3.out HRD.out).mono ?_; rintro e5 w5 ⟨hx5, v5, rfl, hrd5, hu5⟩; obtain ⟨a5, c5, rfl, -, -⟩ := rdS_cell hrd5; have HS5 := Lib.hid (RS.ext' (HS.out) hx5); obtain ⟨⟨g0, g1, g2, g3⟩, ⟨z0, z1, z2, z3⟩, ⟨l0, l1, l2, l3⟩, f0, f1, f2, f3⟩ := RS.facts HS5.out; have HRD5 := Lib.hid hrd5; have HE5 := Lib.hid ((HE3.out).trans hx5); have HT5 := Lib.hid (Tb.ext HT.out HS5.out.ext); clear hx5 hrd5))
              all_goals exact cell_end4 (v := .bool dn) Tryz.results15 rfl rfl rfl (RS.set (c' := (c : Int)) (jt' := (u1 : Int)) (jf' := (u2 : Int)) (k' := (0 : Int)) (RS.set (c' := (c : Int)) (jt' := (u1 : Int)) (jf' := 0) (k' := (0 : Int)) (HS6.out) rfl) rfl).b4 (RS.set (c' := (c : Int)) (jt' := (u1 : Int)) (jf' := (u2 : Int)) (k' := (0 : Int)) (RS.set (c' := (c : Int)) (jt' := (u1 : Int)) (jf' := 0) (k' := (0 : Int)) (HS6.out) rfl) rfl).ext (Nat.le_refl _) (fun W' h => ⟨h, c, u1, u2, 0, by rw [Hhes.out.1], fun j hj => by rw [Hhes.out.2 j hj]; exact ⟨rfl, hec, by show u1 < _; omega, by show u2 < _; omega, Nat.zero_lt_succ _⟩⟩)
            · rw [if_neg hb] at hR2
              have HR2 := Lib.hid hR2
              clear hR2
              by_cases hb1 : (255 : Int) < (u1 : Int)
              · clear hb
                go_wp2_with (first
                  | (go_at_call 28; refine (HhP1.out _ _ HT5.out _ HE5.out HRD5.out).mono ?_; rintro e6 w6 ⟨hx6, v6, rfl, hrd6, hu6⟩; obtain ⟨a6, c6, rfl, -, -⟩ := rdS_cell hrd6; have HS6 := Lib.hid (RS.ext' (HS5.out) hx6); obtain ⟨⟨g0, g1, g2, g3⟩, ⟨z0, z1, z2, z3⟩, ⟨l0, l1, l2, l3⟩, f0, f1, f2, f3⟩ := RS.facts HS6.out; have HRD6 := Lib.hid hrd6; have HE6 := Lib.hid ((HE5.out).trans hx6); have HT6 := Lib.hid (Tb.ext HT.out HS6.out.ext); clear hx6 hrd6)
                  | (go_at_call 28; refine (HhP0.out _ _ HT3.out _ HE3.out HRD.out).mono ?_; rintro e5 w5 ⟨hx5, v5, rfl, hrd5, hu5⟩; obtain ⟨a5, c5, rfl, -, -⟩ := rdS_cell hrd5; have HS5 := Lib.hid (RS.ext' (HS.out) hx5); obtain ⟨⟨g0, g1, g2, g3⟩, ⟨z0, z1, z2, z3⟩, ⟨l0, l1, l2, l3⟩, f0, f1, f2, f3⟩ := RS.facts HS5.out; have HRD5 := Lib.hid hrd5; have HE5 := Lib.hid ((HE3.out).trans hx5); have HT5 := Lib.hid (Tb.ext HT.out HS5.out.ext); clear hx5 hrd5))
                all_goals exact cell_end4 (v := .bool false) Tryz.results15 rfl rfl rfl (HS6.out).b4 (HS6.out).ext (Nat.le_refl _) (fun W' h => ⟨h, c, 0, 0, 0, by rw [HR2.out]; rfl, fun j hj => by rw [HR2.out] at hj; cases hj⟩)
              · have hb2 : (255 : Int) < (u2 : Int) := by omega
                clear hb
                go_wp2_with (first
                  | (go_at_call 28; refine (HhP1.out _ _ HT5.out _ HE5.out HRD5.out).mono ?_; rintro e6 w6 ⟨hx6, v6, rfl, hrd6, hu6⟩; obtain ⟨a6, c6, rfl, -, -⟩ := rdS_cell hrd6; have HS6 := Lib.hid (RS.ext' (HS5.out) hx6); obtain ⟨⟨g0, g1, g2, g3⟩, ⟨z0, z1, z2, z3⟩, ⟨l0, l1, l2, l3⟩, f0, f1, f2, f3⟩ := RS.facts HS6.out; have HRD6 := Lib.hid hrd6; have HE6 := Lib.hid ((HE5.out).trans hx6); have HT6 := Lib.hid (Tb.ext HT.out HS6.out.ext); clear hx6 hrd6)
                  | (go_at_call 28; refine (HhP0.out _ _ HT3.out _ HE3.out HRD.out).mono ?_; rintro e5 w5 ⟨hx5, v5, rfl, hrd5, hu5⟩; obtain ⟨a5, c5, rfl, -, -⟩ := rdS_cell hrd5; have HS5 := Lib.hid (RS.ext' (HS.out) hx5); obtain ⟨⟨g0, g1, g2, g3⟩, ⟨z0, z1, z2, z3⟩, ⟨l0, l1, l2, l3⟩, f0, f1, f2, f3⟩ := RS.facts HS5.out; have HRD5 := Lib.hid hrd5; have HE5 := Lib.hid ((HE3.out).trans hx5); have HT5 := Lib.hid (Tb.ext HT.out HS5.out.ext); clear hx5 hrd5))
                all_goals exact cell_end4 (v := .bool false) Tryz.results15 rfl rfl rfl (HS6.out).b4 (HS6.out).ext (Nat.le_refl _) (fun W' h => ⟨h, c, 0, 0, 0, by rw [HR2.out]; rfl, fun j hj => by rw [HR2.out] at hj; cases hj⟩)
end L07
end Go.Proofs.YtbpmokffhmiacaaGreatDoor
