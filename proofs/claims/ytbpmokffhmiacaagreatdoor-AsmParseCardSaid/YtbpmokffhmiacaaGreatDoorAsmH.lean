/- Layer 7: the walk of targets. -/
import Derived.Test.YtbpmokffhmiacaaGreatDoorMarks
import Derived.Test.YtbpmokffhmiacaaGreatDoorAsmG
import Derived.Test.YtbpmokffhmiacaaGreatDoorAsmF
namespace Go.Proofs.YtbpmokffhmiacaaGreatDoor
open Go.RowKit Go.Shelf V
attribute [local go_sem] Oper.semAt_some
namespace L07
def encBo (b : Bool) : List Value := [.bool b]
theorem encBo_len (b : Bool) : (encBo b).length = 1 := rfl
/-- targets' state: its boxes, the row of marks -/
structure TG (w : World) (v : Value) (n : Nat) (bs : List Bool) (W : World) : Prop where
  ext : Ext w W
  bp : Boxed W w.heap.size 22 v
  r2 : Boxed W (w.heap.size + 1) 64 (.slice none 0 0)
  r3 : Boxed W (w.heap.size + 2) 4 (.bool false)
  row : W.heap[w.heap.size + 3]? = some (.cells (bs.map Value.bool).toArray 4 (0, 0))
  len : bs.length = n
  b4 : Boxed W (w.heap.size + 4) 64 (.slice (some ⟨w.heap.size + 3, 0, none⟩) n n)
theorem TG.lt {w : World} {v : Value} {n : Nat} {bs : List Bool} {W : World} (h : TG w v n bs W) : w.heap.size + 5 ≤ W.heap.size := by have := h.b4.lt; omega
theorem TG.kept {w : World} {v : Value} {n : Nat} {bs : List Bool} {W W' : World} (h : TG w v n bs W) (hx : Below (w.heap.size + 5) W W') : TG w v n bs W' :=
  ⟨Below.trans h.ext (hx.mono (by omega)), (hx.block _ (by omega)).trans h.bp, (hx.block _ (by omega)).trans h.r2, (hx.block _ (by omega)).trans h.r3, (hx.block _ (by omega)).trans h.row, h.len, (hx.block _ (by omega)).trans h.b4⟩
theorem TG.grow {w : World} {v : Value} {n : Nat} {bs : List Bool} {W W' : World} {row : Option Nat} (h : TG w v n bs W) (hg : W.grownBy W' row) (hr : ∀ r, row = some r → w.heap.size + 5 ≤ r) : TG w v n bs W' := h.kept (Below.grown (Below.refl _ _) hg h.lt hr)
theorem TG.alloc {w : World} {v : Value} {n : Nat} {bs : List Bool} {W : World} (h : TG w v n bs W) (o : Obj) : TG w v n bs (W.alloc o) := h.kept (Below.alloc (Below.refl _ _) h.lt o)
theorem TG.set {w : World} {v : Value} {n : Nat} {bs : List Bool} {W : World} (h : TG w v n bs W) (m : Nat) : TG w v n (bs.set m true) (W.setCell ⟨w.heap.size + 3, m, none⟩ (.bool true)) := by
  have hb : ∀ k, k ≠ w.heap.size + 3 → (W.setCell ⟨w.heap.size + 3, m, none⟩ (.bool true)).heap[k]? = W.heap[k]? := fun k hk => Below.heap_setCell _ _ _ _ hk
  refine ⟨h.ext.setCell (by show w.heap.size ≤ w.heap.size + 3; omega) _, (hb _ (by omega)).trans h.bp, (hb _ (by omega)).trans h.r2, (hb _ (by omega)).trans h.r3, ?_, by rw [List.length_set]; exact h.len, (hb _ (by omega)).trans h.b4⟩
  have hr := h.row
  obtain ⟨hlt, hr⟩ := Array.getElem?_eq_some_iff.1 hr
  simp only [World.setCell]
  rw [Array.getElem?_eq_getElem (by rw [Array.size_modify]; exact hlt), Array.getElem_modify_self, hr]
  simp [List.map_set]
theorem TG.cell {w : World} {v : Value} {n : Nat} {bs : List Bool} {W : World} (h : TG w v n bs W) (m : Nat) (hm : m < n) : (∃ x, W.cell? ⟨w.heap.size + 3, m, none⟩ = some (.bool x)) ∧ W.frozen? ⟨w.heap.size + 3, m, none⟩ = false := by
  have hr := h.row
  have := h.len
  constructor
  · exact ⟨bs[m]'(by omega), by simp [World.cell?, hr, this, hm]⟩
  · simp [World.frozen?, hr]
theorem infoBo : (Tryz.prog.info? 4).map (fun i => (i.zero, i.size, i.bytes)) = some (some (.bool false), 1, 1) := by kernel_rfl
theorem mk_b (n : Nat) (h : n ≤ 100000) (w : World) : (Instr.makeSlice 64 (.int .i64 (n : Int)) (.int .i64 (n : Int))).run Tryz.prog w = .ok (.slice (some ⟨w.heap.size, 0, none⟩) n n) (w.alloc (.cells (Array.replicate n (Value.bool false)) 4)) := by
  obtain ⟨i, h1, h2, h3, h4⟩ := info_parts infoBo
  have hr := run_make (P := Tryz.prog) w 64 4 i _ Tryz.underlying64 h1 h2 .i64 .i64 n n (by omega) (by omega) (by rw [h4]; omega) (by omega)
  rw [h3] at hr
  simp only [Int.toNat_natCast] at hr
  have e : madeCells (Value.bool false).cells (n * 1) = Array.replicate n (Value.bool false) := by
    unfold madeCells Value.cells
    apply Array.ext
    · simp
    · intro j h1 h2
      simp [Nat.mod_one]
  rw [e] at hr
  exact hr
theorem rdI_cell {w : World} {v : Value} {xs : List In} (h : Rd w 4 encN v xs) : ∃ a c, v = .slice a xs.length c ∧ xs.length ≤ c ∧ ∀ i, (hi : i < xs.length) → ∃ b o, a = some ⟨b, o, none⟩ ∧
    w.cell? ⟨b, o + i * 4, none⟩ = some (.int .u16 (xs[i].c : Int)) ∧ w.cell? ⟨b, o + i * 4 + 1, none⟩ = some (.int .u8 (xs[i].jt : Int)) ∧ w.cell? ⟨b, o + i * 4 + 2, none⟩ = some (.int .u8 (xs[i].jf : Int)) ∧ w.cell? ⟨b, o + i * 4 + 3, none⟩ = some (.int .u32 (xs[i].k : Int)) := by
  obtain ⟨a, c, h1, h2, h3, h4⟩ := h
  refine ⟨a, c, h1, h2, fun i hi => ?_⟩
  obtain ⟨b, o, e, k⟩ := h4 i hi
  exact ⟨b, o, e, k 0 (by simp [encN]), k 1 (by simp [encN]), k 2 (by simp [encN]), k 3 (by simp [encN])⟩
set_option maxRecDepth 100000 in
set_option maxHeartbeats 4000000 in
theorem targets_calls (P : List In) (v : Value) (hP : ∀ i ∈ P, OkN i) (hl : P.length ≤ 100000) (w : World) (hv : Rd w 4 encN v P) :
    Calls Tryz.prog 30 #[v] w fun e w' => Ext w w' ∧ ((okT P = true ∧ ∃ u, e = .returned (.tuple #[u, .bool true]) ∧ Rd w' 1 encBo u (rowB P P.length)) ∨ (okT P = false ∧ e = .returned (.tuple #[.slice none 0 0, .bool false]))) := by
  have hvR := hv
  obtain ⟨a, c, rfl, -, hca⟩ := rdI_cell hv
  clear hv
  have hmk := mk_b P.length hl
  have h0 : TG w (.slice a P.length c) P.length (rowB P 0) (((((w.alloc (.cells #[.slice a P.length c] 22)).alloc (.cells #[.slice none 0 0] 64)).alloc (.cells #[.bool false] 4)).alloc (.cells (Array.replicate P.length (Value.bool false)) 4)).alloc (.cells #[.slice (some ⟨w.heap.size + 3, 0, none⟩) P.length P.length] 64)) := by
    have g1 := Boxed.new w 22 (.slice a P.length c)
    have g2 := Boxed.new (w.alloc (.cells #[.slice a P.length c] 22)) 64 (.slice none 0 0)
    have g3 := Boxed.new ((w.alloc (.cells #[.slice a P.length c] 22)).alloc (.cells #[.slice none 0 0] 64)) 4 (.bool false)
    have g4 := heap_alloc_new (((w.alloc (.cells #[.slice a P.length c] 22)).alloc (.cells #[.slice none 0 0] 64)).alloc (.cells #[.bool false] 4)) (.cells (Array.replicate P.length (Value.bool false)) 4)
    have g5 := Boxed.new ((((w.alloc (.cells #[.slice a P.length c] 22)).alloc (.cells #[.slice none 0 0] 64)).alloc (.cells #[.bool false] 4)).alloc (.cells (Array.replicate P.length (Value.bool false)) 4)) 64 (.slice (some ⟨w.heap.size + 3, 0, none⟩) P.length P.length)
    simp only [World.size_alloc] at g2 g3 g4 g5
    exact ⟨((((Ext.refl w).alloc _).alloc _).alloc _).alloc _ |>.alloc _, (((g1.alloc _).alloc _).alloc _).alloc _, ((g2.alloc _).alloc _).alloc _, (g3.alloc _).alloc _,
      by rw [Below.heap_alloc _ _ _ (by simp), g4]; simp [rowB], rowB_len P 0, g5⟩
  have HV := Lib.hid hvR
  have H0 := Lib.hid h0
  have HP := Lib.hid hP
  clear hvR h0 hP
  refine (callsIn_wide (n := 4)).1 ?_
  refine callsIn_of_wp_marks Tryz.func30 rfl trivial ?_ rfl
  simp only [Tryz.ntmps30, List.size_toArray, List.length_cons, List.length_nil, Nat.reduceAdd, Nat.reduceSub, Array.replicate_succ, Array.replicate_zero, List.push_toArray, List.append_toArray, List.nil_append, List.cons_append]
  gi_wp2
  refine wpIn_loop (fun a' W => ∃ (k : Nat) (Ds : List Nat) (u5 u6 u7 u14 u15 u16 u17 u18 u19 u20 u21 u22 u23 u24 u25 u26 u27 u28 u29 : Value), k ≤ P.length ∧ (∀ j, j < k → okAt P j = true) ∧ TG w (.slice a P.length c) P.length (rowB P k) W ∧ Marks (w.heap.size + 5) Ds W ∧
    a' = { tmps := #[.slice a P.length c, .pointer (some ⟨w.heap.size, 0, none⟩), .pointer (some ⟨w.heap.size + 1, 0, none⟩), .pointer (some ⟨w.heap.size + 2, 0, none⟩), .pointer (some ⟨w.heap.size + 4, 0, none⟩), u5, u6, u7, .slice a P.length c, .int .i64 (P.length : Int), .slice (some ⟨w.heap.size + 3, 0, none⟩) P.length P.length, .slice a P.length c, .int .i64 (P.length : Int), .int .i64 (k : Int),
      u14, u15, u16, u17, u18, u19, u20, u21, u22, u23, u24, u25, u26, u27, u28, u29, undef], defers := Ds.map markD }) (fun a' _ => P.length - (intOf (a'.tmps.getD 13 undef)).toNat) ?start ?round
  case start =>
    exact ⟨0, [], _, _, _, _, _, _, _, _, _, _, _, _, _, _, _, _, _, _, _, Nat.zero_le _, fun j hj => absurd hj (Nat.not_lt_zero j), H0.out, Marks.nil _ _, rfl⟩
  case round =>
    rintro _ W ⟨k, Ds, u5, u6, u7, u14, u15, u16, u17, u18, u19, u20, u21, u22, u23, u24, u25, u26, u27, u28, u29, hk, hok, hT, hM, rfl⟩
    by_cases hlt : k < P.length
    · obtain ⟨b, o, rfl, h1, h2, h3, h4⟩ := hca k hlt
      replace h1 := hT.ext.cell h1; replace h2 := hT.ext.cell h2; replace h3 := hT.ext.cell h3; replace h4 := hT.ext.cell h4
      generalize hnv : P[k] = i at *
      have hLk : leadsP P k = leadsL i k := by unfold leadsP; rw [List.getElem?_eq_getElem hlt, hnv]
      have hNi : OkN i := HP.out i (hnv ▸ List.getElem_mem _)
      have cT := hT.bp.cell
      have HT := Lib.hid hT
      have HM := Lib.hid hM
      have HO := Lib.hid hok
      have HhLk := Lib.hid hLk
      clear hLk
      have Hhnv := Lib.hid hnv
      clear hnv
      have HhNi := Lib.hid hNi
      clear hNi
      clear hca hT hM hok
      gi_wp2_with (refine ⟨trivial, ?_⟩; gi_at_call 46; refine (callsIn_wide.2 (leads_calls i k _)).mono ?_; rintro e w1 ⟨rfl, rfl⟩)
      have hW3 : ∃ W3, ((W.alloc (.cells #[.int .u16 (i.c : Int), .int .u8 (i.jt : Int), .int .u8 (i.jf : Int), .int .u32 (i.k : Int)] 34)).alloc (.cells #[.int .u16 (i.c : Int), .int .u8 (i.jt : Int), .int .u8 (i.jf : Int), .int .u32 (i.k : Int)] 34)).alloc (.cells #[.int .i64 (k : Int)] 3) = W3 ∧ W3.heap.size = W.heap.size + 3 ∧ TG w (.slice (some ⟨b, o, none⟩) P.length c) P.length (rowB P k) W3 ∧ Marks (w.heap.size + 5) Ds W3 ∧
          W3.heap[W.heap.size + 1]? = some (.cells #[.int .u16 (i.c : Int), .int .u8 (i.jt : Int), .int .u8 (i.jf : Int), .int .u32 (i.k : Int)] 34 (0, 0)) ∧ W3.cell? ⟨W.heap.size + 2, 0, none⟩ = some (.int .i64 (k : Int)) := by
        refine ⟨_, rfl, by simp, ((HT.out.alloc _).alloc _).alloc _, ((HM.out.alloc _).alloc _).alloc _, ?_, ?_⟩
        · have := heap_alloc_new (W.alloc (.cells #[.int .u16 (i.c : Int), .int .u8 (i.jt : Int), .int .u8 (i.jf : Int), .int .u32 (i.k : Int)] 34)) (.cells #[.int .u16 (i.c : Int), .int .u8 (i.jt : Int), .int .u8 (i.jf : Int), .int .u32 (i.k : Int)] 34)
          rw [World.size_alloc] at this
          exact (Below.heap_alloc _ _ _ (by simp)).trans this
        · have := (Boxed.new ((W.alloc (.cells #[.int .u16 (i.c : Int), .int .u8 (i.jt : Int), .int .u8 (i.jf : Int), .int .u32 (i.k : Int)] 34)).alloc (.cells #[.int .u16 (i.c : Int), .int .u8 (i.jt : Int), .int .u8 (i.jf : Int), .int .u32 (i.k : Int)] 34)) 3 (.int .i64 (k : Int))).cell
          simp only [World.size_alloc] at this
          exact this
      obtain ⟨W3, hW3, hs3, hT3, hM3, hci3, hca3⟩ := hW3
      rw [hW3]
      clear hW3 h1 h2 h3 h4 cT
      have n4 : 1 ≤ 4 := by omega
      have hMl := HM.out.lt
      have hTl := HT.out.lt
      refine wpIn_rangeFunc_ownF rfl n4 (gf := 63) (lb := #[.pointer (some ⟨W.heap.size + 1, 0, none⟩), .pointer (some ⟨W.heap.size + 1 + 1, 0, none⟩)]) rfl trivial (enters_of Tryz.func63 (by kernel_rfl) rfl)
        (leads_stops (W.heap.size + 1) (W.heap.size + 2) (fun j => j = W.heap.size + 1 ∨ j = W.heap.size + 2) i k HhNi.out (by omega) W3 (.inl rfl) (.inr rfl) hci3 hca3) keepK_t (keepK_b (by omega)) (Below.refl _ _) (fun _ => rfl)
        (fun pre W' => TG w (.slice (some ⟨b, o, none⟩) P.length c) P.length (setB (rowB P k) (pre.map Subtype.val)) W' ∧ (∀ x ∈ pre, x.1 < P.length) ∧ Marks (w.heap.size + 5) Ds W')
        (fun cd pre W' => cd = .ret ∧ Ext w W' ∧ Boxed W' (w.heap.size + 1) 64 (.slice none 0 0) ∧ Boxed W' (w.heap.size + 2) 4 (.bool false) ∧ (∃ x ∈ pre, ¬ x.1 < P.length) ∧ Marks (w.heap.size + 5) Ds W')
        (fun s A B row hs hg hr => ⟨hs.1.grow hg (fun r e => by have := (hr r e).1; omega), hs.2.1, hs.2.2.grown hg (fun r e hD => by have := (hr r e).1; have := hMl r hD; omega)⟩)
        (fun cd s A B row hs hg hr => ⟨hs.1, hs.2.1.grown hg (fun r e => by have := (hr r e).1; omega), hs.2.2.1.kept hg (fun e => by have := (hr _ e.symm).1; omega), hs.2.2.2.1.kept hg (fun e => by have := (hr _ e.symm).1; omega), hs.2.2.2.2.1, hs.2.2.2.2.2.grown hg (fun r e hD => by have := (hr r e).1; have := hMl r hD; omega)⟩)
        ⟨hT3, (fun _ h => by cases h), hM3⟩
        (fun x => { tmps := #[.slice (some ⟨b, o, none⟩) P.length c, .pointer (some ⟨w.heap.size, 0, none⟩), .pointer (some ⟨w.heap.size + 1, 0, none⟩), .pointer (some ⟨w.heap.size + 2, 0, none⟩), .pointer (some ⟨w.heap.size + 4, 0, none⟩), .int .i64 (k : Int), .pointer (some ⟨W.heap.size, 0, none⟩), .int .i64 (x.1 : Int), .slice (some ⟨b, o, none⟩) P.length c, .int .i64 (P.length : Int), .slice (some ⟨w.heap.size + 3, 0, none⟩) P.length P.length, .slice (some ⟨b, o, none⟩) P.length c, .int .i64 (P.length : Int), .int .i64 (k : Int), .bool true, .int .i64 (k : Int),
          .pointer (some ⟨b, o + k * 4, none⟩), .agg #[.int .u16 (i.c : Int), .int .u8 (i.jt : Int), .int .u8 (i.jf : Int), .int .u32 (i.k : Int)], .agg #[.int .u16 (i.c : Int), .int .u8 (i.jt : Int), .int .u8 (i.jf : Int), .int .u32 (i.k : Int)], .int .i64 (k : Int), .func (.func 63) #[] #[.pointer (some ⟨W.heap.size + 1, 0, none⟩), .pointer (some ⟨W.heap.size + 1 + 1, 0, none⟩)], .int .i64 (x.1 : Int), u22, u23, u24, u25, u26, u27, u28, u29, undef], defers := [] }) ?assign ?body ?done ?stop
      case assign =>
        intro l x W' K hK
        gi_wp2
        first | exact hK | (simp; exact hK)
      case body =>
        rintro l pre x W' ⟨hT', hle, hM'⟩ hlen
        by_cases hx : x.1 < P.length
        · have d1 : decide (P.length ≤ x.1) = false := decide_eq_false (by omega)
          have d2 : decide ((P.length : Int) ≤ (x.1 : Int)) = false := decide_eq_false (by omega)
          have c1 := hT'.bp.cell
          have c4 := hT'.b4.cell
          obtain ⟨⟨y3, c3⟩, f3⟩ := hT'.cell x.1 hx
          have hbl : (x.1 : Int) < (P.length : Int) := by omega
          have HT' := Lib.hid hT'
          have HL := Lib.hid hle
          have HM' := Lib.hid hM'
          clear hT' hle hM'
          gi_wp2
          refine ⟨KeepsOthers.setCell _ _ _, Keep.setCell W' (by show ¬ (w.heap.size + 3 = W.heap.size + 1 ∨ w.heap.size + 3 = W.heap.size + 2); omega) _, ?_, ?_, ?_⟩
          · rw [List.map_append, List.map_cons, List.map_nil, setB_snoc]; exact HT'.out.set x.1
          · intro y hy
            rcases List.mem_append.1 hy with h | h
            · exact HL.out y h
            · cases List.mem_singleton.1 h; exact hx
          · exact HM'.out.setCell (by show w.heap.size + _ < _; omega) _
        · have d1 : decide (P.length ≤ x.1) = true := decide_eq_true (by omega)
          have d2 : decide ((P.length : Int) ≤ (x.1 : Int)) = true := decide_eq_true (by omega)
          have c1 := hT'.bp.cell
          have c2 := hT'.r2.cell
          have f2 := hT'.r2.frozen
          have c3 := hT'.r3.cell
          have f3 := hT'.r3.frozen
          have HT' := Lib.hid hT'
          have HL := Lib.hid hle
          have HM' := Lib.hid hM'
          clear hT' hle hM'
          gi_wp2
          refine ⟨(KeepsOthers.setCell _ _ _).trans (KeepsOthers.setCell _ _ _), rfl, ?_, ?_, ?_, ⟨x, by simp, hx⟩, ?_⟩
          · exact (HT'.out.ext.setCell (by show w.heap.size ≤ w.heap.size + 1; omega) _).setCell (by show w.heap.size ≤ w.heap.size + 2; omega) _
          · exact (HT'.out.r2.set _).other (by omega) _
          · exact (HT'.out.r3.other (by omega) _).set _
          · exact (HM'.out.setCell (by show w.heap.size + _ < _; omega) _).setCell (by show w.heap.size + _ < _; omega) _
      case done =>
        rintro D ys W' hD hys ⟨hT', hle, hM'⟩ hK
        have HDn := Lib.hid (And.intro hD (And.intro hys (And.intro hT' (And.intro hle (And.intro hM' hK)))))
        clear hD hys hT' hle hM' hK
        gi_wp2
        obtain ⟨hD, hys, hT', hle, hM', hK⟩ := HDn.out
        refine ⟨⟨k + 1, D :: Ds, _, _, _, _, _, _, _, _, _, _, _, _, _, _, _, _, _, _, _, hlt, ?_, ?_, hM'.cons (fun h => by have := hMl D h; omega) hK (by omega), rfl⟩, ?_⟩
        · intro j hj
          by_cases e : j = k
          · subst e
            rw [okAt_eq, HhLk.out, List.all_eq_true, ← hys]
            intro m hm
            obtain ⟨y, hy, rfl⟩ := List.mem_map.1 hm
            exact decide_eq_true (hle y hy)
          · exact HO.out j (by omega)
        · rw [rowB, HhLk.out, ← hys]; exact hT'
        · simp [intOf]; omega
      case stop =>
        rintro D cd pre W' hD hpre ⟨rfl, hx', hb2, hb3, ⟨x, hxm, hxn⟩, hM'⟩ hK
        have hko : okT P = false := by
          rw [← Bool.not_eq_true]
          intro h
          have h1 := List.all_eq_true.1 h k (List.mem_range.2 hlt)
          rw [okAt_eq, HhLk.out] at h1
          obtain ⟨r, hr⟩ := hpre
          have h2 := List.all_eq_true.1 h1 x.1 (by rw [← hr]; exact List.mem_append_left _ (List.mem_map.2 ⟨x, hxm, rfl⟩))
          exact hxn (of_decide_eq_true h2)
        gi_wp2
        refine leaves_marks (B := w.heap.size + 5) (D :: Ds) W' (hM'.cons (fun h => by have := hMl D h; omega) hK (by omega)) ?_
        intro W9 o1 o2 o3 o4 o5 o6
        have q0 := Boxed.cell ((o5 _ (by omega)).trans hb2)
        have q1 := Boxed.cell ((o5 _ (by omega)).trans hb3)
        refine ⟨.tuple #[.slice none 0 0, .bool false], by simp [results, Tryz.results30, go_sem, q0, q1], ?_, .inr ⟨hko, rfl⟩⟩
        exact Below.trans hx' ⟨o1, o2, o3, by omega, fun j hj => o5 j (by have := hx'.size; omega)⟩
    · obtain rfl : k = P.length := by omega
      have hokt : okT P = true := List.all_eq_true.2 fun j hj => hok j (List.mem_range.1 hj)
      have c4 := hT.b4.cell
      have c2 := hT.r2.cell
      have f2 := hT.r2.frozen
      have c3 := hT.r3.cell
      have f3 := hT.r3.frozen
      have HT := Lib.hid hT
      have HM := Lib.hid hM
      clear hca hT hM hok
      gi_wp2
      obtain ⟨WE, hWE⟩ : ∃ WE, (W.setCell ⟨w.heap.size + 1, 0, none⟩ (.slice (some ⟨w.heap.size + 3, 0, none⟩) P.length P.length)).setCell ⟨w.heap.size + 2, 0, none⟩ (.bool true) = WE := ⟨_, rfl⟩
      have hb2 : Boxed WE (w.heap.size + 1) 64 (.slice (some ⟨w.heap.size + 3, 0, none⟩) P.length P.length) := by rw [← hWE]; exact (HT.out.r2.set _).other (by omega) _
      have hb3 : Boxed WE (w.heap.size + 2) 4 (.bool true) := by rw [← hWE]; exact (HT.out.r3.other (by omega) _).set _
      have hME : Marks (w.heap.size + 5) Ds WE := by
        rw [← hWE]
        exact (HM.out.setCell (by show w.heap.size + _ < _; omega) _).setCell (by show w.heap.size + _ < _; omega) _
      have hXE : Ext w WE := by rw [← hWE]; exact (HT.out.ext.setCell (by show w.heap.size ≤ w.heap.size + 1; omega) _).setCell (by show w.heap.size ≤ w.heap.size + 2; omega) _
      have hrow : WE.heap[w.heap.size + 3]? = some (.cells ((rowB P P.length).map Value.bool).toArray 4 (0, 0)) := by
        rw [← hWE]; exact (Below.heap_setCell _ _ _ _ (by show w.heap.size + 3 ≠ w.heap.size + 2; omega)).trans ((Below.heap_setCell _ _ _ _ (by show w.heap.size + 3 ≠ w.heap.size + 1; omega)).trans HT.out.row)
      rw [hWE]
      clear hWE
      refine leaves_marks (B := w.heap.size + 5) Ds WE hME ?_
      intro W9 o1 o2 o3 o4 o5 o6
      have q0 := Boxed.cell ((o5 _ (by omega)).trans hb2)
      have q1 := Boxed.cell ((o5 _ (by omega)).trans hb3)
      have hXE2 := hXE.size
      refine ⟨.tuple #[.slice (some ⟨w.heap.size + 3, 0, none⟩) P.length P.length, .bool true], by simp [results, Tryz.results30, go_sem, q0, q1], ?_, .inl ⟨hokt, _, rfl, ?_⟩⟩
      · exact Below.trans hXE ⟨o1, o2, o3, by omega, fun j hj => o5 j (by omega)⟩
      · have hlen := rowB_len P P.length
        refine ⟨some ⟨w.heap.size + 3, 0, none⟩, P.length, by rw [hlen], by omega, (fun h => by cases h), fun j hj => ⟨_, _, rfl, fun m hm => ?_⟩⟩
        have hm0 : m = 0 := by simp [encBo] at hm; exact hm
        subst hm0
        have h9 := (o5 (w.heap.size + 3) (by omega)).trans hrow
        simp [World.cell?, h9, encBo, hj]
end L07
end Go.Proofs.YtbpmokffhmiacaaGreatDoor
