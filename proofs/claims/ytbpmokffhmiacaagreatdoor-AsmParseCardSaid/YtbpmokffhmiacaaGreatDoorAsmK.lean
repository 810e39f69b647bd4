/- Layer 7: the walk of Line. -/
import Derived.Sort.CutIn
import Derived.Deep.RegionLaw
import Derived.Stop.RegionWithIn
import Derived.Lib.Join
import Derived.Test.YtbpmokffhmiacaaGreatDoorAsmJ
namespace Go.Proofs.YtbpmokffhmiacaaGreatDoor
open Go.RowKit Go.Shelf Go.Sort V
attribute [local go_sem] Oper.semAt_some
namespace L07
def encS (s : List UInt8) : List Value := [.string (str s)]
theorem encS_len (s : List UInt8) : (encS s).length = 1 := rfl
theorem encS_one (s : List UInt8) : ∀ u ∈ encS s, u.oneCell' = true := by intro u hu; simp [encS] at hu; subst hu; rfl
theorem infoStr : (Tryz.prog.info? 9).map (fun i => (i.zero, i.size, i.bytes)) = some (some (.string ⟨#[]⟩), 1, 16) := by kernel_rfl
/-- the words of an instruction's line -/
def wordsL (i : In) (p : Nat) : List (List UInt8) := (entry i.c).nm :: ((if kU i.c = true then [dec i.k] else []) ++ (leadsL i p).map lab)
theorem join_words (i : In) (p : Nat) : Lib.join (wordsL i p) [32] = lineL i p := by
  unfold wordsL lineL
  rw [Lib.join_cons]
  congr 1
  unfold Lib.joinTail kpart lparts
  rw [List.map_append, List.flatten_append]
  congr 1
  · split <;> simp
  · rw [List.map_map, List.flatMap]; rfl
/-- the box of the words -/
structure TL (w : World) (B : Nat) (ws : List (List UInt8)) (u : Value) (W : World) : Prop where
  lo : w.heap.size ≤ B
  ext : Ext w W
  box : Boxed W B 54 u
  own : W.ownsRow w.heap.size 9 1 u ws.length (ws.flatMap encS)
theorem TL.grow {w W W' : World} {B : Nat} {ws : List (List UInt8)} {u : Value} {row : Option Nat} (h : TL w B ws u W) (hg : W.grownBy W' row) (hr : ∀ r, row = some r → ∃ o : Obj, W.heap[r]? = some o ∧ o.isCells = false) (hB : ∀ r, row = some r → w.heap.size ≤ r) : TL w B ws u W' := by
  refine ⟨h.lo, h.ext.grown hg hB, h.box.kept hg (fun e => ?_), World.ownsRow.kept h.own hg ?_⟩
  · obtain ⟨o, ho, hc⟩ := hr B e.symm
    have := h.box
    unfold Boxed at this
    rw [this] at ho; cases ho; cases hc
  · cases hu : u.ownBlock with
    | none => exact .inl rfl
    | some k =>
      refine .inr fun e => ?_
      obtain ⟨o, ho, hc⟩ := hr k e.symm
      rcases h.own.2 with ⟨rfl, _⟩ | ⟨g, cap, cur, rfl, hg2, hh, -⟩
      · cases hu
      · cases hu
        rw [hh] at ho; cases ho; cases hc
theorem TL.ext' {w W W' : World} {B : Nat} {ws : List (List UInt8)} {u : Value} (h : TL w B ws u W) (hx : Ext W W') : TL w B ws u W' :=
  ⟨h.lo, h.ext.trans hx, (hx.block h.box.lt).trans h.box, ownsRow_keep h.own (Keep.of_below hx (fun _ hk => hk)) (fun b e => (h.own.lt b e).2)⟩
theorem joined_calls (ws : List (List UInt8)) (v : Value) (base : Nat) (w : World) (h : w.ownsRow base 9 1 v ws.length (ws.flatMap encS)) (hp : 0 < ws.length) (hn : ws.length ≤ 100000) (hl : (Lib.join ws [32]).length ≤ 100000) :
    Calls Tryz.prog 51 #[v] w fun e w' => e = .returned (.string (str (Lib.join ws [32]))) ∧ Ext w w' := by
  have hrd := rd_of_own encS_len h
  obtain ⟨g, c, rfl, -, hg, -⟩ := own_parts h hp
  obtain ⟨a, c', e, h1, -, h3⟩ := hrd
  simp only [Value.slice.injEq, true_and] at e
  obtain ⟨rfl, rfl⟩ := e
  have hm : (ws.map str).map (fun x => x.data.toList) = ws := by
    rw [List.map_map]
    have : ((fun x : ByteArray => x.data.toList) ∘ str) = id := by funext l; simp [str]
    rw [this, List.map_id]
  have hJ := Tryz.strings_Join g 0 c (ws.map str) ⟨#[32]⟩ w (fun j x hx => by
    rw [List.getElem?_map] at hx
    have hj : j < ws.length := by
      rcases Nat.lt_or_ge j ws.length with h | h
      · exact h
      · rw [List.getElem?_eq_none h] at hx; cases hx
    rw [List.getElem?_eq_getElem hj] at hx
    simp only [Option.map_some, Option.some.injEq] at hx
    subst hx
    obtain ⟨b, o, e, hat⟩ := h3 j hj
    simp only [Option.some.injEq, Addr.mk.injEq, and_true] at e
    obtain ⟨rfl, rfl⟩ := e
    have := hat 0 (by simp [encS])
    simpa [encS] using this) hg (by rw [List.length_map]; omega) (by rw [List.length_map]; exact h1) (by rw [hm]; show (Lib.join ws [32]).length ≤ _; omega)
  rw [hm, List.length_map] at hJ
  change Calls Tryz.prog 67 #[.slice (some ⟨g, 0, none⟩) ws.length c, .string ⟨#[32]⟩] w fun e w' => e = .returned (.string (str (Lib.join ws [32]))) ∧ Below w.heap.size w w' at hJ
  generalize str (Lib.join ws [32]) = res at *
  clear hm h3 h hl
  have HhJ := Lib.hid hJ
  clear hJ
  go_enter Tryz.func51, Tryz.ntmps51
  go_wp2_with fail
  refine HhJ.out.mono ?_
  rintro e w1 ⟨rfl, hx⟩
  go_wp2_with fail
  go_ret
  exact ⟨rfl, hx⟩
theorem own_not {W : World} {base e n k m : Nat} {u : Value} {zs : List Value} {cs : Array Value} {t : TypeId} {fz : Nat × Nat} (h : W.ownsRow base e n u m zs) (hk : W.heap[k]? = some (.cells cs t fz)) (hte : t ≠ e) : u.ownBlock ≠ some k := fun e1 => by
  rcases h.2 with ⟨rfl, _⟩ | ⟨g, cap, cur, rfl, hg2, hh, -⟩
  · cases e1
  · cases e1; rw [hh] at hk; cases hk; exact hte rfl
theorem keepsOthers_ext {A B : World} (h : Ext A B) : KeepsOthers A B := ⟨h.size, fun _ _ hk _ => (h.block (Array.getElem?_eq_some_iff.1 hk).1).trans hk⟩
/-- a word put behind the others, the box set -/
theorem TL.appended {w W W5 : World} {B : Nat} {ws : List (List UInt8)} {x : List UInt8} {u u5 : Value} {k : Nat} (h : TL w B ws u W) (hg : W.grownBy W5 u.ownBlock) (hk : k = ws.length + 1)
    (ho : W5.ownsRow w.heap.size 9 1 u5 k ((ws ++ [x]).flatMap encS)) : TL w B (ws ++ [x]) u5 (W5.setCell ⟨B, 0, none⟩ u5) := by
  subst hk
  have hb := h.box.kept hg (Boxed.not_row h.box (by decide) h.own)
  refine ⟨h.lo, (h.ext.grown hg (fun k e => (h.own.lt k e).1)).setCell h.lo _, hb.set _, ?_⟩
  rw [List.length_append]
  exact ownsRow_keep (S := fun k => k ≠ B) ho (Keep.setCell W5 (fun e => e rfl) _) (fun b e e2 => Boxed.not_row hb (by decide) ho (by rw [e, e2]))
/-- what a round that puts a word behind the others keeps -/
theorem round_end {w W' X w9 : World} {B : Nat} {ws : List (List UInt8)} {u : Value} {S : Nat → Prop} (hx : Ext W' X) (hT : TL w B ws u X) (hg : X.grownBy w9 u.ownBlock)
    (hS : ∀ k, S k → k ≠ B ∧ ∃ cs t, W'.heap[k]? = some (.cells cs t (0, 0)) ∧ t ≠ 9) (v : Value) : KeepsOthers W' (w9.setCell ⟨B, 0, none⟩ v) ∧ Keep S W' (w9.setCell ⟨B, 0, none⟩ v) := by
  constructor
  · refine ((keepsOthers_ext hx).trans (KeepsOthers.of_grownBy hg (fun j o e ho => ?_))).trans (KeepsOthers.setCell _ _ _)
    rcases hT.own.2 with ⟨rfl, _⟩ | ⟨g, cap, cur, rfl, hg2, hh, -⟩
    · cases e
    · cases e; rw [hh] at ho; cases ho; rfl
  · have hlt : ∀ k, S k → k < W'.heap.size := fun k hk => by obtain ⟨-, cs, t, h, -⟩ := hS k hk; exact (Array.getElem?_eq_some_iff.1 h).1
    have h1 : Keep S W' X := Keep.of_below hx hlt
    have h2 : Keep S X w9 := ⟨hg.os, hg.tape, hg.output, hg.size, fun k hk => hg.block k (Nat.lt_of_lt_of_le (hlt k hk) hx.size) (fun e => by
      obtain ⟨-, cs, t, h, ht⟩ := hS k hk
      exact own_not hT.own ((hx.block (hlt k hk)).trans h) ht e.symm)⟩
    exact (h1.trans h2).trans (Keep.setCell w9 (fun e => (hS B e).1 rfl) v)
set_option maxRecDepth 100000 in
set_option maxHeartbeats 8000000 in
theorem Line_calls (i : In) (hN : OkN i) (p : Int) (hp0 : -9223372036854775808 ≤ p) (hp : p ≤ 1099511627776) (w : World) (ht : Tab w) :
    Calls Tryz.prog 33 #[inV i, .int .i64 p] w fun e w' => e = .returned (.string (str (lineA i p))) ∧ Ext w w' := by
  have hP := fun W => plain_calls i hN W
  have hNm := fun W => Name_calls i.c W
  have hU := fun W => uses_calls i.c hN.c W
  unfold inV at *
  have hE : lineA i p = if plainI i = true ∧ 0 ≤ p then lineL i p.toNat else [] := rfl
  cases hpl : plainI i
  · rw [hpl] at hP
    have hR : str (lineA i p) = ⟨#[]⟩ := by rw [hE, if_neg (by rw [hpl]; simp)]; rfl
    rw [hR]
    clear hE hR
    have HhP := Lib.hid hP
    clear hP
    clear hNm hU ht
    refine (callsIn_wide (n := 4)).1 ?_
    refine callsIn_of_wp_marks Tryz.func33 rfl trivial ?_ rfl
    simp only [Tryz.ntmps33, List.size_toArray, List.length_cons, List.length_nil, Nat.reduceAdd, Nat.reduceSub, Array.replicate_succ, Array.replicate_zero, List.push_toArray, List.append_toArray, List.nil_append, List.cons_append]
    gi_wp2_with (refine ⟨trivial, ?_⟩; gi_at_call 45; refine (callsIn_wide.2 (HhP.out _)).mono ?_; rintro e w1 ⟨rfl, hx1⟩)
    exact ⟨_, results_tmp rfl _ _ _, rfl, ((Ext.refl w).alloc _).trans hx1⟩
  · by_cases hn : p < 0
    · rw [hpl] at hP
      have hR : str (lineA i p) = ⟨#[]⟩ := by rw [hE, if_neg (by omega)]; rfl
      have d1 : decide (p < 0) = true := decide_eq_true hn
      rw [hR]
      clear hE hR
      have HhP := Lib.hid hP
      clear hP
      clear hNm hU ht
      refine (callsIn_wide (n := 4)).1 ?_
      refine callsIn_of_wp_marks Tryz.func33 rfl trivial ?_ rfl
      simp only [Tryz.ntmps33, List.size_toArray, List.length_cons, List.length_nil, Nat.reduceAdd, Nat.reduceSub, Array.replicate_succ, Array.replicate_zero, List.push_toArray, List.append_toArray, List.nil_append, List.cons_append]
      gi_wp2_with (refine ⟨trivial, ?_⟩; gi_at_call 45; refine (callsIn_wide.2 (HhP.out _)).mono ?_; rintro e w1 ⟨rfl, hx1⟩)
      exact ⟨_, results_tmp rfl _ _ _, rfl, ((Ext.refl w).alloc _).trans hx1⟩
    · obtain ⟨q, rfl⟩ : ∃ q : Nat, p = (q : Int) := ⟨p.toNat, by omega⟩
      rw [hpl] at hP
      have hR : str (lineA i (q : Int)) = str (Lib.join (wordsL i q) [32]) := by rw [hE, if_pos ⟨hpl, by omega⟩, join_words]; rfl
      have d1 : decide ((q : Int) < 0) = false := decide_eq_false (by omega)
      rw [hR]
      clear hE hR
      obtain ⟨W0, hW0⟩ : ∃ W0, w.alloc (.cells #[.int .u16 (i.c : Int), .int .u8 (i.jt : Int), .int .u8 (i.jf : Int), .int .u32 (i.k : Int)] 34) = W0 := ⟨_, rfl⟩
      have hci : W0.heap[w.heap.size]? = some (.cells #[.int .u16 (i.c : Int), .int .u8 (i.jt : Int), .int .u8 (i.jf : Int), .int .u32 (i.k : Int)] 34 (0, 0)) := by rw [← hW0]; exact heap_alloc_new _ _
      have hXW0 : Ext w W0 := by rw [← hW0]; exact (Ext.refl w).alloc _
      obtain ⟨e0, e1, e2, e3⟩ := blk4 hci
      have hnm : (entry i.c).nm.length ≤ 6 := entry_nm_len i.c
      have hwl : wordsL i q = (entry i.c).nm :: ((if kU i.c = true then [dec i.k] else []) ++ (leadsL i q).map lab) := rfl
      obtain ⟨nm, hnmE⟩ : ∃ nm, nm = (entry i.c).nm := ⟨_, rfl⟩
      rw [← hnmE] at hNm hnm hwl
      have HNI := Lib.hid hN
      have HT := Lib.hid ht
      have Hhci := Lib.hid hci
      clear hci
      have HhP := Lib.hid hP
      clear hP
      have HhNm := Lib.hid hNm
      clear hNm
      have HhnmE := Lib.hid hnmE
      clear hnmE
      clear hN ht
      cases hkU : kU i.c
      · rw [hkU] at hU
        have HhU := Lib.hid hU
        clear hU
        refine (callsIn_wide (n := 4)).1 ?_
        refine callsIn_of_wp_marks Tryz.func33 rfl trivial ?_ rfl
        simp only [Tryz.ntmps33, List.size_toArray, List.length_cons, List.length_nil, Nat.reduceAdd, Nat.reduceSub, Array.replicate_succ, Array.replicate_zero, List.push_toArray, List.append_toArray, List.nil_append, List.cons_append]
        gi_upto_region 7 with (first
          | (refine ⟨trivial, ?_⟩; gi_at_call 45; refine (callsIn_wide.2 (HhP.out _)).mono ?_; rintro e w1 ⟨rfl, hx1⟩; replace e0 := hx1.cell e0; replace e1 := hx1.cell e1; replace e2 := hx1.cell e2; replace e3 := hx1.cell e3; have HX1 := Lib.hid hx1; clear hx1)
          | (refine ⟨trivial, ?_⟩; gi_at_call 49; refine (callsIn_wide.2 (HhNm.out _)).mono ?_; rintro e w2 ⟨rfl, hx2⟩; replace e0 := fun o o' => (((Ext.refl w2).alloc o).alloc o').cell (hx2.cell e0); clear e1 e2 e3; have HX2 := Lib.hid hx2; clear hx2)
          | (refine ⟨trivial, ?_⟩; gi_at_call 26; refine (callsIn_wide.2 (HhU.out _)).mono ?_; rintro e w3 ⟨rfl, hx3⟩; have HX3 := Lib.hid hx3; clear hx3 e0))
        have hx2w : Ext W0 w2 := HX1.out.trans HX2.out
        have hx2s := hx2w.size
        have hT0 : TL W0 (w2.heap.size + 1) [nm] (.slice (some ⟨w2.heap.size, 0, none⟩) 1 1) w3 := by
          refine TL.ext' (W := (w2.alloc (.cells #[.string (str nm)] 9)).alloc (.cells #[.slice (some ⟨w2.heap.size, 0, none⟩) 1 1] 54)) ⟨by omega, (hx2w.alloc _).alloc _, ?_, (own_lit encS_len w2 [nm] 9 w2.heap.size W0.heap.size rfl (by omega) (by simp [maxLen])).alloc _⟩ HX3.out
          have := Boxed.new (w2.alloc (.cells #[.string (str nm)] 9)) 54 (.slice (some ⟨w2.heap.size, 0, none⟩) 1 1)
          rw [World.size_alloc] at this; exact this
        have hci3 : w3.heap[w.heap.size]? = some (.cells #[.int .u16 (i.c : Int), .int .u8 (i.jt : Int), .int .u8 (i.jf : Int), .int .u32 (i.k : Int)] 34 (0, 0)) :=
          blk_ext4 (blk_ext4 (blk_ext4 Hhci.out HX1.out) HX2.out) (((Ext.refl w2).alloc _ |>.alloc _).trans HX3.out)
        obtain ⟨B, hBE⟩ : ∃ B, w2.heap.size + 1 = B := ⟨_, rfl⟩
        rw [hBE] at hT0 ⊢
        clear HX1 HX2 HX3 hBE
        have hciW := blk_ext4 Hhci.out hT0.ext
        obtain ⟨e0, e1, e2, e3⟩ := blk4 hciW
        have HTW := Lib.hid hT0
        clear hciW hT0
        gi_wp2_with (refine ⟨trivial, ?_⟩; gi_at_call 46; refine (callsIn_wide.2 (leads_calls i q _)).mono ?_; rintro e w1 ⟨rfl, rfl⟩)
        clear e0 e1 e2 e3
        have hW7 : ∃ W7, (w3.alloc (.cells #[.int .u16 (i.c : Int), .int .u8 (i.jt : Int), .int .u8 (i.jf : Int), .int .u32 (i.k : Int)] 34)).alloc (.cells #[.int .i64 (q : Int)] 3) = W7 ∧ W7.heap.size = w3.heap.size + 2 ∧ TL W0 B [nm] (.slice (some ⟨w2.heap.size, 0, none⟩) 1 1) W7 ∧ W7.heap[w3.heap.size]? = some (.cells #[.int .u16 (i.c : Int), .int .u8 (i.jt : Int), .int .u8 (i.jf : Int), .int .u32 (i.k : Int)] 34 (0, 0)) ∧ Boxed W7 (w3.heap.size + 1) 3 (.int .i64 (q : Int)) := by
          refine ⟨_, rfl, by simp, (HTW.out.ext' ((Ext.refl _).alloc _)).ext' ((Ext.refl _).alloc _), ?_, ?_⟩
          · exact (Below.heap_alloc _ _ _ (by simp)).trans (heap_alloc_new _ _)
          · have := Boxed.new (w3.alloc (.cells #[.int .u16 (i.c : Int), .int .u8 (i.jt : Int), .int .u8 (i.jf : Int), .int .u32 (i.k : Int)] 34)) 3 (.int .i64 (q : Int))
            rw [World.size_alloc] at this; exact this
        obtain ⟨W7, hW7, hs7, hT7, hci7, hca7⟩ := hW7
        rw [hW7]
        clear hW7
        have n4 : 1 ≤ 4 := by omega
        refine wpIn_rangeFunc_ownF rfl n4 (gf := 63) (lb := #[.pointer (some ⟨w3.heap.size, 0, none⟩), .pointer (some ⟨w3.heap.size + 1, 0, none⟩)]) rfl trivial (enters_of Tryz.func63 (by kernel_rfl) rfl)
          (leads_stops w3.heap.size (w3.heap.size + 1) (fun j => j = w3.heap.size ∨ j = w3.heap.size + 1) i q HNI.out (by omega) W7 (.inl rfl) (.inr rfl) hci7 hca7.cell) keepK_t (keepK_b (by omega)) (Below.refl _ _) (fun _ => rfl)
          (fun pre W' => (∃ u, TL W0 B ([nm] ++ pre.map (fun x => lab x.1)) u W') ∧ W'.heap[w3.heap.size]? = some (.cells #[.int .u16 (i.c : Int), .int .u8 (i.jt : Int), .int .u8 (i.jf : Int), .int .u32 (i.k : Int)] 34 (0, 0)) ∧ Boxed W' (w3.heap.size + 1) 3 (.int .i64 (q : Int)))
          (fun _ _ _ => False)
          (fun s A B' row hs hg hr => ⟨hs.1.imp fun u h => h.grow hg (fun r e => (hr r e).2) (fun r e => by have := (hr r e).1; have := HTW.out.ext.size; omega), (hg.block _ (Array.getElem?_eq_some_iff.1 hs.2.1).1 (fun e => by have := (hr _ e.symm).1; omega)).trans hs.2.1, hs.2.2.kept hg (fun e => by have := (hr _ e.symm).1; omega)⟩)
          (fun _ _ _ _ _ hs _ _ => hs)
          ⟨⟨_, by rw [List.map_nil, List.append_nil]; exact hT7⟩, hci7, hca7⟩
          (fun x => { tmps := #[.agg #[.int .u16 (i.c : Int), .int .u8 (i.jt : Int), .int .u8 (i.jf : Int), .int .u32 (i.k : Int)], .int .i64 (q : Int), .pointer (some ⟨w.heap.size, 0, none⟩), undef, .string ⟨#[]⟩, .pointer (some ⟨B, 0, none⟩), .bool false, .bool (oneU i.c), .bool (twoU i.c), .int .i64 (x.1 : Int), .agg #[.int .u16 (i.c : Int), .int .u8 (i.jt : Int), .int .u8 (i.jf : Int), .int .u32 (i.k : Int)], .bool true, .bool false, .bool false, .int .i64 (q : Int), .bool false, .bool false, .pointer (some ⟨w.heap.size, 0, none⟩), .int .u16 (i.c : Int), .string (str nm), .slice (some ⟨w2.heap.size, 0, none⟩) 1 1, .tuple #[.bool false, .bool (oneU i.c), .bool (twoU i.c)], .pointer (some ⟨w.heap.size, 0, none⟩), .int .u16 (i.c : Int), .tuple #[.bool false, .bool (oneU i.c), .bool (twoU i.c)], .bool false, .bool (oneU i.c), .bool (twoU i.c), .bool false, undef, undef, undef, undef, undef, undef, undef, .agg #[.int .u16 (i.c : Int), .int .u8 (i.jt : Int), .int .u8 (i.jf : Int), .int .u32 (i.k : Int)], .int .i64 (q : Int), .func (.func 63) #[] #[.pointer (some ⟨w3.heap.size, 0, none⟩), .pointer (some ⟨w3.heap.size + 1, 0, none⟩)], .int .i64 (x.1 : Int), undef, undef, undef, undef, undef, undef, undef], defers := [] }) ?assign ?body ?done ?stop
        case assign =>
          intro l x W' K hK
          gi_wp2
          first | exact hK | (simp; exact hK)
        case body =>
          rintro l pre x W' ⟨⟨u, hTu⟩, hciu, hcau⟩ hlen
          have hll := leads_len i q
          have hbd : ([nm] ++ pre.map (fun x : Pl => lab x.1)).length + [lab x.1].length ≤ 100000000 := by simp; omega
          obtain ⟨n9, hn9⟩ : ∃ n9, ([nm] ++ pre.map (fun x : Pl => lab x.1)).length + [lab x.1].length = n9 := ⟨_, rfl⟩
          have Hhn9 := Lib.hid hn9
          clear hn9
          have HS : Hid (∀ k, (k = w3.heap.size ∨ k = w3.heap.size + 1) → k ≠ B ∧ ∃ cs t, W'.heap[k]? = some (.cells cs t (0, 0)) ∧ t ≠ 9) := Lib.hid (fun k hk => by
            have := HTW.out.box.lt
            rcases hk with rfl | rfl
            · exact ⟨by omega, _, _, hciu, by decide⟩
            · exact ⟨by omega, _, _, hcau, by decide⟩)
          have hL := fun W h => label_calls x.1 (by have := x.2; omega) W h
          have cB := hTu.box.cell
          have HTu := Lib.hid hTu
          have HhL := Lib.hid hL
          clear hL
          clear hTu
          gi_upto_region 9 with fail
          refine wpIn_region_any (by kernel_rfl) ?_
          change wpAnyIn _ _ _ _ _ _ _ _ _ (World.drew _)
          refine wpAnyIn_ready (rs := [0, 1]) (by kernel_rfl) (by simp) ?_
          refine AllReadyIn.cons rfl (fun K hK => ?_) (AllReadyIn.cons rfl (fun K hK => ?_) AllReadyIn.nil)
          · go_simp; refine hK _ _ ?_; clear hK K
            refine wpAnyIn_ready (rs := [1]) (by kernel_rfl) (by simp) ?_
            refine AllReadyIn.cons rfl (fun K hK => ?_) AllReadyIn.nil
            go_simp; refine hK _ _ ?_; clear hK K
            refine wpAnyIn_ready (rs := [2]) (by kernel_rfl) (by simp) ?_
            refine AllReadyIn.cons rfl (fun K hK => ?_) AllReadyIn.nil
            go_simp
            refine ⟨trivial, ?_⟩
            gi_at_call 32
            refine (CallsIn.inRound l (callsIn_wide.2 (HhL.out _ (HT.out.ext (hXW0.trans (by first | exact HTu.out.ext.drew | exact HTu.out.ext)))))).mono ?_
            rintro e w8 ⟨rfl, hx8⟩
            replace hx8 : Ext W' w8 := Ext.trans (by first | exact (Ext.refl _).drew | exact Ext.refl _) hx8
            have hT8 := HTu.out.ext' hx8
            have cB := hT8.box.cell
            have cBo := fun o => ((Ext.refl w8).alloc o).cell cB
            have HT8 := Lib.hid (hT8.ext' ((Ext.refl w8).alloc (.cells #[.string (str (lab x.1))] 9)))
            have HX8 := Lib.hid hx8
            clear hx8 hT8
            refine hK _ _ ?_
            clear hK K
            refine wpAnyIn_ready (rs := [3]) (by kernel_rfl) (by simp) ?_
            refine AllReadyIn.cons rfl (fun K hK => ?_) AllReadyIn.nil
            go_simp; refine hK _ _ ?_; clear hK K
            refine wpAnyIn_ready (rs := [4]) (by kernel_rfl) (by simp) ?_
            refine AllReadyIn.cons rfl (fun K hK => ?_) AllReadyIn.nil
            refine stepIn_app_g rfl (.tmp 40) (.tmp 43) 54 rfl Tryz.underlying54 infoStr rfl (by decide) encS_len encS_one W0.heap.size _ _ _ [lab x.1] (by rfl) (by rfl) HT8.out.own (rd_lit encS_len w8 [lab x.1] 9 _ rfl) hbd (by decide) HT8.out.ext.size ?_
            intro au cu w9 ho9 hg9
            rw [Hhn9.out] at ho9 ⊢
            have hb9 := HT8.out.box.kept hg9 (fun e => Boxed.not_row HT8.out.box (by decide) HT8.out.own e)
            have c9 := hb9.cell
            have f9 := hb9.frozen
            have HO9 := Lib.hid (And.intro ho9 hg9)
            clear ho9 hg9 hb9
            refine hK _ _ ?_
            clear hK K
            refine wpAnyIn_ready (rs := [5]) (by kernel_rfl) (by simp) ?_
            refine AllReadyIn.cons rfl (fun K hK => ?_) AllReadyIn.nil
            go_simp; refine hK _ _ ?_; clear hK K
            refine wpAnyIn_done (by kernel_rfl) ?_ _
            gi_wp2
            have hfin := TL.appended (x := lab x.1) (k := n9) HT8.out HO9.out.2 (by rw [← Hhn9.out]; rfl) HO9.out.1
            obtain ⟨k1, k2⟩ := round_end (HX8.out.alloc _) HT8.out HO9.out.2 HS.out (.slice au n9 cu)
            exact ⟨k1, k2, ⟨_, by rw [List.map_append, List.map_cons, List.map_nil, ← List.append_assoc]; exact hfin⟩, (k2.block _ (.inl rfl)).trans hciu, (k2.block _ (.inr rfl)).trans hcau⟩
          · go_simp; refine hK _ _ ?_; clear hK K
            refine wpAnyIn_ready (rs := [0, 2]) (by kernel_rfl) (by simp) ?_
            refine AllReadyIn.cons rfl (fun K hK => ?_) (AllReadyIn.cons rfl (fun K hK => ?_) AllReadyIn.nil)
            · go_simp; refine hK _ _ ?_; clear hK K
              refine wpAnyIn_ready (rs := [2]) (by kernel_rfl) (by simp) ?_
              refine AllReadyIn.cons rfl (fun K hK => ?_) AllReadyIn.nil
              go_simp
              refine ⟨trivial, ?_⟩
              gi_at_call 32
              refine (CallsIn.inRound l (callsIn_wide.2 (HhL.out _ (HT.out.ext (hXW0.trans (by first | exact HTu.out.ext.drew | exact HTu.out.ext)))))).mono ?_
              rintro e w8 ⟨rfl, hx8⟩
              replace hx8 : Ext W' w8 := Ext.trans (by first | exact (Ext.refl _).drew | exact Ext.refl _) hx8
              have hT8 := HTu.out.ext' hx8
              have cB := hT8.box.cell
              have cBo := fun o => ((Ext.refl w8).alloc o).cell cB
              have HT8 := Lib.hid (hT8.ext' ((Ext.refl w8).alloc (.cells #[.string (str (lab x.1))] 9)))
              have HX8 := Lib.hid hx8
              clear hx8 hT8
              refine hK _ _ ?_
              clear hK K
              refine wpAnyIn_ready (rs := [3]) (by kernel_rfl) (by simp) ?_
              refine AllReadyIn.cons rfl (fun K hK => ?_) AllReadyIn.nil
              go_simp; refine hK _ _ ?_; clear hK K
              refine wpAnyIn_ready (rs := [4]) (by kernel_rfl) (by simp) ?_
              refine AllReadyIn.cons rfl (fun K hK => ?_) AllReadyIn.nil
              refine stepIn_app_g rfl (.tmp 40) (.tmp 43) 54 rfl Tryz.underlying54 infoStr rfl (by decide) encS_len encS_one W0.heap.size _ _ _ [lab x.1] (by rfl) (by rfl) HT8.out.own (rd_lit encS_len w8 [lab x.1] 9 _ rfl) hbd (by decide) HT8.out.ext.size ?_
              intro au cu w9 ho9 hg9
              rw [Hhn9.out] at ho9 ⊢
              have hb9 := HT8.out.box.kept hg9 (fun e => Boxed.not_row HT8.out.box (by decide) HT8.out.own e)
              have c9 := hb9.cell
              have f9 := hb9.frozen
              have HO9 := Lib.hid (And.intro ho9 hg9)
              clear ho9 hg9 hb9
              refine hK _ _ ?_
              clear hK K
              refine wpAnyIn_ready (rs := [5]) (by kernel_rfl) (by simp) ?_
              refine AllReadyIn.cons rfl (fun K hK => ?_) AllReadyIn.nil
              go_simp; refine hK _ _ ?_; clear hK K
              refine wpAnyIn_done (by kernel_rfl) ?_ _
              gi_wp2
              have hfin := TL.appended (x := lab x.1) (k := n9) HT8.out HO9.out.2 (by rw [← Hhn9.out]; rfl) HO9.out.1
              obtain ⟨k1, k2⟩ := round_end (HX8.out.alloc _) HT8.out HO9.out.2 HS.out (.slice au n9 cu)
              exact ⟨k1, k2, ⟨_, by rw [List.map_append, List.map_cons, List.map_nil, ← List.append_assoc]; exact hfin⟩, (k2.block _ (.inl rfl)).trans hciu, (k2.block _ (.inr rfl)).trans hcau⟩
            · go_simp
              refine ⟨trivial, ?_⟩
              gi_at_call 32
              refine (CallsIn.inRound l (callsIn_wide.2 (HhL.out _ (HT.out.ext (hXW0.trans (by first | exact HTu.out.ext.drew | exact HTu.out.ext)))))).mono ?_
              rintro e w8 ⟨rfl, hx8⟩
              replace hx8 : Ext W' w8 := Ext.trans (by first | exact (Ext.refl _).drew | exact Ext.refl _) hx8
              have hT8 := HTu.out.ext' hx8
              have cB := hT8.box.cell
              have cBo := fun o => ((Ext.refl w8).alloc o).cell cB
              have HT8 := Lib.hid (hT8.ext' ((Ext.refl w8).alloc (.cells #[.string (str (lab x.1))] 9)))
              have HX8 := Lib.hid hx8
              clear hx8 hT8
              refine hK _ _ ?_
              clear hK K
              refine wpAnyIn_ready (rs := [0, 3]) (by kernel_rfl) (by simp) ?_
              refine AllReadyIn.cons rfl (fun K hK => ?_) (AllReadyIn.cons rfl (fun K hK => ?_) AllReadyIn.nil)
              · go_simp; refine hK _ _ ?_; clear hK K
                refine wpAnyIn_ready (rs := [3]) (by kernel_rfl) (by simp) ?_
                refine AllReadyIn.cons rfl (fun K hK => ?_) AllReadyIn.nil
                go_simp; refine hK _ _ ?_; clear hK K
                refine wpAnyIn_ready (rs := [4]) (by kernel_rfl) (by simp) ?_
                refine AllReadyIn.cons rfl (fun K hK => ?_) AllReadyIn.nil
                refine stepIn_app_g rfl (.tmp 40) (.tmp 43) 54 rfl Tryz.underlying54 infoStr rfl (by decide) encS_len encS_one W0.heap.size _ _ _ [lab x.1] (by rfl) (by rfl) HT8.out.own (rd_lit encS_len w8 [lab x.1] 9 _ rfl) hbd (by decide) HT8.out.ext.size ?_
                intro au cu w9 ho9 hg9
                rw [Hhn9.out] at ho9 ⊢
                have hb9 := HT8.out.box.kept hg9 (fun e => Boxed.not_row HT8.out.box (by decide) HT8.out.own e)
                have c9 := hb9.cell
                have f9 := hb9.frozen
                have HO9 := Lib.hid (And.intro ho9 hg9)
                clear ho9 hg9 hb9
                refine hK _ _ ?_
                clear hK K
                refine wpAnyIn_ready (rs := [5]) (by kernel_rfl) (by simp) ?_
                refine AllReadyIn.cons rfl (fun K hK => ?_) AllReadyIn.nil
                go_simp; refine hK _ _ ?_; clear hK K
                refine wpAnyIn_done (by kernel_rfl) ?_ _
                gi_wp2
                have hfin := TL.appended (x := lab x.1) (k := n9) HT8.out HO9.out.2 (by rw [← Hhn9.out]; rfl) HO9.out.1
                obtain ⟨k1, k2⟩ := round_end (HX8.out.alloc _) HT8.out HO9.out.2 HS.out (.slice au n9 cu)
                exact ⟨k1, k2, ⟨_, by rw [List.map_append, List.map_cons, List.map_nil, ← List.append_assoc]; exact hfin⟩, (k2.block _ (.inl rfl)).trans hciu, (k2.block _ (.inr rfl)).trans hcau⟩
              · go_simp; refine hK _ _ ?_; clear hK K
                refine wpAnyIn_ready (rs := [0]) (by kernel_rfl) (by simp) ?_
                refine AllReadyIn.cons rfl (fun K hK => ?_) AllReadyIn.nil
                go_simp; refine hK _ _ ?_; clear hK K
                refine wpAnyIn_ready (rs := [4]) (by kernel_rfl) (by simp) ?_
                refine AllReadyIn.cons rfl (fun K hK => ?_) AllReadyIn.nil
                refine stepIn_app_g rfl (.tmp 40) (.tmp 43) 54 rfl Tryz.underlying54 infoStr rfl (by decide) encS_len encS_one W0.heap.size _ _ _ [lab x.1] (by rfl) (by rfl) HT8.out.own (rd_lit encS_len w8 [lab x.1] 9 _ rfl) hbd (by decide) HT8.out.ext.size ?_
                intro au cu w9 ho9 hg9
                rw [Hhn9.out] at ho9 ⊢
                have hb9 := HT8.out.box.kept hg9 (fun e => Boxed.not_row HT8.out.box (by decide) HT8.out.own e)
                have c9 := hb9.cell
                have f9 := hb9.frozen
                have HO9 := Lib.hid (And.intro ho9 hg9)
                clear ho9 hg9 hb9
                refine hK _ _ ?_
                clear hK K
                refine wpAnyIn_ready (rs := [5]) (by kernel_rfl) (by simp) ?_
                refine AllReadyIn.cons rfl (fun K hK => ?_) AllReadyIn.nil
                go_simp; refine hK _ _ ?_; clear hK K
                refine wpAnyIn_done (by kernel_rfl) ?_ _
                gi_wp2
                have hfin := TL.appended (x := lab x.1) (k := n9) HT8.out HO9.out.2 (by rw [← Hhn9.out]; rfl) HO9.out.1
                obtain ⟨k1, k2⟩ := round_end (HX8.out.alloc _) HT8.out HO9.out.2 HS.out (.slice au n9 cu)
                exact ⟨k1, k2, ⟨_, by rw [List.map_append, List.map_cons, List.map_nil, ← List.append_assoc]; exact hfin⟩, (k2.block _ (.inl rfl)).trans hciu, (k2.block _ (.inr rfl)).trans hcau⟩
        case done =>
          rintro D ys W' hD hys ⟨⟨u, hTu⟩, hciu, hcau⟩ hK
          have cB := hTu.box.cell
          have hws : [nm] ++ ys.map (fun x : Pl => lab x.1) = wordsL i q := by
            rw [hwl, hkU, ← hys, List.map_map]
            rw [if_neg (by simp)]; rfl
          rw [hws] at hTu
          have hjl : (Lib.join (wordsL i q) [32]).length ≤ 100000 := by rw [join_words]; exact Nat.le_trans (line_len HNI.out (by omega)) (by omega)
          have hwn : 0 < (wordsL i q).length ∧ (wordsL i q).length ≤ 100000 := by
            rw [← hws]; have h1 := leads_len i q; rw [← hys, List.length_map] at h1
            simp; omega
          have hJ := fun W' (h : W'.ownsRow W0.heap.size 9 1 u (wordsL i q).length ((wordsL i q).flatMap encS)) => joined_calls (wordsL i q) u W0.heap.size W' h hwn.1 hwn.2 hjl
          have HDn := Lib.hid (And.intro hD (And.intro hTu hK))
          clear hD hys hK hciu hcau hws hwn hjl hTu hwl
          have HhJ := Lib.hid hJ
          clear hJ
          gi_wp2_with (refine ⟨trivial, ?_⟩; gi_at_call 51; refine (callsIn_wide.2 (HhJ.out _ HDn.out.2.1.own)).mono ?_; rintro e w9 ⟨rfl, hx9⟩)
          have hK9 := (hx9.block (Array.getElem?_eq_some_iff.1 HDn.out.2.2).1).trans HDn.out.2.2
          refine ⟨by simp, .inl ⟨_, _, rfl, run_takeDeferred hK9, ?_⟩⟩
          refine ⟨_, results_tmp rfl _ _ _, rfl, ?_⟩
          have hXW := HDn.out.2.1.ext.trans hx9
          have hD1 := HDn.out.1
          have hs9 := HTW.out.ext.size
          have hs0 := hXW0.size
          exact Ext.trans hXW0 ⟨hXW.os, hXW.tape, hXW.output, by have := hXW.size; simp; omega, fun j hj => (World.putObj_heap_other (by omega)).trans (hXW.block hj)⟩
        case stop =>
          rintro D c pre W _ _ h _
          exact h.elim
      · rw [hkU] at hU
        have HhU := Lib.hid hU
        clear hU
        refine (callsIn_wide (n := 4)).1 ?_
        refine callsIn_of_wp_marks Tryz.func33 rfl trivial ?_ rfl
        simp only [Tryz.ntmps33, List.size_toArray, List.length_cons, List.length_nil, Nat.reduceAdd, Nat.reduceSub, Array.replicate_succ, Array.replicate_zero, List.push_toArray, List.append_toArray, List.nil_append, List.cons_append]
        gi_upto_region 6 with (first
          | (refine ⟨trivial, ?_⟩; gi_at_call 45; refine (callsIn_wide.2 (HhP.out _)).mono ?_; rintro e w1 ⟨rfl, hx1⟩; replace e0 := hx1.cell e0; replace e1 := hx1.cell e1; replace e2 := hx1.cell e2; replace e3 := hx1.cell e3; have HX1 := Lib.hid hx1; clear hx1)
          | (refine ⟨trivial, ?_⟩; gi_at_call 49; refine (callsIn_wide.2 (HhNm.out _)).mono ?_; rintro e w2 ⟨rfl, hx2⟩; replace e0 := fun o o' => (((Ext.refl w2).alloc o).alloc o').cell (hx2.cell e0); clear e1 e2 e3; have HX2 := Lib.hid hx2; clear hx2)
          | (refine ⟨trivial, ?_⟩; gi_at_call 26; refine (callsIn_wide.2 (HhU.out _)).mono ?_; rintro e w3 ⟨rfl, hx3⟩; have HX3 := Lib.hid hx3; clear hx3 e0))
        have hx2w : Ext W0 w2 := HX1.out.trans HX2.out
        have hx2s := hx2w.size
        have hT0 : TL W0 (w2.heap.size + 1) [nm] (.slice (some ⟨w2.heap.size, 0, none⟩) 1 1) w3 := by
          refine TL.ext' (W := (w2.alloc (.cells #[.string (str nm)] 9)).alloc (.cells #[.slice (some ⟨w2.heap.size, 0, none⟩) 1 1] 54)) ⟨by omega, (hx2w.alloc _).alloc _, ?_, (own_lit encS_len w2 [nm] 9 w2.heap.size W0.heap.size rfl (by omega) (by simp [maxLen])).alloc _⟩ HX3.out
          have := Boxed.new (w2.alloc (.cells #[.string (str nm)] 9)) 54 (.slice (some ⟨w2.heap.size, 0, none⟩) 1 1)
          rw [World.size_alloc] at this; exact this
        have hci3 : w3.heap[w.heap.size]? = some (.cells #[.int .u16 (i.c : Int), .int .u8 (i.jt : Int), .int .u8 (i.jf : Int), .int .u32 (i.k : Int)] 34 (0, 0)) :=
          blk_ext4 (blk_ext4 (blk_ext4 Hhci.out HX1.out) HX2.out) (((Ext.refl w2).alloc _ |>.alloc _).trans HX3.out)
        obtain ⟨B, hBE⟩ : ∃ B, w2.heap.size + 1 = B := ⟨_, rfl⟩
        rw [hBE] at hT0 ⊢
        clear HX1 HX2 HX3 hBE
        have hF := fun W (h : Tab W) => FormatUint_calls i.k (by have := HNI.out.k; omega) W h
        have hkw : IntKind.u64.wrap (i.k : Int) = (i.k : Int) := by have := HNI.out.k; simp [IntKind.wrap, IntKind.signed, IntKind.bits]; omega
        obtain ⟨dk, hdk⟩ : ∃ dk, dk = dec i.k := ⟨_, rfl⟩
        rw [← hdk] at hF
        have Hhdk := Lib.hid hdk
        clear hdk
        obtain ⟨e0, e1, e2, e3⟩ := blk4 hci3
        have cB := hT0.box.cell
        have e3o := fun o => ((Ext.refl w3).alloc o).cell e3
        have HhF := Lib.hid hF
        clear hF
        have Hhci3 := Lib.hid hci3
        clear hci3
        have HT0 := Lib.hid hT0
        clear hT0 e0 e1 e2
        refine wpIn_wide.2 (wp_mono (Q := fun
          | .normal, a', W' => ∃ u29 u30 u31 u32 u33 u34 u35, TL W0 B [nm, dk] u35 W' ∧ a' = { tmps := #[.agg #[.int .u16 (i.c : Int), .int .u8 (i.jt : Int), .int .u8 (i.jf : Int), .int .u32 (i.k : Int)], .int .i64 (q : Int), .pointer (some ⟨w.heap.size, 0, none⟩), undef, .string ⟨#[]⟩, .pointer (some ⟨B, 0, none⟩), .bool true, .bool (oneU i.c), .bool (twoU i.c), undef, .agg #[.int .u16 (i.c : Int), .int .u8 (i.jt : Int), .int .u8 (i.jf : Int), .int .u32 (i.k : Int)], .bool true, .bool false, .bool false, .int .i64 (q : Int), .bool false, .bool false, .pointer (some ⟨w.heap.size, 0, none⟩), .int .u16 (i.c : Int), .string (str nm), .slice (some ⟨w2.heap.size, 0, none⟩) 1 1, .tuple #[.bool true, .bool (oneU i.c), .bool (twoU i.c)], .pointer (some ⟨w.heap.size, 0, none⟩), .int .u16 (i.c : Int), .tuple #[.bool true, .bool (oneU i.c), .bool (twoU i.c)], .bool true, .bool (oneU i.c), .bool (twoU i.c), .bool true, u29, u30, u31, u32, u33, u34, u35, undef, undef, undef, undef, undef, undef, undef, undef, undef, undef, undef], defers := [] }
          | _, _, _ => False) ?reg ?rest)
        case reg =>
          (go_region_law (first
            | (refine step_app_g rfl (.tmp 29) (.tmp 34) 54 rfl Tryz.underlying54 infoStr rfl (by decide) encS_len encS_one W0.heap.size (.slice (some ⟨w2.heap.size, 0, none⟩) 1 1) (.slice (some ⟨w4.heap.size, 0, none⟩) 1 1) [nm] [dk] (by rfl) (by rfl) (by exact HT4.out.own.alloc _) (rd_lit encS_len w4 [dk] _ _ rfl) (by simp) (by decide) (by have := HT4.out.ext.size; simp; omega) ?_; intro au5 cu5 w5 ho5 hg5; have HG5 := Lib.hid hg5; have HO5 := Lib.hid ho5; have hb5 := (HT4.out.box.alloc _).kept hg5 (fun e => Boxed.not_row HT4.out.box (by decide) HT4.out.own e); have c5 := hb5.cell; have f5 := hb5.frozen; have HB5 := Lib.hid hb5; clear ho5 hg5 hb5)
            | (go_simp; refine (HhF.out _ (HT.out.ext (hXW0.trans (by first | exact HT0.out.ext.drew | exact HT0.out.ext)))).mono ?_; rintro e w4 ⟨rfl, hx4⟩; replace hx4 : Ext w3 w4 := Ext.trans (by first | exact (Ext.refl _).drew | exact Ext.refl _) hx4; have hT4 := HT0.out.ext' hx4; have cB := hT4.box.cell; have cBo := fun o => ((Ext.refl w4).alloc o).cell cB; have HT4 := Lib.hid hT4; have HX4 := Lib.hid hx4; clear hx4 hT4)))
          all_goals
            have hfin := (HT4.out.ext' ((Ext.refl w4).alloc (.cells #[.string (str dk)] 9))).appended HG5.out rfl (x := dk) HO5.out
            exact ⟨_, _, _, _, _, _, _, hfin, rfl⟩
        rintro e a' w6 hq
        cases e
        case normal =>
          obtain ⟨u29, u30, u31, u32, u33, u34, u35, hT6, rfl⟩ := hq
          gi_upto_region 7 with fail
          have hciW := blk_ext4 Hhci.out hT6.ext
          obtain ⟨e0, e1, e2, e3⟩ := blk4 hciW
          have HTW := Lib.hid hT6
          clear hciW hT6
          gi_wp2_with (refine ⟨trivial, ?_⟩; gi_at_call 46; refine (callsIn_wide.2 (leads_calls i q _)).mono ?_; rintro e w1 ⟨rfl, rfl⟩)
          clear e0 e1 e2 e3
          have hW7 : ∃ W7, (w6.alloc (.cells #[.int .u16 (i.c : Int), .int .u8 (i.jt : Int), .int .u8 (i.jf : Int), .int .u32 (i.k : Int)] 34)).alloc (.cells #[.int .i64 (q : Int)] 3) = W7 ∧ W7.heap.size = w6.heap.size + 2 ∧ TL W0 B [nm, dk] u35 W7 ∧ W7.heap[w6.heap.size]? = some (.cells #[.int .u16 (i.c : Int), .int .u8 (i.jt : Int), .int .u8 (i.jf : Int), .int .u32 (i.k : Int)] 34 (0, 0)) ∧ Boxed W7 (w6.heap.size + 1) 3 (.int .i64 (q : Int)) := by
            refine ⟨_, rfl, by simp, (HTW.out.ext' ((Ext.refl _).alloc _)).ext' ((Ext.refl _).alloc _), ?_, ?_⟩
            · exact (Below.heap_alloc _ _ _ (by simp)).trans (heap_alloc_new _ _)
            · have := Boxed.new (w6.alloc (.cells #[.int .u16 (i.c : Int), .int .u8 (i.jt : Int), .int .u8 (i.jf : Int), .int .u32 (i.k : Int)] 34)) 3 (.int .i64 (q : Int))
              rw [World.size_alloc] at this; exact this
          obtain ⟨W7, hW7, hs7, hT7, hci7, hca7⟩ := hW7
          rw [hW7]
          clear hW7
          have n4 : 1 ≤ 4 := by omega
          refine wpIn_rangeFunc_ownF rfl n4 (gf := 63) (lb := #[.pointer (some ⟨w6.heap.size, 0, none⟩), .pointer (some ⟨w6.heap.size + 1, 0, none⟩)]) rfl trivial (enters_of Tryz.func63 (by kernel_rfl) rfl)
            (leads_stops w6.heap.size (w6.heap.size + 1) (fun j => j = w6.heap.size ∨ j = w6.heap.size + 1) i q HNI.out (by omega) W7 (.inl rfl) (.inr rfl) hci7 hca7.cell) keepK_t (keepK_b (by omega)) (Below.refl _ _) (fun _ => rfl)
            (fun pre W' => (∃ u, TL W0 B ([nm, dk] ++ pre.map (fun x => lab x.1)) u W') ∧ W'.heap[w6.heap.size]? = some (.cells #[.int .u16 (i.c : Int), .int .u8 (i.jt : Int), .int .u8 (i.jf : Int), .int .u32 (i.k : Int)] 34 (0, 0)) ∧ Boxed W' (w6.heap.size + 1) 3 (.int .i64 (q : Int)))
            (fun _ _ _ => False)
            (fun s A B' row hs hg hr => ⟨hs.1.imp fun u h => h.grow hg (fun r e => (hr r e).2) (fun r e => by have := (hr r e).1; have := HTW.out.ext.size; omega), (hg.block _ (Array.getElem?_eq_some_iff.1 hs.2.1).1 (fun e => by have := (hr _ e.symm).1; omega)).trans hs.2.1, hs.2.2.kept hg (fun e => by have := (hr _ e.symm).1; omega)⟩)
            (fun _ _ _ _ _ hs _ _ => hs)
            ⟨⟨_, by rw [List.map_nil, List.append_nil]; exact hT7⟩, hci7, hca7⟩
            (fun x => { tmps := #[.agg #[.int .u16 (i.c : Int), .int .u8 (i.jt : Int), .int .u8 (i.jf : Int), .int .u32 (i.k : Int)], .int .i64 (q : Int), .pointer (some ⟨w.heap.size, 0, none⟩), undef, .string ⟨#[]⟩, .pointer (some ⟨B, 0, none⟩), .bool true, .bool (oneU i.c), .bool (twoU i.c), .int .i64 (x.1 : Int), .agg #[.int .u16 (i.c : Int), .int .u8 (i.jt : Int), .int .u8 (i.jf : Int), .int .u32 (i.k : Int)], .bool true, .bool false, .bool false, .int .i64 (q : Int), .bool false, .bool false, .pointer (some ⟨w.heap.size, 0, none⟩), .int .u16 (i.c : Int), .string (str nm), .slice (some ⟨w2.heap.size, 0, none⟩) 1 1, .tuple #[.bool true, .bool (oneU i.c), .bool (twoU i.c)], .pointer (some ⟨w.heap.size, 0, none⟩), .int .u16 (i.c : Int), .tuple #[.bool true, .bool (oneU i.c), .bool (twoU i.c)], .bool true, .bool (oneU i.c), .bool (twoU i.c), .bool true, u29, u30, u31, u32, u33, u34, u35, .agg #[.int .u16 (i.c : Int), .int .u8 (i.jt : Int), .int .u8 (i.jf : Int), .int .u32 (i.k : Int)], .int .i64 (q : Int), .func (.func 63) #[] #[.pointer (some ⟨w6.heap.size, 0, none⟩), .pointer (some ⟨w6.heap.size + 1, 0, none⟩)], .int .i64 (x.1 : Int), undef, undef, undef, undef, undef, undef, undef], defers := [] }) ?assign ?body ?done ?stop
          case assign =>
            intro l x W' K hK
            gi_wp2
            first | exact hK | (simp; exact hK)
          case body =>
            rintro l pre x W' ⟨⟨u, hTu⟩, hciu, hcau⟩ hlen
            have hll := leads_len i q
            have hbd : ([nm, dk] ++ pre.map (fun x : Pl => lab x.1)).length + [lab x.1].length ≤ 100000000 := by simp; omega
            obtain ⟨n9, hn9⟩ : ∃ n9, ([nm, dk] ++ pre.map (fun x : Pl => lab x.1)).length + [lab x.1].length = n9 := ⟨_, rfl⟩
            have Hhn9 := Lib.hid hn9
            clear hn9
            have HS : Hid (∀ k, (k = w6.heap.size ∨ k = w6.heap.size + 1) → k ≠ B ∧ ∃ cs t, W'.heap[k]? = some (.cells cs t (0, 0)) ∧ t ≠ 9) := Lib.hid (fun k hk => by
              have := HTW.out.box.lt
              rcases hk with rfl | rfl
              · exact ⟨by omega, _, _, hciu, by decide⟩
              · exact ⟨by omega, _, _, hcau, by decide⟩)
            have hL := fun W h => label_calls x.1 (by have := x.2; omega) W h
            have cB := hTu.box.cell
            have HTu := Lib.hid hTu
            have HhL := Lib.hid hL
            clear hL
            clear hTu
            gi_upto_region 9 with fail
            refine wpIn_region_any (by kernel_rfl) ?_
            change wpAnyIn _ _ _ _ _ _ _ _ _ (World.drew _)
            refine wpAnyIn_ready (rs := [0, 1]) (by kernel_rfl) (by simp) ?_
            refine AllReadyIn.cons rfl (fun K hK => ?_) (AllReadyIn.cons rfl (fun K hK => ?_) AllReadyIn.nil)
            · go_simp; refine hK _ _ ?_; clear hK K
              refine wpAnyIn_ready (rs := [1]) (by kernel_rfl) (by simp) ?_
              refine AllReadyIn.cons rfl (fun K hK => ?_) AllReadyIn.nil
              go_simp; refine hK _ _ ?_; clear hK K
              refine wpAnyIn_ready (rs := [2]) (by kernel_rfl) (by simp) ?_
              refine AllReadyIn.cons rfl (fun K hK => ?_) AllReadyIn.nil
              go_simp
              refine ⟨trivial, ?_⟩
              gi_at_call 32
              refine (CallsIn.inRound l (callsIn_wide.2 (HhL.out _ (HT.out.ext (hXW0.trans (by first | exact HTu.out.ext.drew | exact HTu.out.ext)))))).mono ?_
              rintro e w8 ⟨rfl, hx8⟩
              replace hx8 : Ext W' w8 := Ext.trans (by first | exact (Ext.refl _).drew | exact Ext.refl _) hx8
              have hT8 := HTu.out.ext' hx8
              have cB := hT8.box.cell
              have cBo := fun o => ((Ext.refl w8).alloc o).cell cB
              have HT8 := Lib.hid (hT8.ext' ((Ext.refl w8).alloc (.cells #[.string (str (lab x.1))] 9)))
              have HX8 := Lib.hid hx8
              clear hx8 hT8
              refine hK _ _ ?_
              clear hK K
              refine wpAnyIn_ready (rs := [3]) (by kernel_rfl) (by simp) ?_
              refine AllReadyIn.cons rfl (fun K hK => ?_) AllReadyIn.nil
              go_simp; refine hK _ _ ?_; clear hK K
              refine wpAnyIn_ready (rs := [4]) (by kernel_rfl) (by simp) ?_
              refine AllReadyIn.cons rfl (fun K hK => ?_) AllReadyIn.nil
              refine stepIn_app_g rfl (.tmp 40) (.tmp 43) 54 rfl Tryz.underlying54 infoStr rfl (by decide) encS_len encS_one W0.heap.size _ _ _ [lab x.1] (by rfl) (by rfl) HT8.out.own (rd_lit encS_len w8 [lab x.1] 9 _ rfl) hbd (by decide) HT8.out.ext.size ?_
              intro au cu w9 ho9 hg9
              rw [Hhn9.out] at ho9 ⊢
              have hb9 := HT8.out.box.kept hg9 (fun e => Boxed.not_row HT8.out.box (by decide) HT8.out.own e)
              have c9 := hb9.cell
              have f9 := hb9.frozen
              have HO9 := Lib.hid (And.intro ho9 hg9)
              clear ho9 hg9 hb9
              refine hK _ _ ?_
              clear hK K
              refine wpAnyIn_ready (rs := [5]) (by kernel_rfl) (by simp) ?_
              refine AllReadyIn.cons rfl (fun K hK => ?_) AllReadyIn.nil
              go_simp; refine hK _ _ ?_; clear hK K
              refine wpAnyIn_done (by kernel_rfl) ?_ _
              gi_wp2
              have hfin := TL.appended (x := lab x.1) (k := n9) HT8.out HO9.out.2 (by rw [← Hhn9.out]; rfl) HO9.out.1
              obtain ⟨k1, k2⟩ := round_end (HX8.out.alloc _) HT8.out HO9.out.2 HS.out (.slice au n9 cu)
              exact ⟨k1, k2, ⟨_, by rw [List.map_append, List.map_cons, List.map_nil, ← List.append_assoc]; exact hfin⟩, (k2.block _ (.inl rfl)).trans hciu, (k2.block _ (.inr rfl)).trans hcau⟩
            · go_simp; refine hK _ _ ?_; clear hK K
              refine wpAnyIn_ready (rs := [0, 2]) (by kernel_rfl) (by simp) ?_
              refine AllReadyIn.cons rfl (fun K hK => ?_) (AllReadyIn.cons rfl (fun K hK => ?_) AllReadyIn.nil)
              · go_simp; refine hK _ _ ?_; clear hK K
                refine wpAnyIn_ready (rs := [2]) (by kernel_rfl) (by simp) ?_
                refine AllReadyIn.cons rfl (fun K hK => ?_) AllReadyIn.nil
                go_simp
                refine ⟨trivial, ?_⟩
                gi_at_call 32
                refine (CallsIn.inRound l (callsIn_wide.2 (HhL.out _ (HT.out.ext (hXW0.trans (by first | exact HTu.out.ext.drew | exact HTu.out.ext)))))).mono ?_
                rintro e w8 ⟨rfl, hx8⟩
                replace hx8 : Ext W' w8 := Ext.trans (by first | exact (Ext.refl _).drew | exact Ext.refl _) hx8
                have hT8 := HTu.out.ext' hx8
                have cB := hT8.box.cell
                have cBo := fun o => ((Ext.refl w8).alloc o).cell cB
                have HT8 := Lib.hid (hT8.ext' ((Ext.refl w8).alloc (.cells #[.string (str (lab x.1))] 9)))
                have HX8 := Lib.hid hx8
                clear hx8 hT8
                refine hK _ _ ?_
                clear hK K
                refine wpAnyIn_ready (rs := [3]) (by kernel_rfl) (by simp) ?_
                refine AllReadyIn.cons rfl (fun K hK => ?_) AllReadyIn.nil
                go_simp; refine hK _ _ ?_; clear hK K
                refine wpAnyIn_ready (rs := [4]) (by kernel_rfl) (by simp) ?_
                refine AllReadyIn.cons rfl (fun K hK => ?_) AllReadyIn.nil
                refine stepIn_app_g rfl (.tmp 40) (.tmp 43) 54 rfl Tryz.underlying54 infoStr rfl (by decide) encS_len encS_one W0.heap.size _ _ _ [lab x.1] (by rfl) (by rfl) HT8.out.own (rd_lit encS_len w8 [lab x.1] 9 _ rfl) hbd (by decide) HT8.out.ext.size ?_
                intro au cu w9 ho9 hg9
                rw [Hhn9.out] at ho9 ⊢
                have hb9 := HT8.out.box.kept hg9 (fun e => Boxed.not_row HT8.out.box (by decide) HT8.out.own e)
                have c9 := hb9.cell
                have f9 := hb9.frozen
                have HO9 := Lib.hid (And.intro ho9 hg9)
                clear ho9 hg9 hb9
                refine hK _ _ ?_
                clear hK K
                refine wpAnyIn_ready (rs := [5]) (by kernel_rfl) (by simp) ?_
                refine AllReadyIn.cons rfl (fun K hK => ?_) AllReadyIn.nil
                go_simp; refine hK _ _ ?_; clear hK K
                refine wpAnyIn_done (by kernel_rfl) ?_ _
                gi_wp2
                have hfin := TL.appended (x := lab x.1) (k := n9) HT8.out HO9.out.2 (by rw [← Hhn9.out]; rfl) HO9.out.1
                obtain ⟨k1, k2⟩ := round_end (HX8.out.alloc _) HT8.out HO9.out.2 HS.out (.slice au n9 cu)
                exact ⟨k1, k2, ⟨_, by rw [List.map_append, List.map_cons, List.map_nil, ← List.append_assoc]; exact hfin⟩, (k2.block _ (.inl rfl)).trans hciu, (k2.block _ (.inr rfl)).trans hcau⟩
              · go_simp
                refine ⟨trivial, ?_⟩
                gi_at_call 32
                refine (CallsIn.inRound l (callsIn_wide.2 (HhL.out _ (HT.out.ext (hXW0.trans (by first | exact HTu.out.ext.drew | exact HTu.out.ext)))))).mono ?_
                rintro e w8 ⟨rfl, hx8⟩
                replace hx8 : Ext W' w8 := Ext.trans (by first | exact (Ext.refl _).drew | exact Ext.refl _) hx8
                have hT8 := HTu.out.ext' hx8
                have cB := hT8.box.cell
                have cBo := fun o => ((Ext.refl w8).alloc o).cell cB
                have HT8 := Lib.hid (hT8.ext' ((Ext.refl w8).alloc (.cells #[.string (str (lab x.1))] 9)))
                have HX8 := Lib.hid hx8
                clear hx8 hT8
                refine hK _ _ ?_
                clear hK K
                refine wpAnyIn_ready (rs := [0, 3]) (by kernel_rfl) (by simp) ?_
                refine AllReadyIn.cons rfl (fun K hK => ?_) (AllReadyIn.cons rfl (fun K hK => ?_) AllReadyIn.nil)
                · go_simp; refine hK _ _ ?_; clear hK K
                  refine wpAnyIn_ready (rs := [3]) (by kernel_rfl) (by simp) ?_
                  refine AllReadyIn.cons rfl (fun K hK => ?_) AllReadyIn.nil
                  go_simp; refine hK _ _ ?_; clear hK K
                  refine wpAnyIn_ready (rs := [4]) (by kernel_rfl) (by simp) ?_
                  refine AllReadyIn.cons rfl (fun K hK => ?_) AllReadyIn.nil
                  refine stepIn_app_g rfl (.tmp 40) (.tmp 43) 54 rfl Tryz.underlying54 infoStr rfl (by decide) encS_len encS_one W0.heap.size _ _ _ [lab x.1] (by rfl) (by rfl) HT8.out.own (rd_lit encS_len w8 [lab x.1] 9 _ rfl) hbd (by decide) HT8.out.ext.size ?_
                  intro au cu w9 ho9 hg9
                  rw [Hhn9.out] at ho9 ⊢
                  have hb9 := HT8.out.box.kept hg9 (fun e => Boxed.not_row HT8.out.box (by decide) HT8.out.own e)
                  have c9 := hb9.cell
                  have f9 := hb9.frozen
                  have HO9 := Lib.hid (And.intro ho9 hg9)
                  clear ho9 hg9 hb9
                  refine hK _ _ ?_
                  clear hK K
                  refine wpAnyIn_ready (rs := [5]) (by kernel_rfl) (by simp) ?_
                  refine AllReadyIn.cons rfl (fun K hK => ?_) AllReadyIn.nil
                  go_simp; refine hK _ _ ?_; clear hK K
                  refine wpAnyIn_done (by kernel_rfl) ?_ _
                  gi_wp2
                  have hfin := TL.appended (x := lab x.1) (k := n9) HT8.out HO9.out.2 (by rw [← Hhn9.out]; rfl) HO9.out.1
                  obtain ⟨k1, k2⟩ := round_end (HX8.out.alloc _) HT8.out HO9.out.2 HS.out (.slice au n9 cu)
                  exact ⟨k1, k2, ⟨_, by rw [List.map_append, List.map_cons, List.map_nil, ← List.append_assoc]; exact hfin⟩, (k2.block _ (.inl rfl)).trans hciu, (k2.block _ (.inr rfl)).trans hcau⟩
                · go_simp; refine hK _ _ ?_; clear hK K
                  refine wpAnyIn_ready (rs := [0]) (by kernel_rfl) (by simp) ?_
                  refine AllReadyIn.cons rfl (fun K hK => ?_) AllReadyIn.nil
                  go_simp; refine hK _ _ ?_; clear hK K
                  refine wpAnyIn_ready (rs := [4]) (by kernel_rfl) (by simp) ?_
                  refine AllReadyIn.cons rfl (fun K hK => ?_) AllReadyIn.nil
                  refine stepIn_app_g rfl (.tmp 40) (.tmp 43) 54 rfl Tryz.underlying54 infoStr rfl (by decide) encS_len encS_one W0.heap.size _ _ _ [lab x.1] (by rfl) (by rfl) HT8.out.own (rd_lit encS_len w8 [lab x.1] 9 _ rfl) hbd (by decide) HT8.out.ext.size ?_
                  intro au cu w9 ho9 hg9
                  rw [Hhn9.out] at ho9 ⊢
                  have hb9 := HT8.out.box.kept hg9 (fun e => Boxed.not_row HT8.out.box (by decide) HT8.out.own e)
                  have c9 := hb9.cell
                  have f9 := hb9.frozen
                  have HO9 := Lib.hid (And.intro ho9 hg9)
                  clear ho9 hg9 hb9
                  refine hK _ _ ?_
                  clear hK K
                  refine wpAnyIn_ready (rs := [5]) (by kernel_rfl) (by simp) ?_
                  refine AllReadyIn.cons rfl (fun K hK => ?_) AllReadyIn.nil
                  go_simp; refine hK _ _ ?_; clear hK K
                  refine wpAnyIn_done (by kernel_rfl) ?_ _
                  gi_wp2
                  have hfin := TL.appended (x := lab x.1) (k := n9) HT8.out HO9.out.2 (by rw [← Hhn9.out]; rfl) HO9.out.1
                  obtain ⟨k1, k2⟩ := round_end (HX8.out.alloc _) HT8.out HO9.out.2 HS.out (.slice au n9 cu)
                  exact ⟨k1, k2, ⟨_, by rw [List.map_append, List.map_cons, List.map_nil, ← List.append_assoc]; exact hfin⟩, (k2.block _ (.inl rfl)).trans hciu, (k2.block _ (.inr rfl)).trans hcau⟩
          case done =>
            rintro D ys W' hD hys ⟨⟨u, hTu⟩, hciu, hcau⟩ hK
            have cB := hTu.box.cell
            have hws : [nm, dk] ++ ys.map (fun x : Pl => lab x.1) = wordsL i q := by
              rw [hwl, hkU, ← hys, List.map_map]
              rw [if_pos rfl, ← Hhdk.out]; rfl
            rw [hws] at hTu
            have hjl : (Lib.join (wordsL i q) [32]).length ≤ 100000 := by rw [join_words]; exact Nat.le_trans (line_len HNI.out (by omega)) (by omega)
            have hwn : 0 < (wordsL i q).length ∧ (wordsL i q).length ≤ 100000 := by
              rw [← hws]; have h1 := leads_len i q; rw [← hys, List.length_map] at h1
              simp; omega
            have hJ := fun W' (h : W'.ownsRow W0.heap.size 9 1 u (wordsL i q).length ((wordsL i q).flatMap encS)) => joined_calls (wordsL i q) u W0.heap.size W' h hwn.1 hwn.2 hjl
            have HDn := Lib.hid (And.intro hD (And.intro hTu hK))
            clear hD hys hK hciu hcau hws hwn hjl hTu hwl
            have HhJ := Lib.hid hJ
            clear hJ
            gi_wp2_with (refine ⟨trivial, ?_⟩; gi_at_call 51; refine (callsIn_wide.2 (HhJ.out _ HDn.out.2.1.own)).mono ?_; rintro e w9 ⟨rfl, hx9⟩)
            have hK9 := (hx9.block (Array.getElem?_eq_some_iff.1 HDn.out.2.2).1).trans HDn.out.2.2
            refine ⟨by simp, .inl ⟨_, _, rfl, run_takeDeferred hK9, ?_⟩⟩
            refine ⟨_, results_tmp rfl _ _ _, rfl, ?_⟩
            have hXW := HDn.out.2.1.ext.trans hx9
            have hD1 := HDn.out.1
            have hs9 := HTW.out.ext.size
            have hs0 := hXW0.size
            exact Ext.trans hXW0 ⟨hXW.os, hXW.tape, hXW.output, by have := hXW.size; simp; omega, fun j hj => (World.putObj_heap_other (by omega)).trans (hXW.block hj)⟩
          case stop =>
            rintro D c pre W _ _ h _
            exact h.elim
        all_goals exact hq.elim
end L07
end Go.Proofs.YtbpmokffhmiacaaGreatDoor
