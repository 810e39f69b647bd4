/- Layer 7: the walk of Text. -/
import Derived.Shelf.Strings.BuilderK
import Derived.Lib.OthersKept
import Derived.Test.YtbpmokffhmiacaaGreatDoorAsmK
namespace Go.Proofs.YtbpmokffhmiacaaGreatDoor
open Go.RowKit Go.Shelf Go.Sort V
attribute [local go_sem] Oper.semAt_some
namespace L07
theorem grownBy_ext {A B : World} (hx : Ext A B) : A.grownBy B none := ⟨hx.os, hx.tape, hx.output, hx.size, fun _ hk _ => hx.block hk⟩
abbrev Bld (b : Nat) (l : List UInt8) (W : World) : Prop := Lib.IsBuilderF 69 5 b b (Lib.byteCells l) W
theorem bldAt_ext {T e : TypeId} {B b : Nat} {p : Value} {bs : List Value} {W W' : World} (h : Lib.BuilderAtF T e B b p bs W) (hx : Ext W W') : Lib.BuilderAtF T e B b p bs W' := by
  obtain ⟨hB, v, hb, hown, hne⟩ := h
  refine ⟨hB, v, (hx.block (Array.getElem?_eq_some_iff.1 hb).1).trans hb, World.ownsRowF.kept hown (grownBy_ext hx) ?_, hne⟩
  cases v.ownBlock with
  | none => exact .inl rfl
  | some k => exact .inr (by simp)
theorem Bld.ext {b : Nat} {l : List UInt8} {W W' : World} (h : Bld b l W) (hx : Ext W W') : Bld b l W' := h.imp (fun h => bldAt_ext h hx) (fun h => bldAt_ext h hx)
theorem Bld.le {b : Nat} {l : List UInt8} {W : World} (h : Bld b l W) : b ≤ W.heap.size := by
  rcases h with h | h <;> exact Nat.le_of_lt (Lib.BuilderAtF.lt h)
theorem Bld.fresh (w : World) : Bld w.heap.size [] (w.alloc (.cells #[.pointer none, .slice none 0 0] 69)) :=
  .inl ⟨Nat.le_refl _, .slice none 0 0, heap_alloc_new _ _, World.ownsRowF_nil _ _ _ _, by simp [Value.ownBlock]⟩
theorem cells_app (l m : List UInt8) : Lib.byteCells l ++ Lib.strCells (str m) = Lib.byteCells (l ++ m) := by
  simp [Lib.byteCells, Lib.strCells, str]
/-- a builder written on -/
theorem write_calls (b : Nat) (l m : List UInt8) (W : World) (h : Bld b l W) (hl : l.length + m.length ≤ 1000000000) :
    Calls Tryz.prog 31 #[.pointer (some ⟨b, 0, none⟩), .string (str m)] W fun e w' => e = .returned (.tuple #[.int .i64 (m.length : Int), .nilIface]) ∧ Bld b (l ++ m) w' ∧ Below b W w' ∧ Lib.OthersKept 5 (some b) W w' := by
  have hW := Any.Builder_WriteString_k (P := Tryz.prog) (ρ := Tryz.lays156_ren) { Tryz.lays156 with } Tryz.Builder_Extra_156 b b (Lib.byteCells l) (str m) W h (by rw [Lib.byteCells_length, str_size]; omega) h.le
  rw [cells_app] at hW
  exact hW.mono fun e w' ⟨h1, h2, h3, h4⟩ => ⟨h1, .inr h2, h3, h4⟩
theorem kept_blk {W W' : World} {b k : Nat} {cs : Array Value} {t : TypeId} (h : Lib.OthersKept 5 (some b) W W') (hk : W.heap[k]? = some (.cells cs t (0, 0))) (hb : k ≠ b) (ht : t ≠ 5) : W'.heap[k]? = some (.cells cs t (0, 0)) :=
  h k _ hk (fun e => hb (by cases e; rfl)) (fun c fz e => by cases e; exact ht rfl)
theorem rdBo_cell {w : World} {v : Value} {xs : List Bool} (h : Rd w 1 encBo v xs) : ∃ a c, v = .slice a xs.length c ∧ xs.length ≤ c ∧ ∀ i, (hi : i < xs.length) → ∃ b o, a = some ⟨b, o, none⟩ ∧ w.cell? ⟨b, o + i, none⟩ = some (.bool xs[i]) := by
  obtain ⟨a, c, h1, h2, h3, h4⟩ := h
  refine ⟨a, c, h1, h2, fun i hi => ?_⟩
  obtain ⟨b, o, e, k⟩ := h4 i hi
  have := k 0 (by simp [encBo])
  simp only [Nat.mul_one, Nat.add_zero] at this
  exact ⟨b, o, e, this⟩
theorem row_led {p : List In} {k : Nat} (h : k < p.length) (h' : k < (rowB p p.length).length) : (rowB p p.length)[k] = ledB p k := by
  have := rowB_all p k h
  rw [List.getElem?_eq_getElem h'] at this
  exact Option.some.inj this
theorem line_plain {p : List In} (h : p.all plainI = true) {k : Nat} (hk : k < p.length) : lineA p[k] (k : Int) = lineL p[k] k := by
  unfold lineA
  rw [if_pos ⟨List.all_eq_true.1 h _ (List.getElem_mem hk), by omega⟩]
  rfl
theorem piece_at {p : List In} {k : Nat} (hk : k < p.length) : pieceL p k = headL p k ++ (lineL p[k] k ++ [10]) := by
  unfold pieceL; rw [List.getElem?_eq_getElem hk]
set_option maxRecDepth 100000 in
set_option maxHeartbeats 8000000 in
theorem Text_calls (P : List In) (v : Value) (hP : ∀ i ∈ P, OkN i) (hl : P.length ≤ 1000000) (w : World) (ht : Tab w) (hv : Rd w 4 encN v P) :
    Calls Tryz.prog 16 #[v] w fun e w' => Ext w w' ∧ e = .returned (if canL P = true then .tuple #[.string (str (textL P)), .int .i64 0] else .tuple #[.string ⟨#[]⟩, .int .i64 70]) := by
  have hC := Can_calls P v hP hl w hv
  have hvR := hv
  obtain ⟨a, c, rfl, -, hca⟩ := rdI_cell hv
  clear hv
  cases hcan : canL P
  · rw [hcan] at hC
    rw [if_neg (by simp)]
    have HhC := Lib.hid hC
    clear hC
    clear hca hP hvR ht hcan
    go_enter Tryz.func16, Tryz.ntmps16
    go_wp2_with fail
    refine HhC.out.mono ?_
    rintro e w1 ⟨rfl, hx1⟩
    go_wp2_with fail
    go_ret2
    exact ⟨hx1, rfl⟩
  · rw [hcan] at hC
    rw [if_pos rfl]
    have hcl := canL_eq P
    rw [hcan] at hcl
    have hcl2 := hcl.symm
    simp only [Bool.and_eq_true, decide_eq_true_eq] at hcl2
    obtain ⟨hl2, hpl, hok⟩ := hcl2
    clear hcl hcan
    have hT := fun W (hx : Ext w W) => targets_calls P _ hP (by omega) W (hvR.ext hx)
    rw [hok] at hT
    have HPL := Lib.hid hpl
    have HP := Lib.hid hP
    have HT := Lib.hid ht
    have HhC := Lib.hid hC
    clear hC
    have HhT := Lib.hid hT
    clear hT
    clear hvR hP hpl hok ht
    go_enter Tryz.func16, Tryz.ntmps16
    go_wp2_with fail
    refine HhC.out.mono ?_
    rintro e w1 ⟨rfl, hx1⟩
    go_wp2_with fail
    refine (HhT.out _ hx1).mono ?_
    rintro e w2 ⟨hx2, (⟨-, u, rfl, hrd⟩ | ⟨h, -⟩)⟩
    rotate_left
    · cases h
    obtain ⟨au, cu, rfl, -, hcb⟩ := rdBo_cell hrd
    have hrl := rowB_len P P.length
    have hxw2 := hx1.trans hx2
    have HX2 := Lib.hid hxw2
    have hB0 := Bld.fresh w2
    go_wp2_with fail
    go_loopw [19] (fun i wr => ∃ k : Nat, k ≤ P.length ∧ i = .int .i64 k ∧ Ext w2 wr ∧ Bld w2.heap.size (textK P k) wr) (fun i _ => P.length - (intOf i).toNat)
    case atStart => exact ⟨0, by omega, rfl, (Ext.refl w2).alloc _, hB0⟩
    case round =>
      obtain ⟨k, hk, rfl, hx, hB⟩ := hrel
      have hlt2 : w2.heap.size < wr.heap.size := by rcases hB with h | h <;> exact Lib.BuilderAtF.lt h
      by_cases hlt : k < P.length
      · obtain ⟨pb, po, rfl, h1, h2, h3, h4⟩ := hca k hlt
        have hxw := hxw2.trans hx
        replace h1 := hxw.cell h1; replace h2 := hxw.cell h2; replace h3 := hxw.cell h3; replace h4 := hxw.cell h4
        obtain ⟨qb, qo, rfl, h5⟩ := hcb k (by rw [hrl]; exact hlt)
        replace h5 := hx.cell h5
        rw [row_led hlt] at h5
        have h5o := fun o => ((Ext.refl wr).alloc o).cell h5
        have hsz := textK_len HP.out k (by omega)
        have hsc := textK_succ P k
        rw [piece_at hlt] at hsc
        have hhd := head_len P (j := k) (by omega)
        have hli := line_len (i := P[k]) (HP.out _ (List.getElem_mem hlt)) (p := k) (by omega)
        have hLc := fun W (h : Tab W) => Line_calls P[k] (HP.out _ (List.getElem_mem hlt)) (k : Int) (by omega) (by omega) W h
        rw [line_plain HPL.out hlt] at hLc
        have hLab := fun W (h : Tab W) => label_calls k (by omega) W h
        have hhe : headL P k = if ledB P k = true then 76 :: (dec k ++ [58, 10]) else [] := rfl
        have hd18 := dec_20 k (by omega)
        unfold inV at hLc
        generalize P[k] = i at *
        generalize headL P k = hd at *
        generalize textK P k = tx at *
        generalize lineL i k = li at *
        have hci : (wr.alloc (.cells #[.int .u16 (i.c : Int), .int .u8 (i.jt : Int), .int .u8 (i.jf : Int), .int .u32 (i.k : Int)] 34)).heap[wr.heap.size]? = some (.cells #[.int .u16 (i.c : Int), .int .u8 (i.jt : Int), .int .u8 (i.jf : Int), .int .u32 (i.k : Int)] 34 (0, 0)) := heap_alloc_new _ _
        have hcat2 : str li ++ (⟨#[10]⟩ : ByteArray) = str (li ++ [10]) := by rw [show (⟨#[10]⟩ : ByteArray) = str [10] from rfl, str_app]
        have hls : (str li).size ≤ 70 := by rw [str_size]; exact hli
        have HX := Lib.hid hx
        have HXW := Lib.hid hxw
        have HB := Lib.hid hB
        have HC := Lib.hid hci
        have Hhsc := Lib.hid hsc
        clear hsc
        have HhLc := Lib.hid hLc
        clear hLc
        have HhLab := Lib.hid hLab
        clear hLab
        clear hca hcb hrd hx hxw hB hci hB0 h5
        cases hled : ledB P k
        · simp only [hled] at h5o
          rw [hled] at hhe
          have hhe2 : hd = [] := hhe
          subst hhe2
          have hWr := fun W (h : Bld w2.heap.size tx W) => write_calls w2.heap.size tx (li ++ [10]) W h (by simp; omega)
          have HhWr := Lib.hid hWr
          clear hWr
          clear hhe hled
          go_wp2_with (first
            | (go_at_call 33; refine (HhLc.out _ (HT.out.ext (HXW.out.alloc _))).mono ?_; rintro e w5 ⟨rfl, hx5⟩; have HX5 := Lib.hid (((Ext.refl _).alloc _).trans hx5); clear hx5)
            | (go_at_call 31; refine (HhWr.out _ (HB.out.ext HX5.out)).mono ?_; rintro e w6 ⟨rfl, hb6, hx6, hk6⟩; have HB6 := Lib.hid (And.intro hb6 hx6); clear hb6 hx6 hk6))
          go_roundw
          case rel =>
            refine ⟨k + 1, by omega, by go_num, ?_, ?_⟩
            · exact Below.trans (HX.out.trans HX5.out) HB6.out.2
            · rw [Hhsc.out]
              exact HB6.out.1
          case measure => simp [intOf]; omega
        · rw [hled, if_pos rfl] at hhe
          simp only [hled] at h5o
          have hcat1 : str (lab k) ++ (⟨#[58, 10]⟩ : ByteArray) = str hd := by rw [show (⟨#[58, 10]⟩ : ByteArray) = str [58, 10] from rfl, str_app, hhe]; rfl
          have hlb : (str (lab k)).size ≤ 20 := by rw [str_size]; show (dec k).length + 1 ≤ 20; omega
          have hWr1 := fun W (h : Bld w2.heap.size tx W) => write_calls w2.heap.size tx hd W h (by omega)
          have hWr2 := fun W (h : Bld w2.heap.size (tx ++ hd) W) => write_calls w2.heap.size (tx ++ hd) (li ++ [10]) W h (by simp; omega)
          generalize str (lab k) = sl at *
          have HhWr1 := Lib.hid hWr1
          clear hWr1
          have HhWr2 := Lib.hid hWr2
          clear hWr2
          clear hhe hled
          go_upto_region 10 with (first
            | (go_at_call 32; refine (HhLab.out _ (HT.out.ext (HXW.out.alloc _))).mono ?_; rintro e w3 ⟨rfl, hx3⟩; have hc3 := blk_ext4 HC.out hx3; have HX3 := Lib.hid (((Ext.refl _).alloc _).trans hx3); have HC3 := Lib.hid hc3; clear hx3 hc3)
            | (go_at_call 31; refine (HhWr1.out _ (HB.out.ext HX3.out)).mono ?_; rintro e w4 ⟨rfl, hb4, hx4, hk4⟩; obtain ⟨g0, g1, g2, g3⟩ := blk4 (kept_blk hk4 HC3.out (by omega) (by decide)); have HB4 := Lib.hid (And.intro hb4 hx4); clear hb4 hx4 hk4))
          go_wp2_with (first
            | (go_at_call 33; refine (HhLc.out _ (HT.out.ext (Below.trans (HX2.out.trans (HX.out.trans HX3.out)) (Below.mono HB4.out.2 HX2.out.size)))).mono ?_; rintro e w5 ⟨rfl, hx5⟩; have HX5 := Lib.hid hx5; clear hx5)
            | (go_at_call 31; refine (HhWr2.out _ (HB4.out.1.ext HX5.out)).mono ?_; rintro e w6 ⟨rfl, hb6, hx6, hk6⟩; have HB6 := Lib.hid (And.intro hb6 hx6); clear hb6 hx6 hk6))
          go_roundw
          case rel =>
            refine ⟨k + 1, by omega, by go_num, ?_, ?_⟩
            · exact Below.trans ((Below.trans (HX.out.trans HX3.out) HB4.out.2).trans (HX5.out.mono (by have := HX.out.size; have := HX3.out.size; have := HB4.out.2.size; omega))) HB6.out.2
            · rw [Hhsc.out, ← List.append_assoc]
              exact HB6.out.1
          case measure => simp [intOf]; omega
      · have hkk : k = P.length := by omega
        rw [hkk] at hB
        have hStr := fun W (h : Bld w2.heap.size (textL P) W) => Tryz.Builder_String_any_k w2.heap.size w2.heap.size (textL P) W h h.le
        have HB := Lib.hid hB
        have HX := Lib.hid hx
        have HhStr := Lib.hid hStr
        clear hStr
        have Hhkk := Lib.hid hkk
        clear hkk
        clear hca hcb hrd hx hB hB0
        go_wp2_with fail
        refine (HhStr.out _ HB.out).mono ?_
        rintro e w7 ⟨rfl, -, hx7, -⟩
        go_wp2_with fail
        go_ret2
        exact ⟨HX2.out.trans ((Below.trans HX.out hx7)), rfl⟩
end L07
end Go.Proofs.YtbpmokffhmiacaaGreatDoor
