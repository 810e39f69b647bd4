/- Layer 14: files in memory; May and the reference's May. -/
import Derived.Laws.AppendOwnNone
import Derived.Test.YtkmbahpjioopdaaLineI0
import Derived.Test.YtkmbahpjioopdaaLineG
import Derived.Test.YtkmbahpjioopdaaApp
import Derived.Test.YtkmbahpjioopdaaDropA0
namespace Go.Proofs.Ytkmbahpjioopdaa
open Go.RowKit V
attribute [local go_sem] Oper.semAt_some Option.isSome_some
namespace L12
theorem blk_cell {w : World} {b : Nat} {cs : Array Value} {t : Nat} (h : w.heap[b]? = some (.cells cs t (0, 0))) (i : Nat) : w.cell? ⟨b, i, none⟩ = cs[i]? := by simp [World.cell?, h]
theorem blk_ext {w w' : World} {b : Nat} {cs : Array Value} {t : Nat} (h : w.heap[b]? = some (.cells cs t (0, 0))) (hx : Ext w w') : w'.heap[b]? = some (.cells cs t (0, 0)) := (hx.block (Array.getElem?_eq_some_iff.1 h).1).trans h
/-- a file in memory: what it says, and where its bytes lie -/
structure PF where
  nm : List UInt8
  dir : Int
  bs : List UInt8
  a : Option Addr
  c : Nat
instance : Inhabited PF := ⟨⟨[], 0, [], none, 0⟩⟩
def PF.v (p : PF) : Value := .slice p.a p.bs.length p.c
def PF.f (p : PF) : Fl := (p.nm, p.dir, p.bs)
def encF (p : PF) : List Value := [.string (str p.nm), .int .i64 p.dir, p.v]
theorem encF_len (p : PF) : (encF p).length = 3 := rfl
theorem encF_one (p : PF) : ∀ u ∈ encF p, u.oneCell' = true := by
  intro u hu; simp [encF, PF.v] at hu; rcases hu with rfl | rfl | rfl <;> rfl
def fV (p : PF) : Value := .agg #[.string (str p.nm), .int .i64 p.dir, .slice p.a p.bs.length p.c]
def Good (w : World) (p : PF) : Prop := Rd w 1 encB p.v p.bs
theorem Good.ext {a w : World} (h : Ext a w) {p : PF} (hp : Good a p) : Good w p := Rd.ext h hp
/-- its bytes lie in a block of its own, from some block on -/
def OwnB (w : World) (base : Nat) (p : PF) : Prop := w.ownsRow base 5 1 p.v p.bs.length (p.bs.flatMap encB)
theorem OwnB.good {w : World} {base : Nat} {p : PF} (h : OwnB w base p) : Good w p := rd_of_own encB_len h
theorem infoF : (Try.prog.info? 24).map (fun i => (i.zero, i.size, i.bytes)) = some (some (.agg #[.string ⟨#[]⟩, .int .i64 0, .slice none 0 0]), 3, 48) := by kernel_rfl
theorem infoB : (Try.prog.info? 5).map (fun i => (i.zero, i.size, i.bytes)) = some (some (.int .u8 0), 1, 1) := by kernel_rfl
theorem rdF_cell {w : World} {v : Value} {ps : List PF} (h : Rd w 3 encF v ps) : ∃ a c, v = .slice a ps.length c ∧ ps.length ≤ c ∧ ∀ i, (hi : i < ps.length) → ∃ b o, a = some ⟨b, o, none⟩ ∧ w.cell? ⟨b, o + i * 3, none⟩ = some (.string (str (ps[i]).nm)) ∧ w.cell? ⟨b, o + i * 3 + 1, none⟩ = some (.int .i64 (ps[i]).dir) ∧ w.cell? ⟨b, o + i * 3 + 2, none⟩ = some (.slice (ps[i]).a (ps[i]).bs.length (ps[i]).c) := by
  obtain ⟨a, c, h1, h2, h3, h4⟩ := h
  refine ⟨a, c, h1, h2, fun i hi => ?_⟩
  obtain ⟨b, o, e, k⟩ := h4 i hi
  exact ⟨b, o, e, k 0 (by simp [encF]), k 1 (by simp [encF]), k 2 (by simp [encF])⟩
theorem mayC_int (c : UInt8) : mayC c = (!(decide ((c.toNat : Int) < 33) || decide ((126 : Int) < (c.toNat : Int)) || ((c.toNat : Int) == 47))) := by
  have h3 : (c == 47) = ((c.toNat : Int) == 47) := by
    rw [Bool.eq_iff_iff]
    simp only [beq_iff_eq]
    constructor
    · rintro rfl; rfl
    · intro h; exact UInt8.toNat_inj.1 (by show c.toNat = 47; omega)
  unfold mayC
  rw [h3]
  rw [Bool.eq_iff_iff]
  simp
  omega
theorem b3_true {x y z : Bool} (h : true = !(x || y || z)) : x = false ∧ y = false ∧ z = false := by cases x <;> cases y <;> cases z <;> simp_all
theorem b3_false {x y z : Bool} (h : false = !(x || y || z)) : x = true ∨ (x = false ∧ (y = true ∨ (y = false ∧ z = true))) := by cases x <;> cases y <;> cases z <;> simp_all
set_option maxRecDepth 100000 in
set_option maxHeartbeats 2000000 in
theorem May_calls (s : ByteArray) (hs : s.size ≤ maxLen) (w : World) :
    Calls Try.prog 13 #[.string s] w fun e w' => e = .returned (.bool (mayN (bytes s))) ∧ Ext w w' := by
  have hcv := fun W => conv_str W s
  unfold maxLen at hs
  have hS := fun W => Try.strings_HasSuffix s ⟨#[46, 99, 111, 110, 102]⟩ W (by omega)
  obtain ⟨r, hr⟩ : ∃ r, r = mayN (bytes s) := ⟨_, rfl⟩
  rw [← hr]
  have hbl := bytes_len s
  have hr2 : r = (decide (6 ≤ s.size) && decide (s.size ≤ 60) && Lib.hasSuffix (bytes s) [46, 99, 111, 110, 102] && (bytes s).all mayC) := by rw [hr]; unfold mayN; rw [hbl]
  rw [show s.data.toList = bytes s from rfl, show (⟨#[46, 99, 111, 110, 102]⟩ : ByteArray).data.toList = [46, 99, 111, 110, 102] from rfl] at hS
  clear hr
  have hrd := fun W cap hc fr => rd_bytes W s cap hc fr
  generalize bytes s = l at *
  generalize Lib.hasSuffix l [46, 99, 111, 110, 102] = sf at *
  have HhS := Lib.hid hS
  clear hS
  have Hhrd := Lib.hid hrd
  clear hrd
  have HBL := Lib.hid hbl
  clear hbl
  by_cases h6 : s.size < 6
  · have : r = false := by rw [hr2]; simp; omega
    subst this
    clear hr2
    have e1 : decide ((s.size : Int) < 6) = true := decide_eq_true (by omega)
    go_enter Try.func13, Try.ntmps13
    go_wp2_with fail
    go_ret
    exact ⟨rfl, Ext.refl _⟩
  have e1 : decide ((s.size : Int) < 6) = false := decide_eq_false (by omega)
  by_cases h60 : 60 < s.size
  · have : r = false := by rw [hr2]; simp; omega
    subst this
    clear hr2
    have e2 : decide ((60 : Int) < (s.size : Int)) = true := decide_eq_true (by omega)
    go_enter Try.func13, Try.ntmps13
    go_wp2_with fail
    go_ret
    exact ⟨rfl, Ext.refl _⟩
  have e2 : decide ((60 : Int) < (s.size : Int)) = false := decide_eq_false (by omega)
  have e6 : decide (6 ≤ s.size) = true := decide_eq_true (by omega)
  have e60 : decide (s.size ≤ 60) = true := decide_eq_true (by omega)
  rw [e6, e60] at hr2
  clear e6 e60
  cases sf
  · have : r = false := by rw [hr2]; rfl
    subst this
    clear hr2
    go_enter Try.func13, Try.ntmps13
    go_wp2_with fail
    refine (HhS.out _).mono ?_
    rintro e w1 ⟨rfl, rfl⟩
    go_wp2_with fail
    go_ret
    exact ⟨rfl, Ext.refl _⟩
  have hra : r = l.all mayC := by rw [hr2]; rfl
  have HRA := Lib.hid hra
  clear hr2 hra
  go_enter Try.func13, Try.ntmps13
  go_wp2_with fail
  refine (HhS.out _).mono ?_
  rintro e w1 ⟨rfl, rfl⟩
  go_wp2_with fail
  have hrd0 : Rd ((w1.alloc (.cells (bytesRow s (grownCap w1 s.size 0 5)) 5 ((bytesRow s (grownCap w1 s.size 0 5)).size, (bytesRow s (grownCap w1 s.size 0 5)).size + 1))).drew) 1 encB (.slice (some ⟨w1.heap.size, 0, none⟩) s.size (grownCap w1 s.size 0 5)) l := Hhrd.out w1 _ (grownCap_ge _ _ _ _) _
  have hx0 : Ext w1 ((w1.alloc (.cells (bytesRow s (grownCap w1 s.size 0 5)) 5 ((bytesRow s (grownCap w1 s.size 0 5)).size, (bytesRow s (grownCap w1 s.size 0 5)).size + 1))).drew) := ((Ext.refl _).alloc _).drew
  generalize (w1.alloc (.cells (bytesRow s (grownCap w1 s.size 0 5)) 5 ((bytesRow s (grownCap w1 s.size 0 5)).size, (bytesRow s (grownCap w1 s.size 0 5)).size + 1))).drew = W0 at *
  generalize grownCap w1 s.size 0 5 = cap at *
  obtain ⟨ab, cb, hvb, hcb, hab⟩ := rdB_cell hrd0
  simp only [Value.slice.injEq] at hvb
  obtain ⟨rfl, hln, rfl⟩ := hvb
  have Hhx := Lib.hid hx0
  have HAB := Lib.hid hab
  clear hx0 hrd0 hab hcb hcv
  go_loopw [4, 21] (fun _ i wr => ∃ k : Nat, k ≤ l.length ∧ i = .int .i64 k ∧ Ext W0 wr ∧ l.all mayC = (l.drop k).all mayC) (fun _ i _ => l.length - (intOf i).toNat)
  case atStart => exact ⟨0, by omega, rfl, Ext.refl _, rfl⟩
  case round =>
    obtain ⟨k, hk, rfl, hx, heq⟩ := hrel
    have HX := Lib.hid hx
    have HE := Lib.hid heq
    clear hx heq
    by_cases hlt : k < l.length
    · obtain ⟨b, o, hbo, hcell⟩ := HAB.out k hlt
      simp only [Option.some.injEq, Addr.mk.injEq, and_true] at hbo
      obtain ⟨rfl, rfl⟩ := hbo
      have hc2 := HX.out.cell hcell
      have hst : l.drop k = l[k] :: l.drop (k + 1) := List.drop_eq_getElem_cons hlt
      have HST := Lib.hid hst
      have hm := mayC_int l[k]
      have hclt : l[k].toNat < 256 := l[k].toNat_lt
      simp only [Nat.zero_add] at hc2
      clear hcell hst
      have hks : (k : Int) < s.size := by rw [← HBL.out]; omega
      have hall : r = (mayC l[k] && (l.drop (k + 1)).all mayC) := by rw [HRA.out, HE.out, HST.out, List.all_cons]
      have HALL := Lib.hid hall
      clear hall
      have HM := Lib.hid hm
      clear hm
      generalize l[k] = c at *
      by_cases hgood : mayC c = true
      · have h3 := HM.out
        rw [hgood] at h3
        have h4 : decide ((c.toNat : Int) < 33) = false ∧ decide ((126 : Int) < (c.toNat : Int)) = false ∧ ((c.toNat : Int) == 47) = false := b3_true h3
        obtain ⟨q1, q2, q3⟩ := h4
        clear h3
        go_wp2_with fail
        go_roundw
        case rel => exact ⟨k + 1, by omega, by go_num, HX.out, by rw [HE.out, HST.out, List.all_cons, hgood, Bool.true_and]⟩
        case measure => simp [intOf]; omega
      · have h3 := HM.out
        have hb : mayC c = false := by cases h : mayC c <;> simp_all
        rw [hb] at h3
        have hr0 : r = false := by rw [HALL.out, hb, Bool.false_and]
        subst hr0
        have h4 : decide ((c.toNat : Int) < 33) = true ∨ (decide ((c.toNat : Int) < 33) = false ∧ (decide ((126 : Int) < (c.toNat : Int)) = true ∨ (decide ((126 : Int) < (c.toNat : Int)) = false ∧ ((c.toNat : Int) == 47) = true))) := b3_false h3
        clear h3 hb hgood
        rcases h4 with q1 | ⟨q1, q2 | ⟨q2, q3⟩⟩
        all_goals
          go_wp2_with fail
          go_ret
          exact ⟨rfl, Hhx.out.trans HX.out⟩
    · obtain rfl : k = l.length := by omega
      have hr1 : r = true := by rw [HRA.out, HE.out, List.drop_length]; rfl
      subst hr1
      have hks : ¬ ((l.length : Int) < s.size) := by rw [← HBL.out]; omega
      go_wp2_with fail
      go_ret
      exact ⟨rfl, Hhx.out.trans HX.out⟩
end L12
end Go.Proofs.Ytkmbahpjioopdaa
