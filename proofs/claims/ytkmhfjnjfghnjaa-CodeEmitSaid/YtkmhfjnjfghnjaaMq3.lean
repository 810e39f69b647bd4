import Derived.Test.YtkmhfjnjfghnjaaMq2
import Derived.Test.YtkmhfjnjfghnjaaMq0
/- Layer 8: architectures as plain data; the walks of table, of the closure that asks for a token, of the search, of Of, and of the reference's Of. -/
namespace Go.Proofs.Ytkmhfjnjfghnjaa
open Go.RowKit V
namespace L08
def anames : List (List UInt8) := [[120, 56, 54, 45, 54, 52], [120, 56, 54], [120, 51, 50], [97, 114, 109], [97, 114, 109, 54, 52], [114, 105, 115, 99, 118, 54, 52]]
def toks : List Nat := [3221225534, 1073741827, 3221225534, 1073741864, 3221225655, 3221225715]
def tableV : Array Value := #[.string ⟨#[120, 56, 54, 45, 54, 52]⟩, .int .u32 3221225534, .string ⟨#[120, 56, 54]⟩, .int .u32 1073741827, .string ⟨#[120, 51, 50]⟩, .int .u32 3221225534,
  .string ⟨#[97, 114, 109]⟩, .int .u32 1073741864, .string ⟨#[97, 114, 109, 54, 52]⟩, .int .u32 3221225655, .string ⟨#[114, 105, 115, 99, 118, 54, 52]⟩, .int .u32 3221225715]
theorem lt6 (i : Nat) (h : i < 6) : i = 0 ∨ i = 1 ∨ i = 2 ∨ i = 3 ∨ i = 4 ∨ i = 5 := by omega
/-- the first architecture from one on of which something holds -/
def findN (p : Nat → Bool) : Nat → Nat → Int
  | 0, _ => -1
  | f + 1, k => if p k = true then (k : Int) else findN p f (k + 1)
def findFrom (p : Nat → Bool) (k : Nat) : Int := findN p (6 - k) k
theorem findFrom_step {p : Nat → Bool} {k : Nat} (h : k < 6) : findFrom p k = if p k = true then (k : Int) else findFrom p (k + 1) := by
  unfold findFrom
  rw [show 6 - k = (6 - (k + 1)) + 1 by omega]; rfl
theorem findFrom_end (p : Nat → Bool) : findFrom p 6 = -1 := rfl
def tokB (token k : Nat) : Bool := toks.getD k 0 == token
theorem table_calls (w : World) : Calls Try.prog 97 #[] w fun e w' => e = .returned (.agg tableV) ∧ Ext w w' := by
  go_enter Try.func97, Try.ntmps97
  go_wp2
  refine bodyPost_ret (v := .agg tableV) (by simp [results, Try.results97, go_sem]; rfl) rfl ⟨rfl, (Ext.refl _).alloc _⟩
theorem tokB_calls (nm : ByteArray) (tk token : Nat) (B : Nat) (w : World) (hB : w.cell? ⟨B, 0, none⟩ = some (.int .u32 (token : Int))) :
    Calls Try.prog 87 #[.agg #[.string nm, .int .u32 (tk : Int)], .pointer (some ⟨B, 0, none⟩)] w fun e w' => e = .returned (.bool (tk == token)) ∧ Ext w w' := by
  have hlt : B < w.heap.size := World.block_lt_of_cell? _ _ hB
  have hq : ((tk : Int) == (token : Int)) = (tk == token) := by rw [Bool.eq_iff_iff]; simp; omega
  cases he : tk == token
  all_goals
    rw [he] at hq
    have Hhe := Lib.hid he
    clear he
    go_enter Try.func87, Try.ntmps87
    go_wp2
    go_ret
    exact ⟨rfl, (Ext.refl _).alloc _⟩
set_option maxRecDepth 100000 in
set_option maxHeartbeats 400000 in
theorem idxTok_calls (g token B : Nat) (w : World) (hB : w.cell? ⟨B, 0, none⟩ = some (.int .u32 (token : Int))) (hc : ∀ i, i < 6 → w.cell? ⟨g, i * 2, none⟩ = some (.string ⟨(anames.getD i []).toArray⟩) ∧ w.cell? ⟨g, i * 2 + 1, none⟩ = some (.int .u32 (toks.getD i 0 : Nat))) :
    Calls Try.prog 106 #[.slice (some ⟨g, 0, none⟩) 6 6, .func (.func 87) #[] #[.pointer (some ⟨B, 0, none⟩)]] w fun e w' => e = .returned (.int .i64 (findFrom (tokB token) 0)) ∧ Ext w w' := by
  have Hhc := Lib.hid hc
  clear hc
  have hB0 := hB
  have HhB0 := Lib.hid hB0
  clear hB0
  go_enter Try.func106, Try.ntmps106
  go_wp2
  go_loopw [8] (fun i wr => ∃ k : Nat, k ≤ 6 ∧ i = .int .i64 k ∧ Ext w wr ∧ findFrom (tokB token) 0 = findFrom (tokB token) k) (fun i _ => 6 - (intOf i).toNat)
  case atStart => exact ⟨0, by omega, rfl, Ext.refl _, rfl⟩
  case round =>
    obtain ⟨k, hk, rfl, hx, heq⟩ := hrel
    have HX := Lib.hid hx
    by_cases hlt : k < 6
    · obtain ⟨c1, c2⟩ := Hhc.out k hlt
      replace c1 := hx.cell c1; replace c2 := hx.cell c2
      have hb := hx.cell HhB0.out
      rw [findFrom_step hlt] at heq
      have hp : tokB token k = (toks.getD k 0 == token) := rfl
      rw [hp] at heq
      clear hx hp
      generalize (⟨(anames.getD k []).toArray⟩ : ByteArray) = nm at *
      generalize toks.getD k 0 = tk at *
      have hK := fun W (h : W.cell? ⟨B, 0, none⟩ = some (.int .u32 (token : Int))) => tokB_calls nm tk token B W h
      cases he : tk == token
      all_goals
        rw [he] at hK heq
        have Hhe := Lib.hid he
        clear he
        have HhK := Lib.hid hK
        clear hK
        have Hheq := Lib.hid heq
        clear heq
        go_wp2_with (go_at_call 87; refine (HhK.out _ hb).mono ?_; rintro e w1 ⟨rfl, hx1⟩)
      · go_roundw
        case rel => exact ⟨k + 1, by omega, by go_num, HX.out.trans hx1, by rw [Hheq.out]; rfl⟩
        case measure => simp [intOf]; omega
      · go_ret
        exact ⟨by rw [Hheq.out]; rfl, HX.out.trans hx1⟩
    · obtain rfl : k = 6 := by omega
      rw [findFrom_end] at heq
      have Hheq := Lib.hid heq
      clear heq
      clear hx
      go_wp2
      go_ret
      exact ⟨by rw [Hheq.out]; rfl, HX.out⟩
set_option maxRecDepth 100000 in
theorem findTok_calls (token B : Nat) (w : World) (hB : w.cell? ⟨B, 0, none⟩ = some (.int .u32 (token : Int))) :
    Calls Try.prog 86 #[.func (.func 87) #[] #[.pointer (some ⟨B, 0, none⟩)]] w fun e w' => e = .returned (.int .i64 (findFrom (tokB token) 0)) ∧ Ext w w' := by
  go_enter Try.func86, Try.ntmps86
  go_wp2_with (go_at_call 97; refine (table_calls _).mono ?_; rintro e w1 ⟨rfl, hx1⟩; unfold tableV)
  refine (idxTok_calls w1.heap.size token B _ ((hx1.alloc _).cell hB) (fun i hi => ?_)).mono ?_
  · rcases lt6 i hi with rfl | rfl | rfl | rfl | rfl | rfl <;> simp [go_sem, anames, toks]
  rintro e w2 ⟨rfl, hx2⟩
  go_wp2
  go_ret
  exact ⟨rfl, (hx1.alloc _).trans hx2⟩
/-- x32's bit -/
def bit (nr : Nat) : Bool := decide (nr / 1073741824 % 2 = 1)
theorem and_pow (n : Nat) : n &&& 2 ^ 30 = if n.testBit 30 = true then 2 ^ 30 else 0 := by
  apply Nat.eq_of_testBit_eq
  intro i
  rw [Nat.testBit_and, Nat.testBit_two_pow]
  by_cases hi : 30 = i
  · subst hi
    by_cases h : n.testBit 30 = true
    · rw [if_pos h, h]; decide
    · simp [h]
  · by_cases h : n.testBit 30 = true
    · simp only [h, if_true, Nat.testBit_two_pow, hi, decide_false, Bool.and_false]
    · simp [h, hi]
theorem and_bit (nr : Nat) (h : nr < 4294967296) : bits .and .u32 (nr : Int) 1073741824 = (if bit nr = true then 1073741824 else 0) := by
  rw [u32_and _ _ (by omega) (by omega) (by decide) (by decide)]
  have e : Int.toNat 1073741824 = 2 ^ 30 := by decide
  rw [e, Int.toNat_natCast, and_pow, Nat.testBit_eq_decide_div_mod_eq]
  unfold bit
  rw [show (2 : Nat) ^ 30 = 1073741824 by decide]
  by_cases hb : nr / 1073741824 % 2 = 1 <;> simp [hb]
/-- whose a token and a number are -/
def ofA (token nr : Nat) : Int × Bool := if findFrom (tokB token) 0 < 0 then (0, false) else if findFrom (tokB token) 0 = 0 ∧ bit nr = true then (2, true) else (findFrom (tokB token) 0, true)
theorem findFrom_bd (p : Nat → Bool) : -1 ≤ findFrom p 0 ∧ findFrom p 0 ≤ 5 := by
  rw [findFrom_step (by omega)]; split; omega
  rw [findFrom_step (by omega)]; split; omega
  rw [findFrom_step (by omega)]; split; omega
  rw [findFrom_step (by omega)]; split; omega
  rw [findFrom_step (by omega)]; split; omega
  rw [findFrom_step (by omega)]; split; omega
  rw [findFrom_end]; omega
set_option maxRecDepth 100000 in
set_option maxHeartbeats 400000 in
theorem Of_calls (token nr : Nat) (hn : nr < 4294967296) (w : World) :
    Calls Try.prog 51 #[.int .u32 (token : Int), .int .u32 (nr : Int)] w fun e w' => e = .returned (.tuple #[.int .i64 (ofA token nr).1, .bool (ofA token nr).2]) ∧ Ext w w' := by
  have hb := findFrom_bd (tokB token)
  have hF := fun B W h => findTok_calls token B W h
  have hab := and_bit nr hn
  by_cases h0 : findFrom (tokB token) 0 < 0
  · have hA : ofA token nr = (0, false) := by unfold ofA; rw [if_pos h0]
    rw [hA]
    generalize findFrom (tokB token) 0 = f at *
    have hd : decide (f < 0) = true := decide_eq_true h0
    have Hh0 := Lib.hid h0
    clear h0
    have HhA := Lib.hid hA
    clear hA
    have HhF := Lib.hid hF
    clear hF
    have Hhab := Lib.hid hab
    clear hab
    go_enter Try.func51, Try.ntmps51
    go_wp2_with (go_at_call 86; refine (HhF.out _ _ (by simp [go_sem])).mono ?_; rintro e w1 ⟨rfl, hx1⟩)
    go_ret2
    exact ⟨rfl, ((Ext.refl _).alloc _).trans hx1⟩
  have hd : decide (findFrom (tokB token) 0 < 0) = false := decide_eq_false h0
  by_cases h1 : findFrom (tokB token) 0 = 0
  · have hd1 : (findFrom (tokB token) 0 == 0) = true := by rw [h1]; rfl
    cases hbt : bit nr
    · have hA : ofA token nr = (0, true) := by unfold ofA; rw [if_neg h0, if_neg (by rw [hbt]; simp), h1]
      rw [hA]
      rw [hbt, if_neg (by simp)] at hab
      have HhA := Lib.hid hA
      clear hA
      have Hhbt := Lib.hid hbt
      clear hbt
      rw [h1] at hF hd hd1 hb
      have HhF := Lib.hid hF
      clear hF
      have Hh1 := Lib.hid h1
      clear h1
      have Hh0 := Lib.hid h0
      clear h0
      go_enter Try.func51, Try.ntmps51
      go_wp2_with (go_at_call 86; refine (HhF.out _ _ (by simp [go_sem])).mono ?_; rintro e w1 ⟨rfl, hx1⟩)
      go_ret2
      exact ⟨rfl, ((Ext.refl _).alloc _).trans hx1⟩
    · have hA : ofA token nr = (2, true) := by unfold ofA; rw [if_neg h0, if_pos ⟨h1, hbt⟩]
      rw [hA]
      rw [hbt, if_pos rfl] at hab
      have HhA := Lib.hid hA
      clear hA
      have Hhbt := Lib.hid hbt
      clear hbt
      rw [h1] at hF hd hd1 hb
      have HhF := Lib.hid hF
      clear hF
      have Hh1 := Lib.hid h1
      clear h1
      have Hh0 := Lib.hid h0
      clear h0
      go_enter Try.func51, Try.ntmps51
      go_wp2_with (go_at_call 86; refine (HhF.out _ _ (by simp [go_sem])).mono ?_; rintro e w1 ⟨rfl, hx1⟩)
      go_ret2
      exact ⟨rfl, ((Ext.refl _).alloc _).trans hx1⟩
  · have hd1 : (findFrom (tokB token) 0 == 0) = false := by simp [h1]
    have hA : ofA token nr = (findFrom (tokB token) 0, true) := by unfold ofA; rw [if_neg h0, if_neg (fun h => h1 h.1)]
    rw [hA]
    dsimp only
    generalize findFrom (tokB token) 0 = f at *
    have HhA := Lib.hid hA
    clear hA
    have HhF := Lib.hid hF
    clear hF
    have Hh1 := Lib.hid h1
    clear h1
    have Hh0 := Lib.hid h0
    clear h0
    have Hhab := Lib.hid hab
    clear hab
    go_enter Try.func51, Try.ntmps51
    go_wp2_with (go_at_call 86; refine (HhF.out _ _ (by simp [go_sem])).mono ?_; rintro e w1 ⟨rfl, hx1⟩)
    go_ret2
    exact ⟨rfl, ((Ext.refl _).alloc _).trans hx1⟩
theorem refTokens_calls (w : World) : Calls Try.prog 88 #[] w fun e w' => ∃ g, e = .returned (.slice (some ⟨g, 0, none⟩) 6 6) ∧ Ext w w' ∧ ∀ i, i < 6 → w'.cell? ⟨g, i, none⟩ = some (.int .u32 (toks.getD i 0 : Nat)) := by
  go_enter Try.func88, Try.ntmps88
  go_wp2
  go_ret
  refine ⟨_, rfl, (Ext.refl _).alloc _, fun i hi => ?_⟩
  rcases lt6 i hi with rfl | rfl | rfl | rfl | rfl | rfl <;> simp [go_sem, toks]
set_option maxRecDepth 100000 in
set_option maxHeartbeats 400000 in
theorem refOf_calls (token nr : Nat) (hn : nr < 4294967296) (w : World) :
    Calls Try.prog 55 #[.int .u32 (token : Int), .int .u32 (nr : Int)] w fun e w' => e = .returned (.tuple #[.int .i64 (ofA token nr).1, .bool (ofA token nr).2]) ∧ Ext w w' := by
  by_cases h0 : token = 3221225534
  · have hf : findFrom (tokB token) 0 = 0 := by rw [findFrom_step (by omega), if_pos (by unfold tokB toks; rw [h0]; rfl)]; rfl
    subst h0
    cases hbt : bit nr
    · have hA : ofA 3221225534 nr = (0, true) := by unfold ofA; rw [hf, hbt]; rfl
      have hq : ((nr : Int) / 1073741824 % 2 == 1) = false := by unfold bit at hbt; simp at hbt; simp; omega
      rw [hA]
      have HhA := Lib.hid hA
      clear hA
      have Hhf := Lib.hid hf
      clear hf
      have Hhbt := Lib.hid hbt
      clear hbt
      go_enter Try.func55, Try.ntmps55
      go_wp2_with (go_at_call 88; refine (refTokens_calls _).mono ?_; rintro e w1 ⟨g, rfl, hx1, hc⟩; have c0 := hc 0 (by omega); simp only [toks, List.getD_cons_zero] at c0; clear hc)
      go_ret2
      exact ⟨rfl, hx1⟩
    · have hA : ofA 3221225534 nr = (2, true) := by unfold ofA; rw [hf, hbt]; rfl
      have hq : ((nr : Int) / 1073741824 % 2 == 1) = true := by unfold bit at hbt; simp at hbt; simp; omega
      rw [hA]
      have HhA := Lib.hid hA
      clear hA
      have Hhf := Lib.hid hf
      clear hf
      have Hhbt := Lib.hid hbt
      clear hbt
      go_enter Try.func55, Try.ntmps55
      go_wp2_with (go_at_call 88; refine (refTokens_calls _).mono ?_; rintro e w1 ⟨g, rfl, hx1, hc⟩; have c0 := hc 0 (by omega); simp only [toks, List.getD_cons_zero] at c0; clear hc)
      go_ret2
      exact ⟨rfl, hx1⟩
  · have hq0 : ((token : Int) == 3221225534) = false := by simp; omega
    have hf0 : findFrom (tokB token) 0 = findFrom (tokB token) 1 := by
      rw [findFrom_step (by omega), if_neg (by unfold tokB toks; simp; omega)]
    have hne : findFrom (tokB token) 0 ≠ 0 := by
      rw [hf0, findFrom_step (by omega)]; split; omega
      rw [findFrom_step (by omega)]; split; omega
      rw [findFrom_step (by omega)]; split; omega
      rw [findFrom_step (by omega)]; split; omega
      rw [findFrom_step (by omega)]; split; omega
      rw [findFrom_end]; omega
    have Hhne := Lib.hid hne
    clear hne
    have Hhf0 := Lib.hid hf0
    clear hf0
    have Hh0 := Lib.hid h0
    clear h0
    go_enter Try.func55, Try.ntmps55
    go_wp2_with (go_at_call 88; refine (refTokens_calls _).mono ?_; rintro e w1 ⟨g, rfl, hx1, hc⟩; have c0 := hc 0 (by omega); simp only [toks, List.getD_cons_zero] at c0; have Hc := Lib.hid hc; clear hc)
    have HX1 := Lib.hid hx1
    clear hx1
    go_loop [7] (fun i => ∃ k : Nat, k ≤ 6 ∧ i = .int .i64 k ∧ findFrom (tokB token) 0 = findFrom (tokB token) k) (fun i => 6 - (intOf i).toNat)
    case atStart => exact ⟨0, by omega, rfl, rfl⟩
    case round =>
      obtain ⟨k, hk, rfl, heq⟩ := hrel
      by_cases hlt : k < 6
      · have ck := Hc.out k hlt
        have hst := findFrom_step (p := tokB token) hlt
        have hp : tokB token k = (toks.getD k 0 == token) := rfl
        rw [hp, ← heq] at hst
        clear hp c0
        generalize toks.getD k 0 = tk at *
        have hqk : ((tk : Int) == (token : Int)) = (tk == token) := by rw [Bool.eq_iff_iff]; simp; omega
        cases he : tk == token
        · rw [he, if_neg (by simp)] at hst
          rw [he] at hqk
          have Hhe := Lib.hid he
          clear he
          have Hhst := Lib.hid hst
          clear hst
          have Hheq := Lib.hid heq
          clear heq
          go_wp2
          go_round
          case rel => exact ⟨k + 1, by omega, by go_num, Hhst.out⟩
          case measure => simp [intOf]; omega
        · rw [he, if_pos rfl] at hst
          rw [he] at hqk
          have hA : ofA token nr = ((k : Int), true) := by
            unfold ofA
            rw [if_neg (by omega), if_neg (fun h => Hhne.out h.1), hst]
          have Hhe := Lib.hid he
          clear he
          have Hhst := Lib.hid hst
          clear hst
          have Hheq := Lib.hid heq
          clear heq
          have HhA := Lib.hid hA
          clear hA
          go_wp2
          go_ret2
          exact ⟨by rw [HhA.out]; rfl, HX1.out⟩
      · obtain rfl : k = 6 := by omega
        have hA : ofA token nr = (0, false) := by unfold ofA; rw [heq, findFrom_end]; rfl
        have HhA := Lib.hid hA
        clear hA
        have Hheq := Lib.hid heq
        clear heq
        go_wp2
        go_ret2
        exact ⟨by rw [HhA.out]; rfl, HX1.out⟩
end L08
end Go.Proofs.Ytkmhfjnjfghnjaa

/- A region that draws its order, whose operations read what is kept and whose calls keep it: walked once, in the order of the text. -/
namespace Go.Proofs.Ytkmhfjnjfghnjaa
open Go.RowKit
namespace V
/-- a world in which all lies as it lay in W -/
structure XW (W : World) where
  w : World
  h : Ext W w
instance (W : World) : Nonempty (XW W) := ⟨⟨W, Ext.refl W⟩⟩
theorem xwc {W : World} {p : Addr} {v : Value} (h : W.cell? p = some v) : ∀ x : XW W, x.w.cell? p = some v := fun x => x.h.cell h
theorem wp_region_kept {P : Program} {id : Nat} {Q : Exit → Act → World → Prop} {a : Act} {w : World} {l : List Oper} (hm : P.follows .mixedOrders = true) (hB : Region.lexB .any l.toArray = true)
    (h : wpQuiet P l.toArray (fun w' => ∃ x : XW w, w' = x.w) (fun a' => ∀ w', (∃ x : XW w, w' = x.w) → Q .normal a' w') l a) : (Code.region id l.toArray true).wp P Q a w :=
  wp_region_quiet (C := fun w' => ∃ x : XW w, w' = x.w) hm hB ⟨⟨w.drew, (Ext.refl w).drew⟩, rfl⟩ (by simpa using h)
/-- a call that keeps what lay there -/
theorem calls_kept {P : Program} {f : FuncId} {args : Array Value} {W : World} {x : XW W} {v : Value} (h : Calls P f args x.w fun e w' => e = .returned v ∧ Ext x.w w') :
    Calls P f args x.w fun e w'' => e = .returned v ∧ ∃ y : XW W, w'' = y.w := h.mono fun _ w' ⟨he, hx⟩ => ⟨he, ⟨w', x.h.trans hx⟩, rfl⟩
end V
end Go.Proofs.Ytkmhfjnjfghnjaa

