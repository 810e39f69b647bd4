/- Layer 15: the walks of Words, Bool, reads. -/
import Derived.Test.YtojlpocpcakcbaaDoorValA
namespace Go.Proofs.YtojlpocpcakcbaaDoor
open Go.RowKit Go.Shelf Go.Sort V
attribute [local go_sem] Oper.semAt_some
namespace L10
def blankN (c : Nat) : Bool := c == 32 || c == 9 || c == 13
set_option maxHeartbeats 400000 in
theorem blankR_calls (c : Nat) (w : World) : Calls Tryd.prog 50 #[.int .i32 (c : Int)] w fun e w' => e = .returned (.bool (blankN c)) ∧ w = w' := by
  unfold blankN
  have e1 : ((c : Int) == 32) = (c == 32) := by rw [Bool.eq_iff_iff]; simp; omega
  have e2 : ((c : Int) == 9) = (c == 9) := by rw [Bool.eq_iff_iff]; simp; omega
  have e3 : ((c : Int) == 13) = (c == 13) := by rw [Bool.eq_iff_iff]; simp; omega
  generalize (c == 32) = b1 at *
  generalize (c == 9) = b2 at *
  generalize (c == 13) = b3 at *
  cases b1 <;> cases b2 <;> cases b3
  all_goals
    go_enter Tryd.func50, Tryd.ntmps50
    go_wp2
    go_ret
    exact ⟨rfl, rfl⟩
def saysV : Array Value := #[.string ⟨#[110, 111]⟩, .string ⟨#[102, 97, 108, 115, 101]⟩, .string ⟨#[111, 102, 102]⟩, .string ⟨#[48]⟩, .string ⟨#[121, 101, 115]⟩, .string ⟨#[116, 114, 117, 101]⟩, .string ⟨#[111, 110]⟩, .string ⟨#[49]⟩]
set_option maxRecDepth 100000 in
set_option maxHeartbeats 1000000 in
theorem says_calls (w : World) : Calls Tryd.prog 51 #[] w fun e w' => e = .returned (.agg saysV) ∧ Ext w w' := by
  go_enter Tryd.func51, Tryd.ntmps51
  go_wp2_with fail
  exact bodyPost_ret (v := .agg saysV) (by simp [results, Tryd.results51, go_sem, saysV]) rfl ⟨rfl, (Ext.refl _).alloc _⟩
def noS : List ByteArray := [⟨#[110, 111]⟩, ⟨#[102, 97, 108, 115, 101]⟩, ⟨#[111, 102, 102]⟩, ⟨#[48]⟩]
def yesS : List ByteArray := [⟨#[121, 101, 115]⟩, ⟨#[116, 114, 117, 101]⟩, ⟨#[111, 110]⟩, ⟨#[49]⟩]
def boolL (s : ByteArray) : Bool × Int := if Lib.containsS noS s = true then (false, 0) else if Lib.containsS yesS s = true then (true, 0) else (false, 150)
set_option maxRecDepth 100000 in
theorem says0 (W : World) : (Instr.index 89 (.agg saysV) (.int .i64 0)).run Tryd.prog W = .ok (.agg #[.string ⟨#[110, 111]⟩, .string ⟨#[102, 97, 108, 115, 101]⟩, .string ⟨#[111, 102, 102]⟩, .string ⟨#[48]⟩]) W := rfl
set_option maxRecDepth 100000 in
theorem says1 (W : World) : (Instr.index 89 (.agg saysV) (.int .i64 1)).run Tryd.prog W = .ok (.agg #[.string ⟨#[121, 101, 115]⟩, .string ⟨#[116, 114, 117, 101]⟩, .string ⟨#[111, 110]⟩, .string ⟨#[49]⟩]) W := rfl
theorem has_no (W : World) (s : ByteArray) (t : TypeId) : Calls Tryd.prog 52 #[.slice (some ⟨W.heap.size, 0, none⟩) 4 4, .string s] (W.alloc (.cells #[.string ⟨#[110, 111]⟩, .string ⟨#[102, 97, 108, 115, 101]⟩, .string ⟨#[111, 102, 102]⟩, .string ⟨#[48]⟩] t)) fun e w' => e = .returned (.bool (Lib.containsS noS s)) ∧ w' = W.alloc (.cells #[.string ⟨#[110, 111]⟩, .string ⟨#[102, 97, 108, 115, 101]⟩, .string ⟨#[111, 102, 102]⟩, .string ⟨#[48]⟩] t) := by
  refine Tryd.slices_Contains_string W.heap.size 0 4 4 noS s _ (by decide) (by decide) (fun j hj => ?_)
  have hj4 : j < 4 := hj
  have h := fun v hv => cells_new W [.string ⟨#[110, 111]⟩, .string ⟨#[102, 97, 108, 115, 101]⟩, .string ⟨#[111, 102, 102]⟩, .string ⟨#[48]⟩] t j v hv
  rw [Nat.zero_add]
  match j, hj4 with
  | 0, _ => exact h _ rfl
  | 1, _ => exact h _ rfl
  | 2, _ => exact h _ rfl
  | 3, _ => exact h _ rfl
theorem has_yes (W : World) (s : ByteArray) (t : TypeId) : Calls Tryd.prog 52 #[.slice (some ⟨W.heap.size, 0, none⟩) 4 4, .string s] (W.alloc (.cells #[.string ⟨#[121, 101, 115]⟩, .string ⟨#[116, 114, 117, 101]⟩, .string ⟨#[111, 110]⟩, .string ⟨#[49]⟩] t)) fun e w' => e = .returned (.bool (Lib.containsS yesS s)) ∧ w' = W.alloc (.cells #[.string ⟨#[121, 101, 115]⟩, .string ⟨#[116, 114, 117, 101]⟩, .string ⟨#[111, 110]⟩, .string ⟨#[49]⟩] t) := by
  refine Tryd.slices_Contains_string W.heap.size 0 4 4 yesS s _ (by decide) (by decide) (fun j hj => ?_)
  have hj4 : j < 4 := hj
  have h := fun v hv => cells_new W [.string ⟨#[121, 101, 115]⟩, .string ⟨#[116, 114, 117, 101]⟩, .string ⟨#[111, 110]⟩, .string ⟨#[49]⟩] t j v hv
  rw [Nat.zero_add]
  match j, hj4 with
  | 0, _ => exact h _ rfl
  | 1, _ => exact h _ rfl
  | 2, _ => exact h _ rfl
  | 3, _ => exact h _ rfl
set_option maxRecDepth 100000 in
set_option maxHeartbeats 2000000 in
theorem Bool_calls (s : ByteArray) (w : World) : Calls Tryd.prog 44 #[.string s] w fun e w' => e = .returned (.tuple #[.bool (boolL s).1, .int .i64 (boolL s).2]) ∧ Ext w w' := by
  have hT := fun W => says_calls W
  have hB : boolL s = if Lib.containsS noS s = true then (false, 0) else if Lib.containsS yesS s = true then (true, 0) else (false, 150) := rfl
  have hN := fun W t => has_no W s t
  have hY := fun W t => has_yes W s t
  generalize Lib.containsS noS s = b1 at *
  generalize Lib.containsS yesS s = b2 at *
  have hi0 := says0
  have hi1 := says1
  obtain ⟨RR, hRR⟩ : ∃ RR, RR = boolL s := ⟨_, rfl⟩
  rw [← hRR] at hB ⊢
  have HhB := Lib.hid hB
  clear hB
  have HhT := Lib.hid hT
  clear hT
  have HhN := Lib.hid hN
  clear hN
  have HhY := Lib.hid hY
  clear hY
  clear hRR
  go_enter Tryd.func44, Tryd.ntmps44
  go_wp2_with fail
  refine (HhT.out _).mono ?_
  rintro e w1 ⟨rfl, hx1⟩
  have HX1 := Lib.hid hx1
  clear hx1
  go_wp2_with fail
  go_loopw [7] (fun ui wr => (ui = .int .i64 0 ∧ Ext w wr) ∨ (ui = .int .i64 1 ∧ b1 = false ∧ Ext w wr) ∨ (ui = .int .i64 2 ∧ b1 = false ∧ b2 = false ∧ Ext w wr)) (fun ui _ => 2 - (intOf ui).toNat)
  case atStart => exact .inl ⟨rfl, HX1.out⟩
  case round =>
    rcases hrel with ⟨rfl, hx⟩ | ⟨rfl, rfl, hx⟩ | ⟨rfl, rfl, rfl, hx⟩
    · have HX := Lib.hid hx
      clear hx
      go_wp2_with fail
      refine (HhN.out _ _).mono ?_
      rintro e w2 ⟨rfl, rfl⟩
      cases b1
      · go_wp2_with fail
        go_roundw
        case rel => exact .inr (.inl ⟨rfl, trivial, HX.out.alloc _⟩)
        case measure => simp [intOf]
      · have hf : RR = (false, 0) := by rw [HhB.out]; rfl
        have Hhf := Lib.hid hf
        clear hf
        go_wp2_with fail
        go_ret2
        exact ⟨by rw [Hhf.out]; rfl, HX.out.alloc _⟩
    · have HX := Lib.hid hx
      clear hx
      go_wp2_with fail
      refine (HhY.out _ _).mono ?_
      rintro e w2 ⟨rfl, rfl⟩
      cases b2
      · go_wp2_with fail
        go_roundw
        case rel => exact .inr (.inr ⟨rfl, trivial, trivial, HX.out.alloc _⟩)
        case measure => simp [intOf]
      · have hf : RR = (true, 0) := by rw [HhB.out]; rfl
        have Hhf := Lib.hid hf
        clear hf
        go_wp2_with fail
        go_ret2
        exact ⟨by rw [Hhf.out]; rfl, HX.out.alloc _⟩
    · have HX := Lib.hid hx
      clear hx
      have hf : RR = (false, 150) := by rw [HhB.out]; rfl
      have Hhf := Lib.hid hf
      clear hf
      go_wp2_with fail
      go_ret2
      exact ⟨by rw [Hhf.out]; rfl, HX.out⟩
theorem run_enter {P : Program} {f : FuncId} {fn : Func} {c : Code} (hf : P.funcs[f]? = some fn) (hname : (fn.name == "runtime.NumGoroutine") = false) (hb : fn.body = some c) (args : Array Value) (w : World) :
    (callFunc f args).run P w = .ok (.enter f args) w := by
  have h1 : fn.name ≠ "runtime.NumGoroutine" := by simpa using hname
  simp [callFunc, hf, h1, hb]
def encS1 (x : ByteArray) : List Value := [.string x]
theorem encS1_len (x : ByteArray) : (encS1 x).length = 1 := rfl
set_option maxRecDepth 100000 in
set_option maxHeartbeats 1000000 in
theorem Words_calls (s : ByteArray) (hs : s.size ≤ 1000000) (w : World) : Calls Tryd.prog 43 #[.string s] w fun e w' => ∃ v, e = .returned v ∧ Ext w w' ∧ w'.ownsRow w.heap.size 9 1 v (Lib.goFieldsP blankN s).length ((Lib.goFieldsP blankN s).flatMap encS1) := by
  have hp : ∀ W, PredAtRunes Tryd.prog 50 #[] blankN W := fun W W' x _ _ => (blankR_calls x W').mono (by
    rintro e w' ⟨rfl, rfl⟩
    exact ⟨rfl, 0, rfl⟩)
  have hF := fun W => Tryd.strings_FieldsFunc_runes 50 #[] (fun args W => run_enter Tryd.func50 (by kernel_rfl) rfl args W) blankN s W (by omega) (hp W)
  have hfm : (Lib.goFieldsP blankN s).map Value.string = (Lib.goFieldsP blankN s).flatMap encS1 := by
    generalize Lib.goFieldsP blankN s = l
    induction l with
    | nil => rfl
    | cons x r ih => rw [List.map_cons, ih]; rfl
  rw [hfm] at hF
  generalize Lib.goFieldsP blankN s = L at *
  clear hfm hp
  have HhF := Lib.hid hF
  clear hF
  go_enter Tryd.func43, Tryd.ntmps43
  go_wp2_with fail
  refine (HhF.out _).mono ?_
  rintro e w1 ⟨A, rfl, hA, ho, hb⟩
  go_wp2_with fail
  go_ret
  exact ⟨_, rfl, hb, ho⟩
set_option maxRecDepth 100000 in
set_option maxHeartbeats 1000000 in
theorem reads_calls (s : ByteArray) (hs : s.size ≤ 1000000) (w : World) : Calls Tryd.prog 45 #[.string s] w fun e w' => e = .returned (.tuple #[.int .u32 ((if (readL (bytes s)).2 = 0 then (readL (bytes s)).1.2.1 else 7 : Nat) : Int), .int .i64 (readL (bytes s)).2]) ∧ Ext w w' := by
  have hR := fun W => Read_calls s hs W
  generalize readL (bytes s) = R at *
  obtain ⟨⟨nm, a, hb⟩, q⟩ := R
  unfold enV at hR
  dsimp only at *
  have HhR := Lib.hid hR
  clear hR
  by_cases h0 : q = 0
  · subst h0
    go_enter Tryd.func45, Tryd.ntmps45
    go_wp2_with fail
    refine (HhR.out _).mono ?_
    rintro e w1 ⟨rfl, hx1⟩
    go_wp2_with fail
    go_ret2
    exact ⟨rfl, hx1.alloc _⟩
  · have hq : (q != 0) = true := by simpa using h0
    rw [if_neg h0]
    clear h0
    go_enter Tryd.func45, Tryd.ntmps45
    go_wp2_with fail
    refine (HhR.out _).mono ?_
    rintro e w1 ⟨rfl, hx1⟩
    go_wp2_with fail
    go_ret2
    exact ⟨rfl, hx1.alloc _⟩
end L10
end Go.Proofs.YtojlpocpcakcbaaDoor
