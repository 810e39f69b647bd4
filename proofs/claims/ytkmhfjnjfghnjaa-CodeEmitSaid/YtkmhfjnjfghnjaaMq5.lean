import Derived.Test.YtkmhfjnjfghnjaaMq2
import Derived.Deep.DeepCutAuto
import Derived.Test.YtkmhfjnjfghnjaaMq4
import Derived.Laws.IdiomArrays
/- Layer 25: rows as plain data; which may be; the walks of asks and of the closure that asks whether a place is there. -/
namespace Go.Proofs.Ytkmhfjnjfghnjaa
open Go.RowKit V
namespace L25
structure Sy where
  c : Nat
  k : Nat
  th : Int
  el : Int
structure OkY (s : Sy) : Prop where
  c : s.c < 65536
  k : s.k < 4294967296
  t1 : -9223372036854775808 ≤ s.th
  t2 : s.th ≤ 9223372036854775807
  e1 : -9223372036854775808 ≤ s.el
  e2 : s.el ≤ 9223372036854775807
def encY (s : Sy) : List Value := [.int .u16 (s.c : Int), .int .u32 (s.k : Int), .int .i64 s.th, .int .i64 s.el]
theorem encY_len (s : Sy) : (encY s).length = 4 := rfl
theorem encY_one (s : Sy) : ∀ u ∈ encY s, u.oneCell' = true := by
  intro u hu; simp [encY] at hu; rcases hu with rfl | rfl | rfl | rfl <;> rfl
theorem rdY_cell {w : World} {v : Value} {xs : List Sy} (h : Rd w 4 encY v xs) : ∃ a c, v = .slice a xs.length c ∧ xs.length ≤ c ∧ ∀ i, (hi : i < xs.length) → ∃ b o, a = some ⟨b, o, none⟩ ∧
    w.cell? ⟨b, o + i * 4, none⟩ = some (.int .u16 (xs[i].c : Int)) ∧ w.cell? ⟨b, o + i * 4 + 1, none⟩ = some (.int .u32 (xs[i].k : Int)) ∧ w.cell? ⟨b, o + i * 4 + 2, none⟩ = some (.int .i64 xs[i].th) ∧
    w.cell? ⟨b, o + i * 4 + 3, none⟩ = some (.int .i64 xs[i].el) := by
  obtain ⟨a, c, h1, h2, h3, h4⟩ := h
  refine ⟨a, c, h1, h2, fun i hi => ?_⟩
  obtain ⟨b, o, e, k⟩ := h4 i hi
  exact ⟨b, o, e, k 0 (by simp [encY]), k 1 (by simp [encY]), k 2 (by simp [encY]), k 3 (by simp [encY])⟩
def asksB (c : Nat) : Bool := (c == 21) || ((c == 37) || ((c == 53) || (c == 69)))
def there (len i : Nat) (n : Int) : Bool := decide ((i : Int) < n) && decide (n < (len : Int))
def none_ (s : Sy) : Bool := (s.th == 0) && (s.el == 0)
def may1 (len i : Nat) (s : Sy) : Bool :=
  if s.c = 32 then none_ s && okW s.k
  else if s.c = 84 ∨ s.c = 6 then none_ s
  else if s.c = 5 then (s.k == 0) && ((s.el == 0) && there len i s.th)
  else asksB s.c && (there len i s.th && there len i s.el)
def mayL (len : Nat) : List Sy → Nat → Bool
  | [], _ => true
  | n :: r, i => may1 len i n && mayL len r (i + 1)
def lastc (l : List Sy) : Nat := match l[l.length - 1]? with
  | some s => s.c
  | none => 0
def mayA (l : List Sy) : Bool := decide (0 < l.length) && (decide (l.length ≤ 131072) && ((lastc l == 6) && mayL l.length l 0))
theorem mayL_step {t : List Sy} {k : Nat} (len : Nat) (h : k < t.length) : mayL len (t.drop k) k = (may1 len k t[k] && mayL len (t.drop (k + 1)) (k + 1)) := by
  rw [List.drop_eq_getElem_cons h]; rfl
theorem mayL_end (len : Nat) (t : List Sy) (i : Nat) : mayL len (t.drop t.length) i = true := by rw [List.drop_length]; rfl
theorem mayL_get : ∀ {r : List Sy} {len i j : Nat}, mayL len r i = true → ∀ (h : j < r.length), may1 len (i + j) r[j] = true
  | n :: r, len, i, 0, hm, _ => by simp only [mayL, Bool.and_eq_true] at hm; exact hm.1
  | n :: r, len, i, j + 1, hm, h => by
    simp only [mayL, Bool.and_eq_true] at hm
    have := mayL_get hm.2 (j := j) (by simpa using h)
    simpa [Nat.add_assoc, Nat.add_comm 1 j] using this
theorem mayA_get {l : List Sy} (h : mayA l = true) {j : Nat} (hj : j < l.length) : may1 l.length j l[j] = true := by
  unfold mayA at h
  simp only [Bool.and_eq_true] at h
  have := mayL_get h.2.2.2 hj
  rwa [Nat.zero_add] at this
theorem lastc_get {l : List Sy} (h : 0 < l.length) : lastc l = (l[l.length - 1]'(by omega)).c := by
  unfold lastc; rw [List.getElem?_eq_getElem (by omega)]
theorem mayA_pos {l : List Sy} (h : mayA l = true) : 0 < l.length := by unfold mayA at h; simp at h; exact h.1
theorem mayA_last {l : List Sy} (h : mayA l = true) : (l[l.length - 1]'(by have := mayA_pos h; omega)).c = 6 := by
  have hp := mayA_pos h
  rw [← lastc_get hp]
  unfold mayA at h; simp at h; exact h.2.2.1
set_option maxHeartbeats 400000 in
theorem asks_calls (c : Nat) (w : World) : Calls Try.prog 93 #[.int .u16 (c : Int)] w fun e w' => e = .returned (.bool (asksB c)) ∧ Ext w w' := by
  have e1 : ((c : Int) == 21) = (c == 21) := by rw [Bool.eq_iff_iff]; simp; omega
  have e2 : ((c : Int) == 37) = (c == 37) := by rw [Bool.eq_iff_iff]; simp; omega
  have e3 : ((c : Int) == 53) = (c == 53) := by rw [Bool.eq_iff_iff]; simp; omega
  have e4 : ((c : Int) == 69) = (c == 69) := by rw [Bool.eq_iff_iff]; simp; omega
  unfold asksB
  generalize (c == 21) = b1 at *
  generalize (c == 37) = b2 at *
  generalize (c == 53) = b3 at *
  generalize (c == 69) = b4 at *
  cases b1
  · cases b2
    · cases b3
      · go_enter Try.func93, Try.ntmps93
        go_wp2
        go_ret
        exact ⟨by simp, Ext.refl _⟩
      · go_enter Try.func93, Try.ntmps93
        go_wp2
        go_ret
        exact ⟨rfl, Ext.refl _⟩
    · go_enter Try.func93, Try.ntmps93
      go_wp2
      go_ret
      exact ⟨rfl, Ext.refl _⟩
  · go_enter Try.func93, Try.ntmps93
    go_wp2
    go_ret
    exact ⟨rfl, Ext.refl _⟩
theorem there_calls (n : Int) (len i B C : Nat) (w : World) (hB : w.cell? ⟨B, 0, none⟩ = some (.int .i64 (i : Int))) (hC : w.cell? ⟨C, 0, none⟩ = some (.int .i64 (len : Int))) :
    Calls Try.prog 92 #[.int .i64 n, .pointer (some ⟨B, 0, none⟩), .pointer (some ⟨C, 0, none⟩)] w fun e w' => e = .returned (.bool (there len i n)) ∧ Ext w w' := by
  unfold there
  cases h : decide ((i : Int) < n)
  all_goals
    go_enter Try.func92, Try.ntmps92
    go_wp2
    go_ret
    exact ⟨by simp, Ext.refl _⟩
end L25
end Go.Proofs.Ytkmhfjnjfghnjaa

/- Layer 25: how a row and data of the given input read; what the seat's program has laid out. -/
namespace Go.Proofs.Ytkmhfjnjfghnjaa
open Go.RowKit Go.ChangeShapes Go.WideShapes Go.ChangeAt V
theorem Try.own : ownKnob Try.prog.godebug = none := by kernel_rfl
theorem Try.laidOut : laidOutB Try.prog = true := by kernel_rfl
namespace L25
section
variable {H : Type} {enc : TypeId × Value → H} {W : World}
theorem trod_array6 {P : Program} {base : Nat} {spare : Nat → Bool} {held : Bool} {t e : TypeId} {fuel : Nat} {c0 c1 c2 c3 c4 c5 : Value} {x : DataW H × List MemPlace} (ht : P.underlying t = some (.array 6 e)) (hce : P.cellsOf e = 1)
    (h : DataW.trod enc P W base spare held fuel t [c0, c1, c2, c3, c4, c5] = some x) :
    ∃ y0 y1 y2 y3 y4 y5 n, DataW.trod enc P W base spare held n e [c0] = some y0 ∧ DataW.trod enc P W base spare held n e [c1] = some y1 ∧ DataW.trod enc P W base spare held n e [c2] = some y2 ∧ DataW.trod enc P W base spare held n e [c3] = some y3 ∧ DataW.trod enc P W base spare held n e [c4] = some y4 ∧ DataW.trod enc P W base spare held n e [c5] = some y5 := by
  cases fuel with
  | zero => simp [DataW.trod] at h
  | succ n =>
    unfold DataW.trod at h
    rw [ht] at h
    have r6 : List.range 6 = [0, 1, 2, 3, 4, 5] := rfl
    simp [r6, hce] at h
    obtain ⟨_, h⟩ := h
    cases h0 : DataW.trod enc P W base spare held n e [c0] with
    | none => simp [h0] at h
    | some y0 =>
      cases h1 : DataW.trod enc P W base spare held n e [c1] with
      | none => simp [h0, h1] at h
      | some y1 =>
        cases h2 : DataW.trod enc P W base spare held n e [c2] with
        | none => simp [h0, h1, h2] at h
        | some y2 =>
          cases h3 : DataW.trod enc P W base spare held n e [c3] with
          | none => simp [h0, h1, h2, h3] at h
          | some y3 =>
            cases h4 : DataW.trod enc P W base spare held n e [c4] with
            | none => simp [h0, h1, h2, h3, h4] at h
            | some y4 =>
              cases h5 : DataW.trod enc P W base spare held n e [c5] with
              | none => simp [h0, h1, h2, h3, h4, h5] at h
              | some y5 => exact ⟨y0, y1, y2, y3, y4, y5, n, h0, h1, h2, h3, h4, h5⟩
theorem trod_part {P : Program} {t : TypeId} {fs : Array Field} {fuel i : Nat} {f : Field} {cs cs' : List Value} {x : DataW H × List MemPlace}
    (ht : P.underlying t = some (.struct fs)) (hf : fs[i]? = some f) (hc : (cs.drop f.offset).take (P.cellsOf f.type) = cs') (h : DataW.trod enc P W 0 (fun _ => true) true fuel t cs = some x) :
    ∃ n y, DataW.trod enc P W 0 (fun _ => true) true n f.type cs' = some y := by
  obtain ⟨xs, n, -, hx, -, hlen, hall⟩ := DataW.trod_struct ht h
  have h1 := hall i f hf
  rw [hc] at h1
  have hi2 : i < xs.length := by rw [hlen]; exact (Array.getElem?_eq_some_iff.1 hf).1
  rw [List.getElem?_eq_getElem hi2] at h1
  exact ⟨n, _, h1⟩
theorem dec_Y (fuel : Nat) (cs : List Value) (y : DataW H × List MemPlace) (h : DataW.trod enc Try.prog W 0 (fun _ => true) true fuel 70 cs = some y) (hl : Light Try.prog 70 y.1) (hn : cs.length = 4) :
    ∃ s : Sy, cs = encY s ∧ OkY s := by
  match cs, hn with
  | [c0, c1, c2, c3], _ =>
  obtain ⟨n0, y0, h0, -⟩ := trod_field (i := 0) Try.underlying70 rfl rfl (by kernel_rfl) h rfl hl
  obtain ⟨n1, y1, h1, -⟩ := trod_field (i := 1) Try.underlying70 rfl rfl (by kernel_rfl) h rfl hl
  obtain ⟨n2, y2, h2, -⟩ := trod_field (i := 2) Try.underlying70 rfl rfl (by kernel_rfl) h rfl hl
  obtain ⟨n3, y3, h3, -⟩ := trod_field (i := 3) Try.underlying70 rfl rfl (by kernel_rfl) h rfl hl
  obtain ⟨a0, e0, -, w0⟩ := DataW.trod_int Try.underlying68 h0
  obtain ⟨a1, e1, -, w1⟩ := DataW.trod_int Try.underlying23 h1
  obtain ⟨a2, e2, -, w2⟩ := DataW.trod_int Try.underlying3 h2
  obtain ⟨a3, e3, -, w3⟩ := DataW.trod_int Try.underlying3 h3
  simp only [List.cons.injEq, and_true] at e0 e1 e2 e3
  subst e0 e1 e2 e3
  obtain ⟨a0, rfl, b0⟩ : ∃ n : Nat, a0 = (n : Int) ∧ n < 65536 := by
    simp [Lit.wf, IntKind.min, IntKind.max, IntKind.signed, IntKind.bits] at w0
    exact ⟨a0.toNat, by omega, by omega⟩
  obtain ⟨a1, rfl, b1⟩ := wf_u32 w1
  exact ⟨⟨a0, a1, a2, a3⟩, rfl, ⟨b0, b1, (wf_i64 w2).1, (wf_i64 w2).2, (wf_i64 w3).1, (wf_i64 w3).2⟩⟩
set_option maxRecDepth 100000 in
theorem dec_D {base : Nat} {v : Value} {d : DataW H} {p : List MemPlace} (hv : Value.okWide Try.prog W .any base 40 v) (h : DataW.Trod enc Try.prog W 0 (fun _ => true) true 40 v d p) (hl : Light Try.prog 40 d) :
    ∃ x : Dat, v = datV x ∧ OkD x := by
  obtain ⟨cs, rfl, hsz⟩ := okWide_struct Try.underlying40 hv
  rw [show Try.prog.cellsOf 40 = 9 by kernel_rfl] at hsz
  obtain ⟨fuel, h⟩ := h
  simp only [Value.cells] at h
  obtain ⟨l⟩ := cs
  simp only [List.size_toArray] at hsz h
  match l, hsz with
  | [c0, c1, c2, c3, c4, c5, c6, c7, c8], _ =>
  obtain ⟨n0, y0, h0, -⟩ := trod_field (i := 0) Try.underlying40 rfl rfl (by kernel_rfl) h rfl hl
  obtain ⟨n1, y1, h1, -⟩ := trod_field (i := 1) Try.underlying40 rfl rfl (by kernel_rfl) h rfl hl
  obtain ⟨n2, y2, h2, -⟩ := trod_field (i := 2) Try.underlying40 rfl rfl (by kernel_rfl) h rfl hl
  obtain ⟨n3, y3, h3⟩ := trod_part (i := 3) (cs' := [c3, c4, c5, c6, c7, c8]) Try.underlying40 rfl (by show (List.drop 3 _).take (Try.prog.cellsOf 38) = _; rw [show Try.prog.cellsOf 38 = 6 by kernel_rfl]; rfl) h
  have h3b : DataW.trod enc Try.prog W 0 (fun _ => true) true n3 38 [c3, c4, c5, c6, c7, c8] = some y3 := h3
  obtain ⟨z0, z1, z2, z3, z4, z5, n, k0, k1, k2, k3, k4, k5⟩ := trod_array6 (c0 := c3) (c1 := c4) (c2 := c5) (c3 := c6) (c4 := c7) (c5 := c8) Try.underlying38 (by kernel_rfl) h3b
  obtain ⟨a0, e0, -, w0⟩ := DataW.trod_int Try.underlying23 h0
  obtain ⟨a1, e1, -, w1⟩ := DataW.trod_int Try.underlying23 h1
  obtain ⟨a2, e2, -, w2⟩ := DataW.trod_int Try.underlying35 h2
  obtain ⟨a3, e3, -, w3⟩ := DataW.trod_int Try.underlying35 k0
  obtain ⟨a4, e4, -, w4⟩ := DataW.trod_int Try.underlying35 k1
  obtain ⟨a5, e5, -, w5⟩ := DataW.trod_int Try.underlying35 k2
  obtain ⟨a6, e6, -, w6⟩ := DataW.trod_int Try.underlying35 k3
  obtain ⟨a7, e7, -, w7⟩ := DataW.trod_int Try.underlying35 k4
  obtain ⟨a8, e8, -, w8⟩ := DataW.trod_int Try.underlying35 k5
  simp only [List.cons.injEq, and_true] at e0 e1 e2 e3 e4 e5 e6 e7 e8
  subst e0 e1 e2 e3 e4 e5 e6 e7 e8
  obtain ⟨a0, rfl, b0⟩ := wf_u32 w0
  obtain ⟨a1, rfl, b1⟩ := wf_u32 w1
  obtain ⟨a2, rfl, b2⟩ := wf_u64 w2
  obtain ⟨a3, rfl, b3⟩ := wf_u64 w3
  obtain ⟨a4, rfl, b4⟩ := wf_u64 w4
  obtain ⟨a5, rfl, b5⟩ := wf_u64 w5
  obtain ⟨a6, rfl, b6⟩ := wf_u64 w6
  obtain ⟨a7, rfl, b7⟩ := wf_u64 w7
  obtain ⟨a8, rfl, b8⟩ := wf_u64 w8
  exact ⟨⟨a0, a1, a2, a3, a4, a5, a6, a7, a8⟩, rfl, ⟨b0, b1, b2, b3, b4, b5, b6, b7, b8⟩⟩
end
end L25
end Go.Proofs.Ytkmhfjnjfghnjaa

