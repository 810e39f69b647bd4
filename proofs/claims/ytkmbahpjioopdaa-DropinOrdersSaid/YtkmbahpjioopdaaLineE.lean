/- Layer 12: the walk of Split. -/
import Derived.Laws.EntriesVeiled
import Derived.Test.YtkmbahpjioopdaaLineD
namespace Go.Proofs.Ytkmbahpjioopdaa
open Go.RowKit Go.Shelf V
attribute [local go_sem] Oper.semAt_some
namespace L12
abbrev St := List LN × Nat × List UInt8
def stepS (st : St) (x : LN) : St :=
  if commentL x.2 = true then st
  else if Lib.hasSuffix x.2 [92] = true then (st.1, if st.2.1 = 0 then x.1 else st.2.1, st.2.2 ++ (Lib.trimSuffix x.2 [92] ++ [32]))
  else (endL (if st.2.1 = 0 then x.1 else st.2.1) (st.2.2 ++ x.2) st.1, 0, [])
def stS (pre : List LN) : St := pre.foldl stepS ([], 0, [])
def splitL (bs : List UInt8) : List LN := endL (stS (numF 1 (linesL bs))).2.1 (stS (numF 1 (linesL bs))).2.2 (stS (numF 1 (linesL bs))).1
def splitA (bs : List UInt8) : List LN × Int := if 65536 < bs.length then ([], 3) else if 1000 < (linesL bs).length then ([], 4) else (splitL bs, 0)
theorem stS_snoc (pre : List LN) (x : LN) : stS (pre ++ [x]) = stepS (stS pre) x := by
  unfold stS; rw [List.foldl_append]; rfl
theorem endL_len (n : Nat) (t : List UInt8) (xs : List LN) : (endL n t xs).length ≤ xs.length + 1 := by
  unfold endL; split <;> simp
theorem trimSuffix_len (l p : List UInt8) : (Lib.trimSuffix l p).length ≤ l.length := by
  unfold Lib.trimSuffix; split
  · exact List.length_take_le' _ _
  · exact Nat.le_refl _
def Bd (M : Nat) (st : St) (k : Nat) : Prop := st.1.length ≤ k ∧ st.2.2.length ≤ k * M
theorem stepS_bd {M : Nat} {st : St} {k : Nat} (h : Bd M st k) (x : LN) (hx : x.2.length + 1 ≤ M) : Bd M (stepS st x) (k + 1) := by
  obtain ⟨h1, h2⟩ := h
  unfold Bd
  rw [Nat.succ_mul]
  unfold stepS
  split
  · exact ⟨by omega, by omega⟩
  split
  · have := trimSuffix_len x.2 [92]
    exact ⟨by dsimp only; omega, by simp only [List.length_append, List.length_cons, List.length_nil]; omega⟩
  · exact ⟨Nat.le_trans (endL_len _ _ _) (by omega), by simp⟩
theorem str_app (a b : List UInt8) : str a ++ str b = str (a ++ b) := bytes_inj (by simp [bytes])
theorem S12.grow {w0 W W' : World} {Bn Bo B0 num : Nat} {txt : List UInt8} {xs : List LN} {u : Value} {row : Option Nat} (h : S12 w0 Bn Bo B0 num txt xs u W) (hg : W.grownBy W' row) (hr : ∀ r, row = some r → B0 ≤ r ∧ ∃ o : Obj, W.heap[r]? = some o ∧ o.isCells = false) : S12 w0 Bn Bo B0 num txt xs u W' := by
  have hne : ∀ k, k < B0 → some k ≠ row := fun k hk e => by have := (hr k e.symm).1; omega
  refine ⟨h.ext.grown hg (fun k e => by have := (hr k e).1; have := h.n0; have := h.nb; omega), h.n0, h.o0, h.no, h.nb, h.ob, Nat.le_trans h.bs hg.size, (hg.block Bn h.lt (hne _ h.nb)).trans h.now, (hg.block Bo h.box.lt (hne _ h.ob)).trans h.box, World.ownsRow.kept h.own hg ?_⟩
  cases hu : u.ownBlock with
  | none => exact .inl rfl
  | some k =>
    refine .inr fun e => ?_
    obtain ⟨-, o, ho, hc⟩ := hr k e.symm
    rw [own_cells h.own k o hu ho] at hc
    cases hc
theorem own_base {W : World} {base base' e n k : Nat} {u : Value} {zs : List Value} (h : W.ownsRow base e n u k zs) (hb : base' ≤ base) : W.ownsRow base' e n u k zs := by
  obtain ⟨h1, h2⟩ := h
  refine ⟨h1, ?_⟩
  rcases h2 with h2 | ⟨g, cap, cur, hv, hg, r⟩
  · exact .inl h2
  · exact .inr ⟨g, cap, cur, hv, by omega, r⟩
def I12 (w1 : World) (pre : List LNb) (W : World) : Prop :=
  (∃ u, S12 w1 (w1.heap.size + 1) w1.heap.size (w1.heap.size + 4) (stS (pre.map Subtype.val)).2.1 (stS (pre.map Subtype.val)).2.2 (stS (pre.map Subtype.val)).1 u W) ∧ Bd 1000001 (stS (pre.map Subtype.val)) pre.length ∧
  Boxed W (w1.heap.size + 2) 1 (.func (.func 49) #[] #[.pointer (some ⟨w1.heap.size + 1, 0, none⟩), .pointer (some ⟨w1.heap.size, 0, none⟩)])
theorem I12.own (w1 : World) (n : Nat) (hn : w1.heap.size + 4 ≤ n) : OwnFrom n (I12 w1) := by
  intro s A B row hs hg hr
  obtain ⟨⟨u, h1⟩, h2, h3⟩ := hs
  refine ⟨⟨u, h1.grow hg (fun r e => ⟨Nat.le_trans hn (hr r e).1, (hr r e).2⟩)⟩, h2, ?_⟩
  exact (hg.block _ h3.lt (fun e => by have := (hr _ e.symm).1; omega)).trans h3
set_option maxRecDepth 100000 in
set_option maxHeartbeats 4000000 in
theorem Split_calls (v : Value) (bs : List UInt8) (hl : bs.length ≤ 1000000) (w : World) (hv : Rd w 1 encB v bs) :
    Calls Try.prog 33 #[v] w fun e w' => ∃ u, e = .returned (.tuple #[u, .int .i64 (splitA bs).2]) ∧ Ext w w' ∧ w'.ownsRow w.heap.size 90 2 u (splitA bs).1.length ((splitA bs).1.flatMap encN) := by
  have hvR := hv
  obtain ⟨a, c, rfl, -⟩ := hv
  have hC := fun W => Count_calls (.slice a bs.length c) bs hl W
  by_cases hlong : 65536 < bs.length
  · have hA : splitA bs = ([], 3) := by unfold splitA; rw [if_pos hlong]
    have hd : decide (65536 < bs.length) = true := decide_eq_true hlong
    have hd' : decide ((65536 : Int) < (bs.length : Int)) = true := decide_eq_true (by omega)
    rw [hA]
    have HhA := Lib.hid hA
    clear hA
    have Hhlong := Lib.hid hlong
    clear hlong
    have HhvR := Lib.hid hvR
    clear hvR
    have HhC := Lib.hid hC
    clear hC
    go_enter Try.func33, Try.ntmps33
    go_wp2
    go_ret2
    exact ⟨_, rfl, Ext.refl _, World.ownsRow_nil _ _ _ _⟩
  have hd : decide (65536 < bs.length) = false := decide_eq_false hlong
  have hd' : decide ((65536 : Int) < (bs.length : Int)) = false := decide_eq_false (by omega)
  by_cases hfull : 1000 < (linesL bs).length
  · have hA : splitA bs = ([], 4) := by unfold splitA; rw [if_neg hlong, if_pos hfull]
    have hf : decide (1000 < (linesL bs).length) = true := decide_eq_true hfull
    have hf' : decide ((1000 : Int) < ((linesL bs).length : Int)) = true := decide_eq_true (by omega)
    rw [hA]
    have HhA := Lib.hid hA
    clear hA
    have Hhfull := Lib.hid hfull
    clear hfull
    have HhvR := Lib.hid hvR
    clear hvR
    have HhC := Lib.hid hC
    clear hC
    go_enter Try.func33, Try.ntmps33
    go_wp2_with fail
    refine (HhC.out _ HhvR.out).mono ?_
    rintro e w1 ⟨rfl, hx1⟩
    go_wp2_with fail
    go_ret2
    exact ⟨_, rfl, hx1, World.ownsRow_nil _ _ _ _⟩
  have hA : splitA bs = (splitL bs, 0) := by unfold splitA; rw [if_neg hlong, if_neg hfull]
  have hf : decide (1000 < (linesL bs).length) = false := decide_eq_false hfull
  have hf' : decide ((1000 : Int) < ((linesL bs).length : Int)) = false := decide_eq_false (by omega)
  rw [hA]
  have HhA := Lib.hid hA
  clear hA
  have HhvR := Lib.hid hvR
  clear hvR
  have HhC := Lib.hid hC
  clear hC
  refine (callsIn_wide (n := 4)).1 ?_
  refine callsIn_of_wp_marks Try.func33 rfl trivial ?_ rfl
  simp only [Try.ntmps33, List.size_toArray, List.length_cons, List.length_nil, Nat.reduceAdd, Nat.reduceSub, Array.replicate_succ, Array.replicate_zero, List.push_toArray, List.append_toArray, List.nil_append, List.cons_append]
  gi_wp2_with (first
    | (refine ⟨trivial, ?_⟩; gi_at_call 48; refine (callsIn_wide.2 (HhC.out _ HhvR.out)).mono ?_; rintro e w1 ⟨rfl, hx1⟩; have HX1 := Lib.hid hx1; clear hx1)
    | (refine ⟨trivial, ?_⟩; gi_at_call 51; refine (callsIn_wide.2 (lines_calls _ _ _ _)).mono ?_; rintro e w' ⟨rfl, rfl⟩))
  have hS0 : S12 w1 (w1.heap.size + 1) w1.heap.size (w1.heap.size + 4) 0 [] [] (.slice none 0 0) ((((w1.alloc (.cells #[.slice none 0 0] 66)).alloc (.cells #[.int .i64 0, .string ⟨#[]⟩] 90)).alloc (.cells #[.func (.func 49) #[] #[.pointer (some ⟨w1.heap.size + 1, 0, none⟩), .pointer (some ⟨w1.heap.size, 0, none⟩)]] 1)).alloc (.cells #[.slice a bs.length c] 22)) := by
    have h1 := Boxed.new w1 66 (.slice none 0 0)
    have h2 : ((w1.alloc (.cells #[.slice none 0 0] 66)).alloc (.cells #[.int .i64 0, .string ⟨#[]⟩] 90)).heap[w1.heap.size + 1]? = some (.cells #[.int .i64 0, .string ⟨#[]⟩] 90 (0, 0)) := by
      have := heap_alloc_new (w1.alloc (.cells #[.slice none 0 0] 66)) (.cells #[.int .i64 0, .string ⟨#[]⟩] 90)
      rw [World.size_alloc] at this
      exact this
    have hx : Ext ((w1.alloc (.cells #[.slice none 0 0] 66)).alloc (.cells #[.int .i64 0, .string ⟨#[]⟩] 90)) _ := ((Ext.refl _).alloc (.cells #[.func (.func 49) #[] #[.pointer (some ⟨w1.heap.size + 1, 0, none⟩), .pointer (some ⟨w1.heap.size, 0, none⟩)]] 1)).alloc (.cells #[.slice a bs.length c] 22)
    exact ⟨((((Ext.refl w1).alloc _).alloc _).alloc _).alloc _, by omega, Nat.le_refl _, by omega, by omega, by omega, by simp, (hx.block (by simp)).trans h2, (hx.block (by simp; omega)).trans (h1.alloc _), World.ownsRow_nil _ _ _ _⟩
  have hF0 : Boxed ((((w1.alloc (.cells #[.slice none 0 0] 66)).alloc (.cells #[.int .i64 0, .string ⟨#[]⟩] 90)).alloc (.cells #[.func (.func 49) #[] #[.pointer (some ⟨w1.heap.size + 1, 0, none⟩), .pointer (some ⟨w1.heap.size, 0, none⟩)]] 1)).alloc (.cells #[.slice a bs.length c] 22)) (w1.heap.size + 2) 1 (.func (.func 49) #[] #[.pointer (some ⟨w1.heap.size + 1, 0, none⟩), .pointer (some ⟨w1.heap.size, 0, none⟩)]) := by
    have h := Boxed.new ((w1.alloc (.cells #[.slice none 0 0] 66)).alloc (.cells #[.int .i64 0, .string ⟨#[]⟩] 90)) 1 (.func (.func 49) #[] #[.pointer (some ⟨w1.heap.size + 1, 0, none⟩), .pointer (some ⟨w1.heap.size, 0, none⟩)])
    rw [World.size_alloc, World.size_alloc] at h
    exact h.alloc _
  have hB0 : Boxed ((((w1.alloc (.cells #[.slice none 0 0] 66)).alloc (.cells #[.int .i64 0, .string ⟨#[]⟩] 90)).alloc (.cells #[.func (.func 49) #[] #[.pointer (some ⟨w1.heap.size + 1, 0, none⟩), .pointer (some ⟨w1.heap.size, 0, none⟩)]] 1)).alloc (.cells #[.slice a bs.length c] 22)) (w1.heap.size + 3) 22 (.slice a bs.length c) := by
    have h := Boxed.new (((w1.alloc (.cells #[.slice none 0 0] 66)).alloc (.cells #[.int .i64 0, .string ⟨#[]⟩] 90)).alloc (.cells #[.func (.func 49) #[] #[.pointer (some ⟨w1.heap.size + 1, 0, none⟩), .pointer (some ⟨w1.heap.size, 0, none⟩)]] 1)) 22 (.slice a bs.length c)
    rw [World.size_alloc, World.size_alloc, World.size_alloc] at h
    exact h
  obtain ⟨W0, hW0⟩ : ∃ W0, ((((w1.alloc (.cells #[.slice none 0 0] 66)).alloc (.cells #[.int .i64 0, .string ⟨#[]⟩] 90)).alloc (.cells #[.func (.func 49) #[] #[.pointer (some ⟨w1.heap.size + 1, 0, none⟩), .pointer (some ⟨w1.heap.size, 0, none⟩)]] 1)).alloc (.cells #[.slice a bs.length c] 22)) = W0 := ⟨_, rfl⟩
  have hsz0 : W0.heap.size = w1.heap.size + 4 := by rw [← hW0]; simp
  rw [hW0] at hS0 hF0 hB0 ⊢
  clear hW0
  have h1 : 1 ≤ 4 := by omega
  refine wpIn_rangeFunc_ownF rfl h1 (gf := 70) (lb := #[.pointer (some ⟨w1.heap.size + 3, 0, none⟩)]) rfl trivial (enters_of Try.func70 (by kernel_rfl) rfl)
    (lines_stops (w1.heap.size + 3) w1.heap.size _ bs hl _ (by omega) hB0.cell (HhvR.out.ext (HX1.out.trans hS0.ext))) belowK_t (belowK_b (by omega)) (Below.refl _ _) (fun _ => rfl)
    (I12 w1)
    (fun _ _ _ => False)
    (I12.own w1 _ (by omega))
    (fun _ _ _ _ _ hs _ _ => hs)
    ⟨⟨_, hS0⟩, ⟨Nat.le_refl _, Nat.zero_le _⟩, hF0⟩
    (fun x => { tmps := #[.slice a bs.length c, undef, .slice none 0 0, .int .i64 0, .pointer (some ⟨w1.heap.size, 0, none⟩), .pointer (some ⟨w1.heap.size + 1, 0, none⟩), .pointer (some ⟨w1.heap.size + 1 + 1, 0, none⟩), .int .i64 (x.1.1 : Int), .string (str x.1.2), undef, undef, .bool false, .slice a bs.length c, .int .i64 (bs.length : Int), .bool false, .bool false, .slice a bs.length c, .int .i64 ((linesL bs).length : Int), .bool false,
      .func (.func 49) #[] #[.pointer (some ⟨w1.heap.size + 1, 0, none⟩), .pointer (some ⟨w1.heap.size, 0, none⟩)], .slice a bs.length c, .func (.func 70) #[] #[.pointer (some ⟨w1.heap.size + 3, 0, none⟩)], .int .i64 (x.1.1 : Int), .string (str x.1.2), undef, undef, undef, undef, undef, undef, undef, undef, undef, undef, undef, undef, undef, undef, undef, undef, undef, undef, undef, undef, undef, undef, undef, undef, undef, undef, undef, undef, undef], defers := [] }) ?assign ?body ?done ?stop
  case assign =>
    intro l x W K hK
    gi_wp2
    first | exact hK | (simp; exact hK)
  case body =>
    rintro l pre ⟨⟨k, s⟩, hxs⟩ W ⟨⟨u, hs⟩, hbd, hbf⟩ hlt
    have hxs : s.length ≤ 1000000 := hxs
    have hst := stS_snoc (pre.map Subtype.val) (k, s)
    have hbd2 := stepS_bd hbd (k, s) (by show s.length + 1 ≤ 1000001; omega)
    have hmap : (pre ++ [(⟨(k, s), hxs⟩ : LNb)]).map Subtype.val = pre.map Subtype.val ++ [(k, s)] := by simp
    have HI : ∀ W', (∃ u, S12 w1 (w1.heap.size + 1) w1.heap.size (w1.heap.size + 4) (stepS (stS (pre.map Subtype.val)) (k, s)).2.1 (stepS (stS (pre.map Subtype.val)) (k, s)).2.2 (stepS (stS (pre.map Subtype.val)) (k, s)).1 u W') → K12 (w1.heap.size + 1) w1.heap.size (w1.heap.size + 4) W W' →
        KeepsOthers W W' ∧ Below w1.heap.size W W' ∧ I12 w1 (pre ++ [(⟨(k, s), hxs⟩ : LNb)]) W' := fun W' h1 h2 => ⟨h2.ko, h2.kp.below (fun j hj => ⟨by omega, by omega, by omega⟩), by
      unfold I12
      rw [hmap, hst, List.length_append]
      exact ⟨h1, hbd2, (h2.kp.block _ ⟨by omega, by omega, by omega⟩).trans hbf⟩⟩
    have hlen : pre.length ≤ 1000 := by omega
    obtain ⟨hb1, hb2⟩ := hbd
    have hb3 : (stS (pre.map Subtype.val)).2.2.length ≤ 1000 * 1000001 := Nat.le_trans hb2 (Nat.mul_le_mul_right _ hlen)
    clear hst hbd2 hmap hb2
    generalize stS (pre.map Subtype.val) = st at *
    obtain ⟨xs, num, txt⟩ := st
    dsimp only at hs hb1 hb3
    have HIh := Lib.hid HI
    clear HI
    have c0 := hs.c0
    have c1 := hs.c1
    have hlt1 := hs.lt
    have f0 := hs.f 0
    have f1 := hs.f 1
    have cF : W.cell? ⟨w1.heap.size + 1 + 1, 0, none⟩ = some (.func (.func 49) #[] #[.pointer (some ⟨w1.heap.size + 1, 0, none⟩), .pointer (some ⟨w1.heap.size, 0, none⟩)]) := hbf.cell
    have n1 : 1 ≤ 4 - 1 - 1 := by omega
    have hCm := fun W => Comment_calls (str s) (by rw [str_size]; unfold maxLen; omega) W
    rw [show bytes (str s) = s from by simp [bytes]] at hCm
    have hCS : ∀ W, Calls Try.prog 53 #[.string (str s), .string ⟨#[92]⟩] W fun e w' => e = .returned (.tuple #[.string (str (Lib.trimSuffix s [92])), .bool (Lib.hasSuffix s [92])]) ∧ W = w' := fun W => (Try.strings_CutSuffix (str s) ⟨#[92]⟩ W (by rw [str_size]; omega)).mono fun e w' h => by
      obtain ⟨rfl, rfl⟩ := h
      exact ⟨by simp, rfl⟩
    have HSt := Lib.hid hs
    have HLT := Lib.hid hlt
    clear hs hbf hlt
    cases hcm : commentL s
    case true =>
      rw [hcm] at hCm
      have hstp : stepS (xs, num, txt) (k, s) = (xs, num, txt) := by unfold stepS; rw [if_pos hcm]
      rw [hstp] at HIh
      have Hhstp := Lib.hid hstp
      clear hstp
      have Hhcm := Lib.hid hcm
      clear hcm
      have HhCm := Lib.hid hCm
      clear hCm
      have HhCS := Lib.hid hCS
      clear hCS
      gi_wp2_with (refine ⟨trivial, ?_⟩; gi_at_call 52; refine (CallsIn.inRound l (callsIn_wide.2 (HhCm.out _))).mono ?_; rintro e w' ⟨rfl, rfl⟩)
      exact HIh.out W ⟨u, HSt.out⟩ (K12.refl _ _ _ _)
    case false =>
      rw [hcm] at hCm
      cases hsf : Lib.hasSuffix s [92]
      all_goals
        rw [hsf] at hCS
        by_cases hnum : num = 0
      · subst hnum
        have hstp : stepS (xs, 0, txt) (k, s) = (endL k (txt ++ s) xs, 0, []) := by unfold stepS; rw [if_neg (by rw [hcm]; simp), if_neg (by rw [hsf]; simp)]; dsimp only; rw [if_pos rfl]
        rw [hstp] at HIh
        dsimp only at HIh
        have hz := HSt.out.setNow 0 (.int .i64 (k : Int)) k txt rfl
        have happ : str txt ++ str s = str (txt ++ s) := str_app _ _
        have hz2 := hz.1.setNow 1 (.string (str txt ++ str s)) k (txt ++ s) (by rw [happ]; rfl)
        have hdn := done_calls hz2.1 (by rw [List.length_append]; omega) (by omega)
        have HZ := Lib.hid (And.intro hz2.1 (hz.2.trans hz2.2))
        have Hhdn := Lib.hid hdn
        clear hdn
        clear hz hz2
        have Hhapp := Lib.hid happ
        clear happ
        have Hhstp := Lib.hid hstp
        clear hstp
        have Hhcm := Lib.hid hcm
        clear hcm
        have Hhsf := Lib.hid hsf
        clear hsf
        have HhCm := Lib.hid hCm
        clear hCm
        have HhCS := Lib.hid hCS
        clear hCS
        gi_wp2_with (first
            | (refine ⟨trivial, ?_⟩; gi_at_call 52; refine (CallsIn.inRound l (callsIn_wide.2 (HhCm.out _))).mono ?_; rintro e w' ⟨rfl, rfl⟩)
            | (refine ⟨trivial, ?_⟩; gi_at_call 53; refine (CallsIn.inRound l (callsIn_wide.2 (HhCS.out _))).mono ?_; rintro e w' ⟨rfl, rfl⟩)
            | (refine ⟨trivial, ?_⟩; gi_at_call 49; refine (CallsIn.inRound l (callsIn_wide.2 Hhdn.out)).mono ?_; rintro e w' ⟨rfl, u', hs3, hk3⟩))
        exact HIh.out _ ⟨u', hs3⟩ (HZ.out.2.trans hk3)
      · have hnb : ((num : Int) == 0) = false := by rw [beq_eq_false_iff_ne]; omega
        have hstp : stepS (xs, num, txt) (k, s) = (endL num (txt ++ s) xs, 0, []) := by unfold stepS; rw [if_neg (by rw [hcm]; simp), if_neg (by rw [hsf]; simp)]; dsimp only; rw [if_neg hnum]
        rw [hstp] at HIh
        dsimp only at HIh
        have hz : S12 w1 (w1.heap.size + 1) w1.heap.size (w1.heap.size + 4) num txt xs u W ∧ K12 (w1.heap.size + 1) w1.heap.size (w1.heap.size + 4) W W := ⟨HSt.out, K12.refl _ _ _ _⟩
        have happ : str txt ++ str s = str (txt ++ s) := str_app _ _
        have hz2 := hz.1.setNow 1 (.string (str txt ++ str s)) num (txt ++ s) (by rw [happ]; rfl)
        have hdn := done_calls hz2.1 (by rw [List.length_append]; omega) (by omega)
        have HZ := Lib.hid (And.intro hz2.1 (hz.2.trans hz2.2))
        have Hhdn := Lib.hid hdn
        clear hdn
        clear hz hz2
        have Hhapp := Lib.hid happ
        clear happ
        have Hhstp := Lib.hid hstp
        clear hstp
        have Hhcm := Lib.hid hcm
        clear hcm
        have Hhsf := Lib.hid hsf
        clear hsf
        have HhCm := Lib.hid hCm
        clear hCm
        have HhCS := Lib.hid hCS
        clear hCS
        gi_wp2_with (first
            | (refine ⟨trivial, ?_⟩; gi_at_call 52; refine (CallsIn.inRound l (callsIn_wide.2 (HhCm.out _))).mono ?_; rintro e w' ⟨rfl, rfl⟩)
            | (refine ⟨trivial, ?_⟩; gi_at_call 53; refine (CallsIn.inRound l (callsIn_wide.2 (HhCS.out _))).mono ?_; rintro e w' ⟨rfl, rfl⟩)
            | (refine ⟨trivial, ?_⟩; gi_at_call 49; refine (CallsIn.inRound l (callsIn_wide.2 Hhdn.out)).mono ?_; rintro e w' ⟨rfl, u', hs3, hk3⟩))
        exact HIh.out _ ⟨u', hs3⟩ (HZ.out.2.trans hk3)
      · subst hnum
        have hstp : stepS (xs, 0, txt) (k, s) = (xs, k, txt ++ (Lib.trimSuffix s [92] ++ [32])) := by unfold stepS; rw [if_neg (by rw [hcm]; simp), if_pos hsf]; dsimp only; rw [if_pos rfl]
        rw [hstp] at HIh
        dsimp only at HIh
        have hz := HSt.out.setNow 0 (.int .i64 (k : Int)) k txt rfl
        have happ : str txt ++ (str (Lib.trimSuffix s [92]) ++ (⟨#[32]⟩ : ByteArray)) = str (txt ++ (Lib.trimSuffix s [92] ++ [32])) := by rw [show (⟨#[32]⟩ : ByteArray) = str [32] from rfl, str_app, str_app]
        have hz2 := hz.1.setNow 1 (.string (str txt ++ (str (Lib.trimSuffix s [92]) ++ (⟨#[32]⟩ : ByteArray)))) k (txt ++ (Lib.trimSuffix s [92] ++ [32])) (by rw [happ]; rfl)
        have htl := trimSuffix_len s [92]
        have HZ := Lib.hid (And.intro hz2.1 (hz.2.trans hz2.2))
        clear hz hz2
        have Hhapp := Lib.hid happ
        clear happ
        have Hhstp := Lib.hid hstp
        clear hstp
        have Hhcm := Lib.hid hcm
        clear hcm
        have Hhsf := Lib.hid hsf
        clear hsf
        have HhCm := Lib.hid hCm
        clear hCm
        have HhCS := Lib.hid hCS
        clear hCS
        gi_wp2_with (first
            | (refine ⟨trivial, ?_⟩; gi_at_call 52; refine (CallsIn.inRound l (callsIn_wide.2 (HhCm.out _))).mono ?_; rintro e w' ⟨rfl, rfl⟩)
            | (refine ⟨trivial, ?_⟩; gi_at_call 53; refine (CallsIn.inRound l (callsIn_wide.2 (HhCS.out _))).mono ?_; rintro e w' ⟨rfl, rfl⟩))
        exact HIh.out _ ⟨u, HZ.out.1⟩ HZ.out.2
      · have hnb : ((num : Int) == 0) = false := by rw [beq_eq_false_iff_ne]; omega
        have hstp : stepS (xs, num, txt) (k, s) = (xs, num, txt ++ (Lib.trimSuffix s [92] ++ [32])) := by unfold stepS; rw [if_neg (by rw [hcm]; simp), if_pos hsf]; dsimp only; rw [if_neg hnum]
        rw [hstp] at HIh
        dsimp only at HIh
        have hz : S12 w1 (w1.heap.size + 1) w1.heap.size (w1.heap.size + 4) num txt xs u W ∧ K12 (w1.heap.size + 1) w1.heap.size (w1.heap.size + 4) W W := ⟨HSt.out, K12.refl _ _ _ _⟩
        have happ : str txt ++ (str (Lib.trimSuffix s [92]) ++ (⟨#[32]⟩ : ByteArray)) = str (txt ++ (Lib.trimSuffix s [92] ++ [32])) := by rw [show (⟨#[32]⟩ : ByteArray) = str [32] from rfl, str_app, str_app]
        have hz2 := hz.1.setNow 1 (.string (str txt ++ (str (Lib.trimSuffix s [92]) ++ (⟨#[32]⟩ : ByteArray)))) num (txt ++ (Lib.trimSuffix s [92] ++ [32])) (by rw [happ]; rfl)
        have htl := trimSuffix_len s [92]
        have HZ := Lib.hid (And.intro hz2.1 (hz.2.trans hz2.2))
        clear hz hz2
        have Hhapp := Lib.hid happ
        clear happ
        have Hhstp := Lib.hid hstp
        clear hstp
        have Hhcm := Lib.hid hcm
        clear hcm
        have Hhsf := Lib.hid hsf
        clear hsf
        have HhCm := Lib.hid hCm
        clear hCm
        have HhCS := Lib.hid hCS
        clear hCS
        gi_wp2_with (first
            | (refine ⟨trivial, ?_⟩; gi_at_call 52; refine (CallsIn.inRound l (callsIn_wide.2 (HhCm.out _))).mono ?_; rintro e w' ⟨rfl, rfl⟩)
            | (refine ⟨trivial, ?_⟩; gi_at_call 53; refine (CallsIn.inRound l (callsIn_wide.2 (HhCS.out _))).mono ?_; rintro e w' ⟨rfl, rfl⟩))
        exact HIh.out _ ⟨u, HZ.out.1⟩ HZ.out.2
  case done =>
    rintro D ys W hD hys ⟨⟨u, hs⟩, ⟨hb1, hb2⟩, hbf⟩ hK
    have hyl : ys.length ≤ 1000 := by rw [← List.length_map (f := Subtype.val), hys, numF_len]; omega
    have hb3 : (stS (ys.map Subtype.val)).2.2.length ≤ 1000 * 1000001 := Nat.le_trans hb2 (Nat.mul_le_mul_right _ hyl)
    rw [hys] at hs hb1 hb3
    have hsl : splitL bs = endL (stS (numF 1 (linesL bs))).2.1 (stS (numF 1 (linesL bs))).2.2 (stS (numF 1 (linesL bs))).1 := rfl
    clear hb2 hys
    generalize stS (numF 1 (linesL bs)) = st at *
    obtain ⟨xs, num, txt⟩ := st
    dsimp only at hs hb1 hb3 hsl
    have hdn := done_calls hs (by omega) (by omega)
    have cF : W.cell? ⟨w1.heap.size + 1 + 1, 0, none⟩ = some (.func (.func 49) #[] #[.pointer (some ⟨w1.heap.size + 1, 0, none⟩), .pointer (some ⟨w1.heap.size, 0, none⟩)]) := hbf.cell
    generalize endL num txt xs = zs at *
    have HDK := Lib.hid (And.intro hD hK)
    have Hhdn := Lib.hid hdn
    clear hdn
    have Hhsl := Lib.hid hsl
    clear hsl
    have Hhs := Lib.hid hs
    clear hs
    clear hbf hK hD
    gi_wp2_with (refine ⟨trivial, ?_⟩; gi_at_call 49; refine (callsIn_wide.2 Hhdn.out).mono ?_; rintro e w' ⟨rfl, u', hs3, hk3⟩; have cU := hs3.box.cell; obtain ⟨au, cu, hau⟩ := own_form hs3.own; subst hau; have HS3 := Lib.hid (And.intro hs3 hk3); clear hs3 hk3)
    obtain ⟨hs3, hk3⟩ := HS3.out
    obtain ⟨hD, hK⟩ := HDK.out
    have hK3 := hk3.ko.same D _ hK rfl
    have hg := hs3.grow (grownBy_putObj' w' D (.deferred none)) (fun r e => by cases e; exact ⟨by omega, _, hK3, rfl⟩)
    refine ⟨by simp, .inl ⟨_, _, rfl, run_takeDeferred hK3, ?_⟩⟩
    refine ⟨.tuple #[.slice au zs.length cu, .int .i64 0], (by simp [results, Try.results33, go_sem]), _, rfl, ?_, ?_⟩
    · exact HX1.out.trans hg.ext
    · rw [Hhsl.out]
      exact own_base hg.own (by have := HX1.out.size; omega)
  case stop =>
    rintro D c pre W _ _ h _
    exact h.elim
end L12
end Go.Proofs.Ytkmbahpjioopdaa
