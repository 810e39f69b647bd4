import Derived.Test.YtkmhfjnjfghnjaaMq20
import Derived.Test.YtkmhfjnjfghnjaaMq23
/- Layer 25: a row that is being written, its labels by name: which are open, which have a place. -/
namespace Go.Proofs.Ytkmhfjnjfghnjaa
open Go.RowKit V
namespace L25W
open L25 (Sy encY encY_len encY_one)
inductive Tg where
  | pl (n : Nat)
  | lb (b : Nat)
structure SS where
  c : Nat
  k : Nat
  j : Option (Tg × Tg)
abbrev iL (k : Nat) : SS := ⟨32, k, none⟩
abbrev iR (k : Nat) : SS := ⟨6, k, none⟩
abbrev iJ (c k : Nat) (t e : Tg) : SS := ⟨c, k, some (t, e)⟩
def Tg.n : Tg → Nat
  | .pl n => n
  | .lb _ => 0
def SS.sy0 (s : SS) : Sy := ⟨s.c, s.k, 0, 0⟩
def SS.fin (s : SS) : Sy := match s.j with
  | none => ⟨s.c, s.k, 0, 0⟩
  | some (t, e) => ⟨s.c, s.k, (t.n : Int), if s.c = 5 then 0 else (e.n : Int)⟩
def Tg.res (b p : Nat) : Tg → Tg
  | .pl n => .pl n
  | .lb x => if x = b then .pl p else .lb x
def SS.mp (f : Tg → Tg) (s : SS) : SS := ⟨s.c, s.k, s.j.map fun q => (f q.1, f q.2)⟩
theorem SS.mp_id (s : SS) : s.mp (fun t => t) = s := by
  obtain ⟨c, k, j⟩ := s
  cases j <;> rfl
theorem SS.map_id (ss : List SS) : ss.map (SS.mp fun t => t) = ss := by
  induction ss with
  | nil => rfl
  | cons s r ih => rw [List.map_cons, ih, SS.mp_id]
def TgOk (W : World) (O : Nat → Prop) : Tg → Nat → Prop
  | .pl n, b => ¬ O b ∧ Boxed W b 98 (.int .i64 (n : Int))
  | .lb x, b => b = x ∧ O x
/-- the jumps of a row, in order, are those that are done later -/
def JS (W : World) (O : Nat → Prop) : Nat → List SS → List Jm → Prop
  | _, [], js => js = []
  | i, s :: r, js => match s.j with
    | none => JS W O (i + 1) r js
    | some (t, e) => ∃ j js', js = j :: js' ∧ j.at_ = i ∧ j.code = s.c ∧ TgOk W O t j.th ∧ ((s.c = 5 ∧ e = .pl 0) ∨ ∃ eb, j.el = some eb ∧ TgOk W O e eb) ∧ JS W O (i + 1) r js'
theorem JS.app {W : World} {O : Nat → Prop} : ∀ {ss : List SS} {i : Nat} {js : List Jm} {ss' : List SS} {js' : List Jm}, JS W O i ss js → JS W O (i + ss.length) ss' js' → JS W O i (ss ++ ss') (js ++ js')
  | [], i, js, ss', js', h, h' => by
    have e : js = [] := h
    subst e
    exact h'
  | ⟨c, k, none⟩ :: r, i, js, ss', js', h, h' => by
    rw [List.length_cons, show i + (r.length + 1) = i + 1 + r.length by omega] at h'
    exact JS.app (ss := r) (i := i + 1) h h'
  | ⟨c, k, some (t, e)⟩ :: r, i, js, ss', js', h, h' => by
    obtain ⟨j, js1, rfl, h1, h2, h3, h4, h5⟩ := h
    rw [List.length_cons, show i + (r.length + 1) = i + 1 + r.length by omega] at h'
    exact ⟨j, js1 ++ js', rfl, h1, h2, h3, h4, JS.app (ss := r) (i := i + 1) h5 h'⟩
theorem JS.to {W W' : World} {O O' : Nat → Prop} {f : Tg → Tg} (hf0 : ∀ n, f (.pl n) = .pl n) (hf : ∀ t b, TgOk W O t b → TgOk W' O' (f t) b) : ∀ {ss : List SS} {i : Nat} {js : List Jm}, JS W O i ss js → JS W' O' i (ss.map (SS.mp f)) js
  | [], _, _, h => h
  | ⟨c, k, none⟩ :: r, i, js, h => JS.to hf0 hf (ss := r) (i := i + 1) h
  | ⟨c, k, some (t, e)⟩ :: r, i, js, h => by
    obtain ⟨j, js1, rfl, h1, h2, h3, h4, h5⟩ := h
    refine ⟨j, js1, rfl, h1, h2, hf _ _ h3, ?_, JS.to hf0 hf (ss := r) (i := i + 1) h5⟩
    rcases h4 with h4 | ⟨eb, h4, h6⟩
    · exact .inl ⟨h4.1, by rw [h4.2, hf0]⟩
    · exact .inr ⟨eb, h4, hf _ _ h6⟩
theorem JS.len {W : World} {O : Nat → Prop} : ∀ {ss : List SS} {i : Nat} {js : List Jm}, JS W O i ss js → js.length ≤ ss.length
  | [], _, js, h => by
    have e : js = [] := h
    subst e
    exact Nat.le_refl _
  | ⟨c, k, none⟩ :: r, i, js, h => by
    have := JS.len (ss := r) (i := i + 1) h
    rw [List.length_cons]; omega
  | ⟨c, k, some (t, e)⟩ :: r, i, js, h => by
    obtain ⟨j, js1, rfl, h1, h2, h3, h4, h5⟩ := h
    have := JS.len (ss := r) (i := i + 1) h5
    rw [List.length_cons, List.length_cons]; omega
def lval (W : World) (b : Nat) : Int := match W.cell? ⟨b, 0, none⟩ with
  | some (.int _ n) => n
  | _ => 0
theorem lval_boxed {W : World} {b : Nat} {n : Int} (h : Boxed W b 98 (.int .i64 n)) : lval W b = n := by
  unfold lval; rw [h.cell]
def ptW (W : World) (j : Jm) : Int := lval W j.th
def peW (W : World) (j : Jm) : Int := match j.el with
  | some b => lval W b
  | none => 0
theorem JS.labs {W : World} {O : Nat → Prop} (hO : ∀ b, ¬ O b) : ∀ {ss : List SS} {i : Nat} {js : List Jm}, JS W O i ss js → Labs W (ptW W) (peW W) js
  | [], _, js, h => by
    have e : js = [] := h
    subst e
    intro j hj; cases hj
  | ⟨c, k, none⟩ :: r, i, js, h => JS.labs hO (ss := r) (i := i + 1) h
  | ⟨c, k, some (t, e)⟩ :: r, i, js, h => by
    obtain ⟨j, js1, rfl, h1, h2, h3, h4, h5⟩ := h
    have ih := JS.labs hO (ss := r) (i := i + 1) h5
    have hone : ∀ t b, TgOk W O t b → Boxed W b 98 (.int .i64 (lval W b)) := fun t b ht => by
      cases t with
      | pl n => rw [lval_boxed ht.2]; exact ht.2
      | lb x => exact absurd ht.2 (hO x)
    intro i hi
    rcases List.mem_cons.1 hi with rfl | hi
    · refine ⟨hone _ _ h3, ?_⟩
      rcases h4 with h4 | ⟨eb, h4, h6⟩
      · exact .inl (h2.trans h4.1)
      · refine .inr ⟨eb, h4, ?_⟩
        have e1 : peW W i = lval W eb := by unfold peW; rw [h4]
        rw [e1]
        exact hone _ _ h6
    · exact ih i hi
theorem JS.fold {W : World} {O : Nat → Prop} (hO : ∀ b, ¬ O b) : ∀ {ss : List SS} {i : Nat} {js : List Jm} (pre : List Sy), JS W O i ss js → pre.length = i → js.foldl (patch (ptW W) (peW W)) (pre ++ ss.map SS.sy0) = pre ++ ss.map SS.fin
  | [], _, js, pre, h, _ => by
    have e : js = [] := h
    subst e
    rfl
  | ⟨c, k, none⟩ :: r, i, js, pre, h, hi => by
    have ih := JS.fold hO (ss := r) (i := i + 1) (pre ++ [⟨c, k, 0, 0⟩]) h (by simp [hi])
    rw [List.append_assoc, List.append_assoc] at ih
    exact ih
  | ⟨c, k, some (t, e)⟩ :: r, i, js, pre, h, hi => by
    obtain ⟨j, js1, rfl, h1, h2, h3, h4, h5⟩ := h
    have hone : ∀ t b, TgOk W O t b → lval W b = (t.n : Int) := fun t b ht => by
      cases t with
      | pl n => exact lval_boxed ht.2
      | lb x => exact absurd ht.2 (hO x)
    have hp : ptW W j = (t.n : Int) := hone _ _ h3
    have hq : (if j.code = 5 then (0 : Int) else peW W j) = if c = 5 then 0 else (e.n : Int) := by
      rw [h2]
      dsimp only at h4 ⊢
      by_cases h5 : c = 5
      · rw [if_pos h5, if_pos h5]
      · rw [if_neg h5, if_neg h5]
        rcases h4 with h4 | ⟨eb, h4, h6⟩
        · exact absurd h4.1 h5
        · unfold peW; rw [h4]; exact hone _ _ h6
    have hps : patch (ptW W) (peW W) (pre ++ (⟨c, k, 0, 0⟩ : Sy) :: r.map SS.sy0) j = pre ++ (⟨c, k, (t.n : Int), if c = 5 then 0 else (e.n : Int)⟩ : Sy) :: r.map SS.sy0 := by
      have hat : j.at_ < (pre ++ (⟨c, k, 0, 0⟩ : Sy) :: r.map SS.sy0).length := by rw [h1, ← hi]; simp
      rw [patch_at _ _ hat]
      have hg : (pre ++ (⟨c, k, 0, 0⟩ : Sy) :: r.map SS.sy0)[j.at_]'hat = ⟨c, k, 0, 0⟩ := by
        simp only [h1, ← hi]
        rw [List.getElem_append_right (Nat.le_refl _)]
        simp
      rw [hg]
      dsimp only
      rw [hp, hq, h1, ← hi, List.set_append_right _ _ (Nat.le_refl _), Nat.sub_self, List.set_cons_zero]
    have ih := JS.fold hO (ss := r) (i := i + 1) (pre ++ [⟨c, k, (t.n : Int), if c = 5 then 0 else (e.n : Int)⟩]) h5 (by simp [hi])
    rw [List.append_assoc, List.append_assoc] at ih
    rw [List.foldl_cons]
    rw [show List.map SS.sy0 (⟨c, k, some (t, e)⟩ :: r) = (⟨c, k, 0, 0⟩ : Sy) :: r.map SS.sy0 from rfl, hps]
    exact ih
structure SW (w0 : World) (B : Nat) (O : Nat → Prop) (ss : List SS) (W : World) : Prop where
  ex : ∃ v v2 js, WS w0 B v v2 (ss.map SS.sy0) js W ∧ JS W O 0 ss js
  op : ∀ b, O b → w0.heap.size ≤ b ∧ ∃ u, Boxed W b 98 u
/-- what lay there in other types than the writer's and the labels' lies as it lay -/
structure WT (W W' : World) : Prop where
  size : W.heap.size ≤ W'.heap.size
  kept : ∀ (k : Nat) (cs : Array Value) (t : TypeId) (fr : Nat × Nat), W.heap[k]? = some (.cells cs t fr) → t ≠ 70 → t ≠ 1 → t ≠ 95 → t ≠ 98 → W'.heap[k]? = some (.cells cs t fr)
theorem WT.refl (W : World) : WT W W := ⟨Nat.le_refl _, fun _ _ _ _ h _ _ _ _ => h⟩
theorem WT.trans {a b c : World} (h : WT a b) (k : WT b c) : WT a c := ⟨Nat.le_trans h.size k.size, fun i cs t fr h0 h1 h2 h3 h4 => k.kept i cs t fr (h.kept i cs t fr h0 h1 h2 h3 h4) h1 h2 h3 h4⟩
theorem WT.of_ext {a b : World} (h : Ext a b) : WT a b := ⟨h.size, fun _ _ _ _ h0 _ _ _ _ => (h.block (Array.getElem?_eq_some_iff.1 h0).1).trans h0⟩
theorem WT.of_wk {X : Nat → Prop} {a b : World} (h : WK X a b) (hX : ∀ k, X k → ∃ v, Boxed a k 98 v) : WT a b :=
  ⟨h.size, fun k cs t fr h0 h1 h2 h3 h4 => h.kept k cs t fr (fun hx => by
    obtain ⟨u, hu⟩ := hX k hx
    have e := Option.some.inj (h0.symm.trans hu)
    simp only [Obj.cells.injEq] at e
    exact h4 e.2.1) h0 h1 h2 h3⟩
theorem WT.after {a b : World} (o : Obj) (h : WT (a.alloc o) b) : WT a b := (WT.of_ext ((Ext.refl _).alloc o)).trans h
theorem WT.boxed {a b : World} (h : WT a b) {k t : Nat} {v : Value} (hb : Boxed a k t v) (h1 : t ≠ 70) (h2 : t ≠ 1) (h3 : t ≠ 95) (h4 : t ≠ 98) : Boxed b k t v := h.kept k _ _ _ hb h1 h2 h3 h4
theorem TgOk.keep {a b : World} {O : Nat → Prop} (hk : WK (fun _ => False) a b) : ∀ t x, TgOk a O t x → TgOk b O t x
  | .pl _, _, h => ⟨h.1, hkb hk h.2 (fun h => h.elim)⟩
  | .lb _, _, h => h
theorem SW.keep_ex {W W' : World} {O : Nat → Prop} {ss : List SS} {js : List Jm} (hj : JS W O 0 ss js) (hk : WK (fun _ => False) W W') : JS W' O 0 ss js := by
  have := JS.to (f := fun t => t) (fun _ => rfl) (TgOk.keep hk) hj
  rwa [SS.map_id] at this
theorem SW.keep_op {w0 W W' : World} {O : Nat → Prop} (h : ∀ b, O b → w0.heap.size ≤ b ∧ ∃ u, Boxed W b 98 u) (hk : WK (fun _ => False) W W') : ∀ b, O b → w0.heap.size ≤ b ∧ ∃ u, Boxed W' b 98 u := fun b hb => by
  obtain ⟨h1, u, h2⟩ := h b hb
  exact ⟨h1, u, hkb hk h2 (fun h => h.elim)⟩
theorem SW.ext {w0 W W' : World} {B : Nat} {O : Nat → Prop} {ss : List SS} (h : SW w0 B O ss W) (hx : Ext W W') : SW w0 B O ss W' := by
  obtain ⟨v, v2, js, hs, hj⟩ := h.ex
  have hk : WK (fun _ => False) W W' := WK.ext hx
  exact ⟨⟨v, v2, js, hs.kept hx, SW.keep_ex hj hk⟩, SW.keep_op h.op hk⟩
theorem SW.ext0 {w0 W : World} {B : Nat} {O : Nat → Prop} {ss : List SS} (h : SW w0 B O ss W) : Ext w0 W := by
  obtain ⟨v, v2, js, hs, hj⟩ := h.ex
  exact hs.ext
theorem SW.start (w : World) : SW w w.heap.size (fun _ => False) [] (w.alloc (.cells #[.slice none 0 0, .slice none 0 0] 95)) :=
  ⟨⟨_, _, [], WS.start w, rfl⟩, fun _ h => h.elim⟩
theorem SW.mono {w0 W : World} {B : Nat} {O O' : Nat → Prop} {ss : List SS} (h : SW w0 B O ss W) (he : ∀ b, O b ↔ O' b) : SW w0 B O' ss W := by
  have : O = O' := funext fun b => propext (he b)
  rwa [← this]
/-- a new label -/
theorem SW.label {w0 W : World} {B : Nat} {O : Nat → Prop} {ss : List SS} (h : SW w0 B O ss W) (u : Value) : SW w0 B (fun b => O b ∨ b = W.heap.size) ss (W.alloc (.cells #[u] 98)) ∧ ¬ O W.heap.size := by
  have hx : Ext W (W.alloc (.cells #[u] 98)) := (Ext.refl W).alloc _
  have h2 := h.ext hx
  have hnew : ¬ O W.heap.size := fun ho => by
    obtain ⟨_, u, hu⟩ := h.op _ ho
    have := hu.lt
    omega
  obtain ⟨v, v2, js, hs, hj⟩ := h.ex
  refine ⟨⟨⟨v, v2, js, hs.kept hx, ?_⟩, fun b hb => ?_⟩, hnew⟩
  · have := JS.to (W' := W.alloc (.cells #[u] 98)) (O' := fun b => O b ∨ b = W.heap.size) (f := fun t => t) (fun _ => rfl) (fun t x ht => by
      cases t with
      | pl n => exact ⟨fun ho => by
          rcases ho with ho | ho
          · exact ht.1 ho
          · have := ht.2.lt; omega, hkb (WK.ext (X := fun _ => False) hx) ht.2 (fun h => h.elim)⟩
      | lb y => exact ⟨ht.1, .inl ht.2⟩) hj
    rwa [SS.map_id] at this
  · rcases hb with hb | rfl
    · exact h2.op b hb
    · exact ⟨hs.ext.size, u, Boxed.new W _ u⟩
theorem SW.app {w0 W W' : World} {B : Nat} {O : Nat → Prop} {ss ss' : List SS} {v v2 : Value} {js js' : List Jm} (h : SW w0 B O ss W) (hj : JS W O 0 ss js) (hk : WK (fun _ => False) W W') (hs : WS w0 B v v2 (ss.map SS.sy0 ++ ss'.map SS.sy0) (js ++ js') W') (hj' : JS W' O ss.length ss' js') : SW w0 B O (ss ++ ss') W' ∧ WT W W' :=
  ⟨⟨⟨v, v2, js ++ js', by rw [List.map_append]; exact hs, JS.app (SW.keep_ex hj hk) (by rw [Nat.zero_add]; exact hj')⟩, SW.keep_op h.op hk⟩, WT.of_wk hk (fun _ h => h.elim)⟩
theorem SW.load_calls {w0 W : World} {B : Nat} {O : Nat → Prop} {ss : List SS} (h : SW w0 B O ss W) (hl : ss.length ≤ 100000) (k : Nat) :
    Calls Try.prog 64 #[pv B, .int .u32 (k : Int)] W fun e w' => e = .returned (.tuple #[]) ∧ SW w0 B O (ss ++ [⟨32, k, none⟩]) w' ∧ WT W w' := by
  obtain ⟨v, v2, js, hs, hj⟩ := h.ex
  refine (L25W.load_calls hs (by simpa using hl) k).mono ?_
  rintro e w' ⟨rfl, v', hs', hk⟩
  exact ⟨rfl, h.app (js' := []) hj hk (by rw [List.append_nil]; exact hs') rfl⟩
theorem SW.ret_calls {w0 W : World} {B : Nat} {O : Nat → Prop} {ss : List SS} (h : SW w0 B O ss W) (hl : ss.length ≤ 100000) (k : Nat) :
    Calls Try.prog 70 #[pv B, .int .u32 (k : Int)] W fun e w' => e = .returned (.tuple #[]) ∧ SW w0 B O (ss ++ [⟨6, k, none⟩]) w' ∧ WT W w' := by
  obtain ⟨v, v2, js, hs, hj⟩ := h.ex
  refine (L25W.ret_calls hs (by simpa using hl) k).mono ?_
  rintro e w' ⟨rfl, v', hs', hk⟩
  exact ⟨rfl, h.app (js' := []) hj hk (by rw [List.append_nil]; exact hs') rfl⟩
theorem SW.put_calls {w0 W : World} {B : Nat} {O : Nat → Prop} {ss : List SS} {u : Value} {c k : Nat} (h : SW w0 B O ss W) (hl : ss.length ≤ 100000) (hu : Rd W 4 encY u [⟨c, k, 0, 0⟩]) :
    Calls Try.prog 95 #[pv B, u] W fun e w' => e = .returned (.tuple #[]) ∧ SW w0 B O (ss ++ [⟨c, k, none⟩]) w' ∧ WT W w' := by
  obtain ⟨v, v2, js, hs, hj⟩ := h.ex
  refine (L25W.put_calls hs hu (by simp; omega)).mono ?_
  rintro e w' ⟨rfl, v', hs', hk⟩
  exact ⟨rfl, h.app (js' := []) hj hk (by rw [List.append_nil]; exact hs') rfl⟩
theorem SW.jump_calls {w0 W : World} {B : Nat} {O : Nat → Prop} {ss : List SS} (h : SW w0 B O ss W) (hl : ss.length ≤ 100000) (code k th eb : Nat) (ht : O th) (he : O eb) :
    Calls Try.prog 68 #[pv B, .int .u16 (code : Int), .int .u32 (k : Int), pv th, pv eb] W fun e w' => e = .returned (.tuple #[]) ∧ SW w0 B O (ss ++ [⟨code, k, some (.lb th, .lb eb)⟩]) w' ∧ WT W w' := by
  obtain ⟨v, v2, js, hs, hj⟩ := h.ex
  have hjl := hj.len
  refine (L25W.jump_calls hs (by simpa using hl) (by omega) code k th (some eb)).mono ?_
  rintro e w' ⟨rfl, v', v2', j, hs', hk, q1, q2, q3, q4⟩
  refine ⟨rfl, h.app (js' := [j]) hj hk hs' ⟨j, [], rfl, by rw [q1, List.length_map], q2, ⟨q3, ht⟩, .inr ⟨eb, q4, rfl, he⟩, rfl⟩⟩
theorem SW.ja_calls {w0 W : World} {B : Nat} {O : Nat → Prop} {ss : List SS} (h : SW w0 B O ss W) (hl : ss.length ≤ 100000) (k th : Nat) (ht : O th) :
    Calls Try.prog 68 #[pv B, .int .u16 5, .int .u32 (k : Int), pv th, .pointer none] W fun e w' => e = .returned (.tuple #[]) ∧ SW w0 B O (ss ++ [⟨5, k, some (.lb th, .pl 0)⟩]) w' ∧ WT W w' := by
  obtain ⟨v, v2, js, hs, hj⟩ := h.ex
  have hjl := hj.len
  refine (L25W.jump_calls hs (by simpa using hl) (by omega) 5 k th none).mono ?_
  rintro e w' ⟨rfl, v', v2', j, hs', hk, q1, q2, q3, q4⟩
  refine ⟨rfl, h.app (js' := [j]) hj hk hs' ⟨j, [], rfl, by rw [q1, List.length_map], q2, ⟨q3, ht⟩, .inl ⟨rfl, rfl⟩, rfl⟩⟩
theorem SW.here_calls {w0 W : World} {B b : Nat} {O : Nat → Prop} {ss : List SS} (h : SW w0 B O ss W) (hb : O b) :
    Calls Try.prog 69 #[pv B, pv b] W fun e w' => e = .returned (.tuple #[]) ∧ SW w0 B (fun x => O x ∧ x ≠ b) (ss.map (SS.mp (Tg.res b ss.length))) w' ∧ WT W w' := by
  obtain ⟨v, v2, js, hs, hj⟩ := h.ex
  obtain ⟨hlo, u, hu⟩ := h.op b hb
  refine (L25W.here_calls hs hu hlo).mono ?_
  rintro e w' ⟨rfl, hs', hk, hb'⟩
  rw [List.length_map] at hb'
  have hm : (ss.map (SS.mp (Tg.res b ss.length))).map SS.sy0 = ss.map SS.sy0 := by
    rw [List.map_map]; rfl
  refine ⟨rfl, ⟨⟨v, v2, js, by rw [hm]; exact hs', JS.to (fun _ => rfl) (fun t x ht => ?_) hj⟩, fun x hx => ?_⟩, WT.of_wk hk (fun k hk => ⟨u, by rw [hk]; exact hu⟩)⟩
  · cases t with
    | pl n => exact ⟨fun ho => ht.1 ho.1, hkb hk ht.2 (fun e => ht.1 (by rw [e]; exact hb))⟩
    | lb y =>
      obtain ⟨rfl, hy⟩ := ht
      show TgOk _ _ (if x = b then .pl ss.length else .lb x) x
      by_cases e : x = b
      · rw [if_pos e]
        subst e
        exact ⟨fun ho => ho.2 rfl, hb'⟩
      · rw [if_neg e]
        exact ⟨rfl, hy, e⟩
  · obtain ⟨h1, u2, h2⟩ := h.op x hx.1
    exact ⟨h1, u2, hkb hk h2 hx.2⟩
theorem SW.done_calls {w0 W : World} {B : Nat} {O : Nat → Prop} {ss : List SS} (h : SW w0 B O ss W) (hl : ss.length ≤ 100000) (hO : ∀ b, ¬ O b) :
    Calls Try.prog 71 #[pv B] W fun e w' => ∃ v, e = .returned v ∧ Ext w0 w' ∧ Rd w' 4 encY v (ss.map SS.fin) := by
  obtain ⟨v, v2, js, hs, hj⟩ := h.ex
  have hjl := hj.len
  refine (L25W.done_calls hs (by simp; omega) (by omega) (ptW W) (peW W) (hj.labs hO)).mono ?_
  rintro e w' ⟨rfl, hs', hk⟩
  have hf := JS.fold hO [] hj rfl
  rw [List.nil_append, List.nil_append] at hf
  rw [hf] at hs'
  exact ⟨v, rfl, hs'.ext, rd_of_own encY_len hs'.own⟩
/-- a label that is not in a row -/
theorem res_hd {b p : Nat} {ss : List SS} {w0 W : World} {B : Nat} {O : Nat → Prop} (h : SW w0 B O ss W) (hb : ¬ O b) : ss.map (SS.mp (Tg.res b p)) = ss := by
  obtain ⟨v, v2, js, hs, hj⟩ := h.ex
  clear h hs
  revert hj
  generalize 0 = i
  induction ss generalizing i js with
  | nil => intro _; rfl
  | cons s r ih =>
    obtain ⟨c, k, j⟩ := s
    have hone : ∀ t x, TgOk W O t x → Tg.res b p t = t := fun t x ht => by
      cases t with
      | pl n => rfl
      | lb y => exact if_neg (fun e => hb (by rw [← e]; exact ht.2))
    intro hj
    rw [List.map_cons]
    cases j with
    | none =>
      rw [ih _ _ hj]; rfl
    | some q =>
      obtain ⟨t, e⟩ := q
      obtain ⟨j, js1, rfl, h1, h2, h3, h4, h5⟩ := hj
      rw [ih _ _ h5]
      have e1 := hone _ _ h3
      have e2 : Tg.res b p e = e := by
        rcases h4 with h4 | ⟨eb, h4, h6⟩
        · rw [h4.2]; rfl
        · exact hone _ _ h6
      show (⟨c, k, some (Tg.res b p t, Tg.res b p e)⟩ : SS) :: r = _
      rw [e1, e2]
end L25W
end Go.Proofs.Ytkmhfjnjfghnjaa

/- Layer 21: the walk of the reference's Denote. -/
namespace Go.Proofs.Ytkmhfjnjfghnjaa
open Go.RowKit V
namespace L21
open L25 (Dat datV OkD)
open L08 (ofA)
set_option maxRecDepth 100000 in
set_option maxHeartbeats 2000000 in
theorem refDenote_calls (f : Filter) (u : Value) (hf : OkF f) (d : Dat) (hd : OkD d) (w : World) (hu : RdR w 3 (IsR w) u f.rules) :
    Calls Try.prog 29 #[.agg #[.int .i64 f.arch, u, .int .u32 (f.dflt : Int)], datV d] w fun e w' => e = .returned (.int .u32 (denA f d : Nat)) ∧ Ext w w' := by
  have hO := fun W => L08.refOf_calls d.ar d.nr hd.nr W
  have hFi := fun W (hx : Ext w W) => refFind_calls f.arch f.dflt u f.rules d.nr hf.l W (rdRR_ext hx hu)
  have hHl := fun (t : Test) (ht : OkT t) W => refHolds_calls t ht d hd W
  have hok := hf.r
  have hlen := hf.l
  have how : ownA f d = ((ofA d.ar d.nr).2 && ((ofA d.ar d.nr).1 == f.arch)) := rfl
  obtain ⟨av, cv, rfl, -, hca⟩ := rdR_cell hu
  unfold datV at hHl ⊢
  generalize (ofA d.ar d.nr).1 = oa at *
  generalize (ofA d.ar d.nr).2 = ob at *
  clear hu
  have HhO := Lib.hid hO
  clear hO
  have HhFi := Lib.hid hFi
  clear hFi
  have HhHl := Lib.hid hHl
  clear hHl
  have Hhok := Lib.hid hok
  clear hok
  have Hhca := Lib.hid hca
  clear hca
  cases ob
  · rw [Bool.false_and] at how
    rw [denA_not how]
    have Hhow := Lib.hid how
    clear how
    go_enter Try.func29, Try.ntmps29
    go_wp2_with fail
    refine (HhO.out _).mono ?_
    rintro e w1 ⟨rfl, hx1⟩
    go_wp2_with fail
    go_ret
    exact ⟨rfl, (((Ext.refl _).alloc _).alloc _).trans hx1⟩
  rw [Bool.true_and] at how
  have hq : (oa != f.arch) = !(oa == f.arch) := rfl
  cases hab : (oa == f.arch)
  · rw [hab] at how hq
    rw [denA_not how]
    rw [Bool.not_false] at hq
    have Hhow := Lib.hid how
    clear how
    have Hhab := Lib.hid hab
    clear hab
    go_enter Try.func29, Try.ntmps29
    go_wp2_with fail
    refine (HhO.out _).mono ?_
    rintro e w1 ⟨rfl, hx1⟩
    have z0 := hx1.cell (p := ⟨w.heap.size, 0, none⟩) (by simp [go_sem]; rfl)
    go_wp2_with fail
    go_ret
    exact ⟨rfl, (((Ext.refl _).alloc _).alloc _).trans hx1⟩
  rw [hab] at how hq
  rw [denA_own how]
  rw [Bool.not_true] at hq
  have Hhow := Lib.hid how
  clear how
  have Hhab := Lib.hid hab
  clear hab
  obtain ⟨ar, rs, df⟩ := f
  dsimp only at *
  rcases idxR_find d.nr rs 0 with ⟨h1, -⟩ | ⟨i, hi, h1, -⟩
  · rw [denL_no h1]
    rw [h1] at HhFi
    clear h1
    go_enter Try.func29, Try.ntmps29
    go_wp2_with fail
    refine (HhO.out _).mono ?_
    rintro e w1 ⟨rfl, hx1⟩
    have z0 := hx1.cell (p := ⟨w.heap.size, 0, none⟩) (by simp [go_sem]; rfl)
    have z1 := hx1.cell (p := ⟨w.heap.size, 1, none⟩) (by simp [go_sem]; rfl)
    have z2 := hx1.cell (p := ⟨w.heap.size, 2, none⟩) (by simp [go_sem]; rfl)
    have y0 := hx1.cell (p := ⟨w.heap.size + 1, 0, none⟩) (by simp [go_sem]; rfl)
    have HX1 := Lib.hid ((((Ext.refl w).alloc _).alloc _).trans hx1)
    clear hx1
    go_wp2_with fail
    refine (HhFi.out _ HX1.out).mono ?_
    rintro e w2 ⟨rfl, hx2⟩
    replace z2 := hx2.cell z2
    have HX2 := Lib.hid (HX1.out.trans hx2)
    clear hx2 z0 z1 y0
    go_wp2_with fail
    go_ret
    exact ⟨rfl, HX2.out⟩
  · rw [Nat.zero_add] at h1
    rw [denL_yes hi h1]
    have hokr := Hhok.out _ (List.getElem_mem hi)
    rw [h1] at HhFi
    clear h1
    obtain ⟨b, o, v, rfl, g1, g2, g3, g4⟩ := Hhca.out i hi
    generalize rs[i]'hi = r0 at *
    obtain ⟨rn, ts, ra⟩ := r0
    dsimp only at *
    have hg4 := g4
    obtain ⟨at', ct, rfl, -, hte⟩ := rdT_cell g4
    have htl := hokr.l
    have Hhokr := Lib.hid hokr
    clear hokr
    have Hhte := Lib.hid hte
    clear hte
    clear hg4 g4
    go_enter Try.func29, Try.ntmps29
    go_wp2_with fail
    refine (HhO.out _).mono ?_
    rintro e w1 ⟨rfl, hx1⟩
    have z0 := hx1.cell (p := ⟨w.heap.size, 0, none⟩) (by simp [go_sem]; rfl)
    have z1 := hx1.cell (p := ⟨w.heap.size, 1, none⟩) (by simp [go_sem]; rfl)
    have z2 := hx1.cell (p := ⟨w.heap.size, 2, none⟩) (by simp [go_sem]; rfl)
    have hcd : Cda w1 (w.heap.size + 1) d := ⟨hx1.cell (by simp [go_sem]), hx1.cell (by simp [go_sem]), hx1.cell (by simp [go_sem]), hx1.cell (by simp [go_sem]), hx1.cell (by simp [go_sem]), hx1.cell (by simp [go_sem]), hx1.cell (by simp [go_sem]), hx1.cell (by simp [go_sem]), hx1.cell (by simp [go_sem])⟩
    have y0 := hcd.c0
    have HCD := Lib.hid hcd
    have HX1 := Lib.hid ((((Ext.refl w).alloc _).alloc _).trans hx1)
    clear hx1 hcd
    go_wp2_with fail
    refine (HhFi.out _ HX1.out).mono ?_
    rintro e w2 ⟨rfl, hx2⟩
    replace z1 := hx2.cell z1
    have HX2 := Lib.hid (HX1.out.trans hx2)
    have HCD2 := Lib.hid (HCD.out.ext hx2)
    replace g1 := HX2.out.cell g1
    replace g2 := HX2.out.cell g2
    replace g3 := HX2.out.cell g3
    clear hx2 z0 z2 y0
    have hi2 : (i : Int) < (rs.length : Int) := by omega
    go_wp2_with fail
    obtain ⟨W3, hW3⟩ : ∃ W3, W3 = w2.alloc (.cells #[.int .u32 (rn : Int), .slice at' ts.length ct, .int .u32 (ra : Int)] 34) := ⟨_, rfl⟩
    have hxw : Ext w2 W3 := by rw [hW3]; exact (Ext.refl _).alloc _
    have c1 : W3.cell? ⟨w2.heap.size, 1, none⟩ = some (.slice at' ts.length ct) := by rw [hW3]; simp [go_sem]
    have c2 : W3.cell? ⟨w2.heap.size, 2, none⟩ = some (.int .u32 (ra : Int)) := by rw [hW3]; simp [go_sem]
    rw [← hW3]
    have HCD3 := Lib.hid (HCD2.out.ext hxw)
    have HX3 := Lib.hid (HX2.out.trans hxw)
    have HC1 := Lib.hid c1
    have HC2 := Lib.hid c2
    clear hW3 hxw g1 g2 g3 z1 c1 c2
    go_loopw [9] (fun i wr => ∃ k : Nat, k ≤ ts.length ∧ i = .int .i64 k ∧ Ext W3 wr ∧ fstA d ts ra = fstA d (ts.drop k) ra) (fun i _ => ts.length - (intOf i).toNat)
    case atStart => exact ⟨0, by omega, rfl, Ext.refl _, rfl⟩
    case round =>
      obtain ⟨k, hk, rfl, hx, heq⟩ := hrel
      have HX := Lib.hid hx
      by_cases hlt : k < ts.length
      · obtain ⟨b3, o3, rfl, t0, t1, t2, t3⟩ := Hhte.out k hlt
        have c1 := hx.cell HC1.out
        rw [fstA_step hlt] at heq
        have hot := Hhokr.out.t _ (List.getElem_mem hlt)
        replace t3 := (HX3.out.trans hx).cell t3
        have k1 : ∀ x : XW wr, x.w.cell? ⟨w2.heap.size, 1, none⟩ = some (.slice (some ⟨b3, o3, none⟩) ts.length ct) := fun x => x.h.cell c1
        have k2 : ∀ x : XW wr, x.w.cell? ⟨b3, o3 + k * 4, none⟩ = some (.int .i64 (ts[k]'hlt).arg) := fun x => ((HX3.out.trans hx).trans x.h).cell t0
        have k3 : ∀ x : XW wr, x.w.cell? ⟨b3, o3 + k * 4 + 1, none⟩ = some (.int .u64 ((ts[k]'hlt).mask : Int)) := fun x => ((HX3.out.trans hx).trans x.h).cell t1
        have k4 : ∀ x : XW wr, x.w.cell? ⟨b3, o3 + k * 4 + 2, none⟩ = some (.int .u64 ((ts[k]'hlt).value : Int)) := fun x => ((HX3.out.trans hx).trans x.h).cell t2
        have k5 : ∀ x : XW wr, x.w.cell? ⟨b3, o3 + k * 4 + 3, none⟩ = some (.int .u32 ((ts[k]'hlt).action : Int)) := fun x => x.h.cell t3
        have m0 : ∀ x : XW wr, x.w.cell? ⟨w.heap.size + 1, 0, none⟩ = some (.int .u32 (d.nr : Int)) := fun x => ((HCD3.out.ext hx).ext x.h).c0
        have m1 : ∀ x : XW wr, x.w.cell? ⟨w.heap.size + 1, 1, none⟩ = some (.int .u32 (d.ar : Int)) := fun x => ((HCD3.out.ext hx).ext x.h).c1
        have m2 : ∀ x : XW wr, x.w.cell? ⟨w.heap.size + 1, 2, none⟩ = some (.int .u64 (d.ip : Int)) := fun x => ((HCD3.out.ext hx).ext x.h).c2
        have m3 : ∀ x : XW wr, x.w.cell? ⟨w.heap.size + 1, 3, none⟩ = some (.int .u64 (d.a0 : Int)) := fun x => ((HCD3.out.ext hx).ext x.h).c3
        have m4 : ∀ x : XW wr, x.w.cell? ⟨w.heap.size + 1, 4, none⟩ = some (.int .u64 (d.a1 : Int)) := fun x => ((HCD3.out.ext hx).ext x.h).c4
        have m5 : ∀ x : XW wr, x.w.cell? ⟨w.heap.size + 1, 5, none⟩ = some (.int .u64 (d.a2 : Int)) := fun x => ((HCD3.out.ext hx).ext x.h).c5
        have m6 : ∀ x : XW wr, x.w.cell? ⟨w.heap.size + 1, 6, none⟩ = some (.int .u64 (d.a3 : Int)) := fun x => ((HCD3.out.ext hx).ext x.h).c6
        have m7 : ∀ x : XW wr, x.w.cell? ⟨w.heap.size + 1, 7, none⟩ = some (.int .u64 (d.a4 : Int)) := fun x => ((HCD3.out.ext hx).ext x.h).c7
        have m8 : ∀ x : XW wr, x.w.cell? ⟨w.heap.size + 1, 8, none⟩ = some (.int .u64 (d.a5 : Int)) := fun x => ((HCD3.out.ext hx).ext x.h).c8
        clear hx t0 t1 t2 t3
        generalize ts[k]'hlt = t at *
        have hC := fun W => HhHl.out t hot W
        have hv : holdP d t = holdsA t d := rfl
        rw [hv] at heq
        have Hhv := Lib.hid hv
        clear hv
        generalize holdsA t d = hb at *
        obtain ⟨ta, tm, tv, tx⟩ := t
        dsimp only at *
        have HhC := Lib.hid hC
        clear hC
        have Hhot := Lib.hid hot
        clear hot
        cases hb
        all_goals
          simp only [if_true, if_false, Bool.false_eq_true] at heq
          have Hheq := Lib.hid heq
          clear heq
          go_wp2_with fail
          refine wp_region_kept (by kernel_rfl) (by kernel_rfl) ?_
          repeat (any_goals (first | go_big_quiet_step ((go_at_call 26; exact calls_kept (HhC.out _))) | quiet_step ((go_at_call 26; exact calls_kept (HhC.out _)))))
          all_goals (refine wpQuiet_nil ?_; intro _ hw9; obtain ⟨xq, hw8⟩ := hw9; subst hw8)
          go_wp2
        · go_roundw
          case rel => exact ⟨k + 1, by omega, by go_num, HX.out.trans xq.h, Hheq.out⟩
          case measure => simp [intOf]; omega
        · go_ret
          exact ⟨by rw [Hheq.out]; rfl, (HX3.out.trans HX.out).trans xq.h⟩
      · obtain rfl : k = ts.length := by omega
        rw [fstA_end] at heq
        have c1 := hx.cell HC1.out
        have c2 := hx.cell HC2.out
        have Hheq := Lib.hid heq
        clear heq
        clear hx
        go_wp2
        go_ret
        exact ⟨by rw [Hheq.out]; rfl, HX3.out.trans HX.out⟩
end L21
end Go.Proofs.Ytkmhfjnjfghnjaa

