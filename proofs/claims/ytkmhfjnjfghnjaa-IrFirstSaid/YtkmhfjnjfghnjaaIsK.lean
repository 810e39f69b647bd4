/- Layer 21: the walk of the law IrFirst. -/
import Derived.Test.YtkmhfjnjfghnjaaIsJ
import Derived.Test.YtkmhfjnjfghnjaaAppS
namespace Go.Proofs.Ytkmhfjnjfghnjaa
open Go.RowKit V
namespace L21
open L25 (Dat datV OkD)
theorem any_step {d : Dat} {ts : List Test} {k : Nat} (h : k < ts.length) : (ts.take (k + 1)).any (holdP d) = ((ts.take k).any (holdP d) || holdP d ts[k]) := by
  rw [List.take_succ_eq_append_getElem h, List.any_append]
  simp
theorem denA_at {f : Filter} {d : Dat} {i : Nat} (ho : ownA f d = true) (hi : i < f.rules.length) (h : f.rules[i].nr = d.nr) (hk : ∀ k (h : k < i), (f.rules[k]'(by omega)).nr ≠ d.nr) : denA f d = fstA d f.rules[i].tests f.rules[i].action := by
  rw [denA_own ho]; exact denL_at hi h hk
theorem denA_put {f : Filter} {d : Dat} {i : Nat} {r : Rule} (ho : ownA f d = true) (hi : i < f.rules.length) (h : r.nr = d.nr) (hk : ∀ k (h : k < i), (f.rules[k]'(by omega)).nr ≠ d.nr) : denA ⟨f.arch, f.rules.set i r, f.dflt⟩ d = fstA d r.tests r.action := by
  have e : ownA ⟨f.arch, f.rules.set i r, f.dflt⟩ d = true := ho
  have hi' : i < (f.rules.set i r).length := by rw [List.length_set]; exact hi
  have hg : (f.rules.set i r)[i] = r := List.getElem_set_self hi'
  have := denA_at (f := ⟨f.arch, f.rules.set i r, f.dflt⟩) e hi' (by show ((f.rules.set i r)[i]).nr = d.nr; rw [hg]; exact h) (fun k hk2 => by
    show ((f.rules.set i r)[k]'(by rw [List.length_set]; omega)).nr ≠ d.nr
    rw [List.getElem_set_ne (by omega)]
    exact hk k hk2)
  rw [this]
  show fstA d ((f.rules.set i r)[i]).tests ((f.rules.set i r)[i]).action = _
  rw [hg]
/-- one rule's tests put into a row of the call's own -/
theorem own_tests {W : World} {base g c : Nat} {ps : List PR} (h : W.ownsRow base 34 3 (.slice (some ⟨g, 0, none⟩) ps.length c) ps.length (ps.flatMap encP)) {i : Nat} (hi : i < ps.length) (ts : List Test) (a : Option Addr) (ct : Nat) :
    (W.setCell ⟨g, i * 3 + 1, none⟩ (.slice a ts.length ct)).ownsRow base 34 3 (.slice (some ⟨g, 0, none⟩) ps.length c) ps.length ((ps.set i ⟨⟨ps[i].r.nr, ts, ps[i].r.action⟩, a, ct⟩).flatMap encP) :=
  (own_store encP_len h i 1 (.slice a ts.length ct) ⟨⟨ps[i].r.nr, ts, ps[i].r.action⟩, a, ct⟩ hi (by decide) rfl).1
/-- a new block of room for forty tests -/
theorem own_room {W : World} {cs : Array Value} (hc : cs.size = 160) (g : Nat) (hg : W.heap[g]? = some (.cells cs 37 (0, 0))) {base : Nat} (hb : base ≤ g) : W.ownsRow base 37 4 (.slice (some ⟨g, 0, none⟩) 0 40) 0 (([] : List Test).flatMap encT) :=
  ⟨rfl, .inr ⟨g, 40, cs, rfl, hb, hg, by decide, by unfold maxLen; decide, by rw [hc], by simp⟩⟩
theorem rd_set {W : World} {base g c : Nat} {ps : List PR} {i : Nat} {p : PR} (h : W.ownsRow base 34 3 (.slice (some ⟨g, 0, none⟩) ps.length c) ps.length ((ps.set i p).flatMap encP)) (hg : ∀ q ∈ ps, GoodP W q) (hp : GoodP W p) {rs : List Rule} (hm : (ps.set i p).map PR.r = rs) :
    RdR W 3 (IsR W) (.slice (some ⟨g, 0, none⟩) ps.length c) rs := by
  have hls : (ps.set i p).length = ps.length := List.length_set
  rw [← hls] at h
  have h2 := rdRR_of (rd_of_own encP_len h) (fun q hq => by
    rcases List.mem_or_eq_of_mem_set hq with h | h
    · exact hg q h
    · rw [h]; exact hp)
  rw [hm, hls] at h2
  exact h2
theorem own_drew {w : World} {base e n k : Nat} {v : Value} {zs : List Value} (h : w.ownsRow base e n v k zs) : w.drew.ownsRow base e n v k zs := ⟨h.1, h.2⟩
theorem two_rooms {W : World} {C : Array Value} (hC : C.size = 160) :
    ((W.alloc (.cells C 37)).alloc (.cells C 37)).drew.ownsRow W.heap.size 37 4 (.slice (some ⟨W.heap.size, 0, none⟩) 0 40) 0 (([] : List Test).flatMap encT) ∧
    ((W.alloc (.cells C 37)).alloc (.cells C 37)).drew.ownsRow W.heap.size 37 4 (.slice (some ⟨W.heap.size + 1, 0, none⟩) 0 40) 0 (([] : List Test).flatMap encT) ∧
    ((W.alloc (.cells C 37)).alloc (.cells C 37)).drew.heap.size = W.heap.size + 2 ∧ Ext W ((W.alloc (.cells C 37)).alloc (.cells C 37)).drew := by
  have h1 := own_room (W := W.alloc (.cells C 37)) hC W.heap.size (heap_alloc_new W _) (Nat.le_refl _)
  have h2 := own_room (W := (W.alloc (.cells C 37)).alloc (.cells C 37)) hC (W.alloc (.cells C 37)).heap.size (heap_alloc_new _ _) (base := W.heap.size) (by simp)
  rw [World.size_alloc] at h2
  refine ⟨own_drew (h1.alloc _), own_drew h2, ?_, (((Ext.refl W).alloc _).alloc _).drew⟩
  show ((W.alloc (.cells C 37)).alloc (.cells C 37)).heap.size = _
  rw [World.size_alloc, World.size_alloc]
set_option maxRecDepth 100000 in
theorem mk40 : ∃ C : Array Value, C.size = 160 ∧ ∀ W, (Instr.makeSlice 32 (.int .i64 0) (.int .i64 40)).run Try.prog W = .ok (.slice (some ⟨W.heap.size, 0, none⟩) 0 40) (W.alloc (.cells C 37)) := by
  refine ⟨madeCells (Value.agg #[.int .i64 0, .int .u64 0, .int .u64 0, .int .u32 0]).cells 160, ?_, fun W => ?_⟩
  · simp [size_madeCells]
  · kernel_rfl
set_option maxRecDepth 100000 in
set_option maxHeartbeats 4000000 in
theorem IrFirst_skip (f : Filter) (u : Value) (hf : OkF f) (d : Dat) (i : Int) (t : Test) (hskip : great 0 f.rules = true ∨ i < 0 ∨ (f.rules.length : Int) ≤ i) (w : World) (hu : RdR w 3 (IsR w) u f.rules) :
    Calls Try.prog 8 #[.agg #[.int .i64 f.arch, u, .int .u32 (f.dflt : Int)], datV d, .int .i64 i, .agg #[.int .i64 t.arg, .int .u64 (t.mask : Int), .int .u64 (t.value : Int), .int .u32 (t.action : Int)]] w fun e w' => e = .returned (.bool true) ∧ Ext w w' := by
  have hG := fun W (hx : Ext w W) => Great_calls f u hf W (rdRR_ext hx hu)
  have HAW : Hid (∀ W, Calls Try.prog 30 #[] W fun e w' => e = .returned (.bool true) ∧ Ext W w') := Lib.hid (fun W => awake_calls W)
  have hx0 : ∀ (o1 o2 o3 : Obj) (w1 : World), Ext (((w.alloc o1).alloc o2).alloc o3) w1 → Ext w w1 := fun o1 o2 o3 w1 h => ((((Ext.refl w).alloc o1).alloc o2).alloc o3).trans h
  have Hhx0 := Lib.hid hx0
  clear hx0
  have hcase : great 0 f.rules = true ∨ (great 0 f.rules = false ∧ decide (i < 0) = true) ∨ (great 0 f.rules = false ∧ decide (i < 0) = false ∧ decide ((f.rules.length : Int) ≤ i) = true) := by
    cases hg : great 0 f.rules
    · rw [hg] at hskip
      by_cases h1 : i < 0
      · exact .inr (.inl ⟨rfl, decide_eq_true h1⟩)
      · have h2 : (f.rules.length : Int) ≤ i := by
          rcases hskip with h | h | h
          · cases h
          · exact absurd h h1
          · exact h
        exact .inr (.inr ⟨rfl, decide_eq_false h1, decide_eq_true h2⟩)
    · exact .inl rfl
  obtain ⟨ar, rs, df⟩ := f
  obtain ⟨ta, tm, tv, tx⟩ := t
  dsimp only at *
  obtain ⟨av, cv, rfl, -, -⟩ := rdR_cell hu
  unfold datV
  have Hhskip := Lib.hid hskip
  clear hskip
  clear hu hf
  rcases hcase with h1 | ⟨h1, h2⟩ | ⟨h1, h2, h3⟩
  all_goals
    rw [h1] at hG
    have HhG := Lib.hid hG
    clear hG
    have Hh1 := Lib.hid h1
    clear h1
    go_enter Try.func8, Try.ntmps8
    go_wp2_with fail
    refine (HAW.out _).mono ?_
    rintro e w1 ⟨rfl, hx1⟩
    have z0 := hx1.cell (p := ⟨w.heap.size, 0, none⟩) (by simp [go_sem]; rfl)
    have z1 := hx1.cell (p := ⟨w.heap.size, 1, none⟩) (by simp [go_sem]; rfl)
    have z2 := hx1.cell (p := ⟨w.heap.size, 2, none⟩) (by simp [go_sem]; rfl)
    have HX1 := Lib.hid (Hhx0.out _ _ _ _ hx1)
    clear hx1
    go_wp2_with fail
    refine (HhG.out _ HX1.out).mono ?_
    rintro e w2 ⟨rfl, hx2⟩
    replace z1 := hx2.cell z1
    have HX2 := Lib.hid (HX1.out.trans hx2)
    clear hx2 z0 z2
    go_wp2_with fail
    go_ret
    exact ⟨rfl, HX2.out⟩
end L21
end Go.Proofs.Ytkmhfjnjfghnjaa
