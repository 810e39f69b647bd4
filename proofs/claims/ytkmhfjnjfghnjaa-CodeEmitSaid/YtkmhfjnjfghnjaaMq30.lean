import Derived.Test.YtkmhfjnjfghnjaaMq28
import Derived.Test.YtkmhfjnjfghnjaaMq14
/- Layer 25, plain: what is known of a row that Emit tells. -/
namespace Go.Proofs.Ytkmhfjnjfghnjaa
open Go.RowKit V
namespace L25M
open L25 (Sy encY OkY Dat OkD mayA runA)
open L25W
open L25G (tokN)
open L21 (Test Rule Filter OkF OkT OkR mayF denA)
open L23 (Span OkS)
def KOk (xs : List SS) : Prop := ∀ s ∈ xs, s.k < 4294967296
theorem KOk.app {xs ys : List SS} (h : KOk xs) (h' : KOk ys) : KOk (xs ++ ys) := fun s hs => by
  rcases List.mem_append.1 hs with hs | hs
  · exact h s hs
  · exact h' s hs
theorem KOk.nil : KOk [] := fun s hs => by cases hs
theorem KOk.cons {s : SS} {xs : List SS} (hs : s.k < 4294967296) (h : KOk xs) : KOk (s :: xs) := fun x hx => by
  rcases List.mem_cons.1 hx with rfl | hx
  · exact hs
  · exact h x hx
theorem kok_half {p a m v : Nat} {e : Tg} (ha : a < 4294967296) (hm : m < 4294967296) (hv : v < 4294967296) : KOk (halfS p a m v e) := by
  unfold halfS
  split
  · exact .nil
  · split
    · exact .cons ha (.cons hv .nil)
    · exact .cons ha (.cons hm (.cons hv .nil))
theorem kok_test {t : Test} (p : Nat) (h : OkT t) (hm : L21.mayT t = true) : KOk (testS p t) := by
  have hl := fun x => lo_lt x
  have hh : ∀ x, x < 18446744073709551616 → L25.hi x < 4294967296 := fun x hx => by unfold L25.hi; omega
  have ha : t.arg < 6 := by
    unfold L21.mayT at hm
    simp only [Bool.and_eq_true, decide_eq_true_eq] at hm
    omega
  unfold testS
  exact (kok_half (by unfold loAt; omega) (hl _) (hl _)).app ((kok_half (by unfold hiAt; omega) (hh _ h.m) (hh _ h.v)).app (.cons h.x .nil))
theorem kok_rule : ∀ (ts : List Test) (p x : Nat), x < 4294967296 → (∀ t ∈ ts, OkT t ∧ L21.mayT t = true) → KOk (ruleS p ts x)
  | [], p, x, hx, _ => .cons hx .nil
  | t :: r, p, x, hx, h => by
    unfold ruleS
    refine (kok_test p (h t List.mem_cons_self).1 (h t List.mem_cons_self).2).app ?_
    split
    · exact .nil
    · exact kok_rule r _ x hx (fun t ht => h t (List.mem_cons_of_mem _ ht))
theorem kok_rules : ∀ (rs : List Rule) (p : Nat), (∀ r ∈ rs, OkR r ∧ ∀ t ∈ r.tests, L21.mayT t = true) → KOk (rulesS p rs)
  | [], p, _ => .nil
  | r :: l, p, h => by
    unfold rulesS
    obtain ⟨h1, h2⟩ := h r List.mem_cons_self
    exact (kok_rule _ _ _ h1.x (fun t ht => ⟨h1.t t ht, h2 t ht⟩)).app (kok_rules l _ (fun r hr => h r (List.mem_cons_of_mem _ hr)))
theorem tre_at : ∀ l : List Span, 0 < l.length → (∀ s ∈ l, s.lo < 4294967296) → ∀ a, ∀ n ∈ L24.tre l a, n.at_ < 4294967296 := by
  refine L24.len_rec (fun l h hs a n hn => ?_) (fun l h ih1 ih2 hs a n hn => ?_)
  · rw [L24.tre_one h] at hn
    simp at hn; subst hn; exact (by decide : (0 : Nat) < 4294967296)
  · rw [L24.tre_more h] at hn
    rcases List.mem_cons.1 hn with rfl | hn
    · show L24.loAt l (l.length / 2) < 4294967296
      rw [L24.loAt_get (by omega)]
      exact hs _ (List.getElem_mem _)
    · rcases List.mem_append.1 hn with hn | hn
      · exact ih1 (fun s hs' => hs s (List.mem_of_mem_take hs')) _ n hn
      · exact ih2 (fun s hs' => hs s (List.mem_of_mem_drop hs')) _ n hn
theorem kok_branch {F : Nat → Tg} {t : List Nd} (h : ∀ n ∈ t, n.at_ < 4294967296) : KOk (branchS F t) := by
  unfold branchS jmps
  refine KOk.app ?_ (fun s hs => ?_)
  · split
    · exact .cons (show (0 : Nat) < 4294967296 by decide) .nil
    · exact .nil
  · obtain ⟨n, hn, rfl⟩ := List.mem_map.1 hs
    exact h n (List.mem_filter.1 hn).1
theorem kok_own (nt : Tg) {a : Int} (h0 : 0 ≤ a) (h6 : a < 6) : KOk (ownS nt a) := by
  have ht : tokN a.toNat < 4294967296 := by
    rcases (show a = 0 ∨ a = 1 ∨ a = 2 ∨ a = 3 ∨ a = 4 ∨ a = 5 by omega) with rfl | rfl | rfl | rfl | rfl | rfl <;> decide
  unfold ownS
  refine KOk.app (.cons (by decide) (.cons ht (.cons (by decide) .nil))) ?_
  split
  · exact .cons (show (1073741824 : Nat) < 4294967296 by decide) .nil
  · split
    · exact .cons (show (1073741824 : Nat) < 4294967296 by decide) .nil
    · exact .nil
theorem kok_em {f : Filter} (hf : OkF f) (hm : mayF f = true) : KOk (emS f (treeF f)) := by
  obtain ⟨h1, h2, h3, h4, h5⟩ := may_rules hm
  have hsp := span_ok hm (fun r hr => (hf.r r hr).n)
  have hw := (treeF_facts hm (fun r hr => (hf.r r hr).n)).2.1
  unfold emS
  exact (kok_own _ h1 h2).app ((kok_branch (tre_at _ (L24.whole_pos hw) (fun s hs => (hsp s hs).l) 0)).app (.cons hf.d ((kok_rules _ _ (fun r hr => ⟨hf.r r hr, (h5 r hr).2⟩)).app (.cons (by decide) .nil))))
theorem emit_facts {f : Filter} (hf : OkF f) (hm : mayF f = true) : mayA ((emS f (treeF f)).map SS.fin) = true ∧ (∀ s ∈ (emS f (treeF f)).map SS.fin, OkY s) ∧ ((emS f (treeF f)).map SS.fin).length ≤ 97000 := by
  have hnr : ∀ r ∈ f.rules, r.nr < 4294967296 := fun r hr => (hf.r r hr).n
  obtain ⟨-, -, -, -, hT⟩ := treeF_facts hm hnr
  have hlen : (emS f (treeF f)).length ≤ 97000 := by
    have h1 := rowE_bound (nt := 0) (lab := fun j => j + 1) hm hT (Nat.le_refl f.rules.length)
    rw [rowE_len _ _ _ _ (Nat.le_refl _)] at h1
    rw [emS_len]
    have : wP f (treeF f) (f.rules.length + 1) = nP f (treeF f) := by unfold wP nP; rw [if_neg (by omega), Nat.add_sub_cancel]
    omega
  refine ⟨emit_may hm hT, fun s hs => ?_, by rw [List.length_map]; exact hlen⟩
  obtain ⟨x, hx, rfl⟩ := List.mem_map.1 hs
  have hk := kok_em hf hm x hx
  obtain ⟨j, hj, rfl⟩ := List.mem_iff_getElem.1 hx
  have ho := emS_ok hm hT j hj
  rw [← emS_len] at ho
  generalize (emS f (treeF f))[j] = s at *
  obtain ⟨c, k, q⟩ := s
  rcases ho with ⟨h1, h2⟩ | ⟨n, m, h1, h2, h3, h4⟩
  · dsimp only at h1 h2 hk
    subst h1
    exact ⟨by show c < 65536; omega, hk, by show (-9223372036854775808 : Int) ≤ 0; decide, by show (0 : Int) ≤ _; decide, by show (-9223372036854775808 : Int) ≤ 0; decide, by show (0 : Int) ≤ _; decide⟩
  · dsimp only at h1 h4 hk
    subst h1
    refine ⟨by show c < 65536; omega, hk, by show (-9223372036854775808 : Int) ≤ (n : Int); omega, by show (n : Int) ≤ _; omega, ?_, ?_⟩
    · show (-9223372036854775808 : Int) ≤ (if c = 5 then 0 else (m : Int)); split <;> omega
    · show (if c = 5 then (0 : Int) else (m : Int)) ≤ 9223372036854775807; split <;> omega
end L25M
end Go.Proofs.Ytkmhfjnjfghnjaa

/- Layer 21: the walk of normal. -/
namespace Go.Proofs.Ytkmhfjnjfghnjaa
open Go.RowKit V
namespace L21
set_option maxRecDepth 100000 in
set_option maxHeartbeats 1000000 in
theorem normal_calls (r : Rule) (v : Value) (hr : OkR r) (hl : r.tests.length ≤ 1000) (w : World) (hv : Rd w 4 encT v r.tests) :
    Calls Try.prog 44 #[.agg #[.int .u32 (r.nr : Int), v, .int .u32 (r.action : Int)]] w fun e w' =>
      ∃ a c, e = .returned (.agg #[.int .u32 ((normR r).nr : Int), .slice a (normR r).tests.length c, .int .u32 ((normR r).action : Int)]) ∧ Ext w w' ∧ GoodP w' ⟨normR r, a, c⟩ ∧ OwnT w' w.heap.size ⟨normR r, a, c⟩ := by
  have hN : normR r = ⟨r.nr, trimT (cutT r.tests r.action).1 (cutT r.tests r.action).2, (cutT r.tests r.action).2⟩ := rfl
  rw [hN]
  obtain ⟨rn, ts, ra⟩ := r
  dsimp only at *
  have hT := fun W (hx : Ext w W) => twin_calls ⟨rn, ts, ra⟩ v (by dsimp only; omega) W (hv.ext hx)
  have hI := fun v' W (h : Rd W 4 encT v' ts) => idxZero_calls v' ts hr.l hr.t W h
  dsimp only at hT
  obtain ⟨av, cv, rfl, -, -⟩ := rdT_cell hv
  -- what the loop at the end comes to, and the end itself
  obtain ⟨cs, x, hcut⟩ : ∃ cs x, cutT ts ra = (cs, x) := ⟨_, _, rfl⟩
  rw [hcut]
  dsimp only
  have hcl := cutT_len ts ra
  rw [hcut] at hcl
  dsimp only at hcl
  have hend : ∀ k, trimN cs x cs.length = k → (trimT cs x).length = k ∧ trimT cs x = cs.take k := fun k hk => by
    have := trimN_le cs x cs.length
    unfold trimT
    rw [hk]
    exact ⟨by rw [List.length_take]; omega, rfl⟩
  have hcase := cut_idx ts ra 0
  simp only [Nat.zero_add] at hcase
  rcases hcase with ⟨hi, hc⟩ | ⟨i, hil, hi, hc⟩
  all_goals
    rw [hi] at hI
    rw [hcut] at hc
    clear hi
    have Hhend := Lib.hid hend
    clear hend
    have HC1 := Lib.hid (Prod.mk.inj hc).1
    have HC2 := Lib.hid (Prod.mk.inj hc).2
    clear hc
    have HCL := Lib.hid hcl
    clear hcl
    have Hhcut := Lib.hid hcut
    clear hcut
    have HhT := Lib.hid hT
    clear hT
    have HhI := Lib.hid hI
    clear hI
    have HhN := Lib.hid hN
    clear hN
    have Hhr := Lib.hid hr
    clear hr
    clear hv
    go_enter Try.func44, Try.ntmps44
    go_wp2_with fail
    refine (HhT.out _ (((Ext.refl _).alloc _).alloc _)).mono ?_
    rintro e w1 ⟨a1, c1, rfl, ho, hx1⟩
    have z0 := hx1.cell (p := ⟨w.heap.size, 0, none⟩) (by simp [go_sem]; rfl)
    have z1 := hx1.cell (p := ⟨w.heap.size, 1, none⟩) (by simp [go_sem]; rfl)
    have z2 := hx1.cell (p := ⟨w.heap.size, 2, none⟩) (by simp [go_sem]; rfl)
    have f : ∀ j, w1.frozen? ⟨w.heap.size, j, none⟩ = false := fun j => (World.frozen?_of_block (hx1.block (by simp; omega))).trans (by simp [go_sem])
    have y0 := hx1.cell (p := ⟨w.heap.size + 1, 0, none⟩) (by simp [go_sem]; rfl)
    have y1 := hx1.cell (p := ⟨w.heap.size + 1, 1, none⟩) (by simp [go_sem]; rfl)
    have y2 := hx1.cell (p := ⟨w.heap.size + 1, 2, none⟩) (by simp [go_sem]; rfl)
    have fy : ∀ j, w1.frozen? ⟨w.heap.size + 1, j, none⟩ = false := fun j => (World.frozen?_of_block (hx1.block (by simp))).trans (by simp [go_sem])
    have HS0 := Lib.hid (NS.start (rn := rn) (x := ra) ((((Ext.refl w).alloc _).alloc _).trans hx1) (Nat.le_refl _) z0 z1 z2 f y0 y1 y2 fy (own_base ho (by simp)))
    have f0 := f 0
    have f1 := f 1
    have f2 := f 2
    clear hx1 ho f fy y0 y1 y2
    go_wp2_with fail
    generalize hW2 : World.setCell _ _ _ = W2
    rw [hW2] at HS0
    clear hW2 z0 z1 z2 f0 f1 f2
    refine (HhI.out _ _ (by have := HS0.out.good; rw [List.take_length] at this; exact this)).mono ?_
    rintro e w2 ⟨rfl, hx2⟩
    have HS2 := Lib.hid (HS0.out.kept hx2)
    clear hx2
    have b1 := HS2.out.b1
    have hb := World.block_lt_of_cell? _ _ b1
  · go_wp2_with fail
    obtain ⟨W3, hW3⟩ : ∃ W3, W3 = w2 := ⟨_, rfl⟩
    rw [← hW3]
    obtain ⟨cc, hcc⟩ : ∃ cc, cc = c1 := ⟨_, rfl⟩
    have HS3 : Hid (NS w w.heap.size rn a1 cs.length cc x cs W3) := by rw [hW3, HC1.out, HC2.out, hcc]; exact HS2
    have HL : Hid ((ts.length : Int) = (cs.length : Int)) := Lib.hid (by rw [HC1.out])
    rw [HL.out]
    clear hcc hW3 b1 hb
    go_loopw [4] (fun n wr => ∃ k : Nat, n = .int .i64 k ∧ NS w w.heap.size rn a1 k cc x cs wr ∧ trimN cs x cs.length = trimN cs x k) (fun n _ => (intOf n).toNat)
    case atStart => exact ⟨cs.length, rfl, HS3.out, rfl⟩
    case round =>
      obtain ⟨k, rfl, hs, heq⟩ := hrel
      have HS := Lib.hid hs
      have hk := hs.hk
      have b0 := hs.b0
      have b1 := hs.b1
      have b2 := hs.b2
      have f1 := hs.f 1
      have y0 := hs.y0
      have y1 := hs.y1
      have y2 := hs.y2
      have fy0 := hs.fy 0
      have fy1 := hs.fy 1
      have fy2 := hs.fy 2
      have kc := hs.kc
      have hbb := World.block_lt_of_cell? _ _ b1
      have hby := World.block_lt_of_cell? _ _ y1
      have hlc := HCL.out
      rcases Nat.eq_zero_or_pos k with h0 | h0
      · have d0 : decide (0 < k) = false := decide_eq_false (by omega)
        have d1 : decide ((0 : Int) < (k : Int)) = false := decide_eq_false (by omega)
        have heq2 : trimN cs x cs.length = k := by rw [heq, h0]; rfl
        clear hs
        have Hheq := Lib.hid heq
        clear heq
        have Hheq2 := Lib.hid heq2
        clear heq2
        have Hh0 := Lib.hid h0
        clear h0
        go_wp2_with (go_quiet (fail))
        go_wp2
        obtain ⟨ht1, ht2⟩ := Hhend.out _ Hheq2.out
        refine bodyPost_ret (v := .agg #[.int .u32 (rn : Int), .slice a1 k cc, .int .u32 (x : Int)]) (by first | (simp [results, Try.results44, go_sem, y0, y1, y2]; done) | (simp [results, Try.results44, go_sem, y0, y1, y2]; rfl)) rfl ?_
        obtain ⟨q1, q2, q3⟩ := (HS.out.kept ((Ext.refl wr).drewN nq)).done (.int .u32 (rn : Int)) (.slice a1 k cc) (.int .u32 (x : Int))
        refine ⟨a1, cc, by rw [ht1], q1, ?_, ?_⟩
        · rw [ht2]; exact q2
        · rw [ht2]; exact q3
      · obtain ⟨j, hj⟩ : ∃ j, k = j + 1 := ⟨k - 1, by omega⟩
        have hjl : j < cs.length := by omega
        have d0 : decide (0 < k) = true := decide_eq_true (by omega)
        have d1 : decide ((0 : Int) < (k : Int)) = true := decide_eq_true (by omega)
        obtain ⟨g', hg', t3⟩ := hs.cellT (j := j) (by omega)
        subst hg'
        have hst := trimN_step (x := x) hjl
        rw [← hj] at hst
        have b4 : (0 : Int) ≤ (k : Int) - 1 := by omega
        have b5 : (k : Int) - 1 < (k : Int) := by omega
        have e4 : k - 1 = j := by omega
        have e5 : (k : Int) - 1 = (j : Int) := by omega
        generalize (cs[j]'hjl).action = xa at *
        rw [← e4] at t3
        have hq : ((xa : Int) == (x : Int)) = (xa == x) := by rw [Bool.eq_iff_iff]; simp; omega
        clear hs
        cases hxa : (xa == x)
        · rw [hxa] at hst hq
          have heq2 : trimN cs x cs.length = k := by rw [heq, hst]; rfl
          have Hheq := Lib.hid heq
          clear heq
          have Hheq2 := Lib.hid heq2
          clear heq2
          have Hh0 := Lib.hid h0
          clear h0
          have Hhst := Lib.hid hst
          clear hst
          have Hhxa := Lib.hid hxa
          clear hxa
          have Hhj := Lib.hid hj
          clear hj
          have He4 := Lib.hid e4
          clear e4
          have He5 := Lib.hid e5
          clear e5
          go_wp2_with (go_quiet (fail))
          go_wp2
          obtain ⟨ht1, ht2⟩ := Hhend.out _ Hheq2.out
          refine bodyPost_ret (v := .agg #[.int .u32 (rn : Int), .slice (some ⟨g', 0, none⟩) k cc, .int .u32 (x : Int)]) (by first | (simp [results, Try.results44, go_sem, y0, y1, y2]; done) | (simp [results, Try.results44, go_sem, y0, y1, y2]; rfl)) rfl ?_
          obtain ⟨q1, q2, q3⟩ := (HS.out.kept ((Ext.refl wr).drewN nq)).done (.int .u32 (rn : Int)) (.slice (some ⟨g', 0, none⟩) k cc) (.int .u32 (x : Int))
          refine ⟨(some ⟨g', 0, none⟩), cc, by rw [ht1], q1, ?_, ?_⟩
          · rw [ht2]; exact q2
          · rw [ht2]; exact q3
        · rw [hxa] at hst hq
          simp only [if_true] at hst
          have Hhxa := Lib.hid hxa
          clear hxa
          have He4 := Lib.hid e4
          clear e4
          have HJ := Lib.hid hj
          have HE5 := Lib.hid e5
          clear hj e5
          have HEQ := Lib.hid (heq.trans hst)
          clear heq hst h0
          go_wp2_with (go_quiet (fail))
          go_wp2
          go_roundw
          case rel => exact ⟨j, by rw [HE5.out], by have := (HS.out.kept ((Ext.refl wr).drewN nq)).cut (k' := j) (c' := cc) (by have := HJ.out; omega) (by have := HJ.out; omega) (fun h => by cases h); have e := HJ.out; rw [show k - 1 = j by omega]; exact this, HEQ.out⟩
          case measure => simp [intOf]; omega
  · obtain ⟨g, rfl, ht3⟩ := HS2.out.cellT hil
    have b2 := HS2.out.b2
    have f1 := HS2.out.f 1
    have f2 := HS2.out.f 2
    have kc := HS2.out.kc
    obtain ⟨cc, hcc⟩ : ∃ cc, cc = i := ⟨_, rfl⟩
    rw [← HC2.out] at ht3
    go_wp2_with fail
    generalize hW3 : World.setCell _ _ _ = W3
    have HS3 : Hid (NS w w.heap.size rn (some ⟨g, 0, none⟩) cs.length cc x cs W3) := by
      have hci : cs.length = i := by rw [HC1.out, List.length_take]; omega
      have hk : i ≤ ts.length := by omega
      have h1 := ((HS2.out.act x).cut (k' := i) (c' := i) hk (Nat.le_refl _) (fun h => by cases h)).pre (i := i) (Nat.le_refl _)
      rw [hW3, ← HC1.out] at h1
      rw [hci, hcc]
      exact h1
    have HL : Hid ((i : Int) = (cs.length : Int)) := Lib.hid (by rw [HC1.out, List.length_take]; omega)
    rw [HL.out]
    clear hcc hW3 b1 hb b2 f1 f2 kc ht3
    go_loopw [4] (fun n wr => ∃ k : Nat, n = .int .i64 k ∧ NS w w.heap.size rn (some ⟨g, 0, none⟩) k cc x cs wr ∧ trimN cs x cs.length = trimN cs x k) (fun n _ => (intOf n).toNat)
    case atStart => exact ⟨cs.length, rfl, HS3.out, rfl⟩
    case round =>
      obtain ⟨k, rfl, hs, heq⟩ := hrel
      have HS := Lib.hid hs
      have hk := hs.hk
      have b0 := hs.b0
      have b1 := hs.b1
      have b2 := hs.b2
      have f1 := hs.f 1
      have y0 := hs.y0
      have y1 := hs.y1
      have y2 := hs.y2
      have fy0 := hs.fy 0
      have fy1 := hs.fy 1
      have fy2 := hs.fy 2
      have kc := hs.kc
      have hbb := World.block_lt_of_cell? _ _ b1
      have hby := World.block_lt_of_cell? _ _ y1
      have hlc := HCL.out
      rcases Nat.eq_zero_or_pos k with h0 | h0
      · have d0 : decide (0 < k) = false := decide_eq_false (by omega)
        have d1 : decide ((0 : Int) < (k : Int)) = false := decide_eq_false (by omega)
        have heq2 : trimN cs x cs.length = k := by rw [heq, h0]; rfl
        clear hs
        have Hheq := Lib.hid heq
        clear heq
        have Hheq2 := Lib.hid heq2
        clear heq2
        have Hh0 := Lib.hid h0
        clear h0
        go_wp2_with (go_quiet (fail))
        go_wp2
        obtain ⟨ht1, ht2⟩ := Hhend.out _ Hheq2.out
        refine bodyPost_ret (v := .agg #[.int .u32 (rn : Int), .slice (some ⟨g, 0, none⟩) k cc, .int .u32 (x : Int)]) (by first | (simp [results, Try.results44, go_sem, y0, y1, y2]; done) | (simp [results, Try.results44, go_sem, y0, y1, y2]; rfl)) rfl ?_
        obtain ⟨q1, q2, q3⟩ := (HS.out.kept ((Ext.refl wr).drewN nq)).done (.int .u32 (rn : Int)) (.slice (some ⟨g, 0, none⟩) k cc) (.int .u32 (x : Int))
        refine ⟨(some ⟨g, 0, none⟩), cc, by rw [ht1], q1, ?_, ?_⟩
        · rw [ht2]; exact q2
        · rw [ht2]; exact q3
      · obtain ⟨j, hj⟩ : ∃ j, k = j + 1 := ⟨k - 1, by omega⟩
        have hjl : j < cs.length := by omega
        have d0 : decide (0 < k) = true := decide_eq_true (by omega)
        have d1 : decide ((0 : Int) < (k : Int)) = true := decide_eq_true (by omega)
        obtain ⟨g', hg', t3⟩ := hs.cellT (j := j) (by omega)
        obtain rfl : g = g' := by simpa using hg'
        have hst := trimN_step (x := x) hjl
        rw [← hj] at hst
        have b4 : (0 : Int) ≤ (k : Int) - 1 := by omega
        have b5 : (k : Int) - 1 < (k : Int) := by omega
        have e4 : k - 1 = j := by omega
        have e5 : (k : Int) - 1 = (j : Int) := by omega
        generalize (cs[j]'hjl).action = xa at *
        rw [← e4] at t3
        have hq : ((xa : Int) == (x : Int)) = (xa == x) := by rw [Bool.eq_iff_iff]; simp; omega
        clear hs
        cases hxa : (xa == x)
        · rw [hxa] at hst hq
          have heq2 : trimN cs x cs.length = k := by rw [heq, hst]; rfl
          have Hheq := Lib.hid heq
          clear heq
          have Hheq2 := Lib.hid heq2
          clear heq2
          have Hh0 := Lib.hid h0
          clear h0
          have Hhst := Lib.hid hst
          clear hst
          have Hhxa := Lib.hid hxa
          clear hxa
          have Hhj := Lib.hid hj
          clear hj
          have He4 := Lib.hid e4
          clear e4
          have He5 := Lib.hid e5
          clear e5
          go_wp2_with (go_quiet (fail))
          go_wp2
          obtain ⟨ht1, ht2⟩ := Hhend.out _ Hheq2.out
          refine bodyPost_ret (v := .agg #[.int .u32 (rn : Int), .slice (some ⟨g, 0, none⟩) k cc, .int .u32 (x : Int)]) (by first | (simp [results, Try.results44, go_sem, y0, y1, y2]; done) | (simp [results, Try.results44, go_sem, y0, y1, y2]; rfl)) rfl ?_
          obtain ⟨q1, q2, q3⟩ := (HS.out.kept ((Ext.refl wr).drewN nq)).done (.int .u32 (rn : Int)) (.slice (some ⟨g, 0, none⟩) k cc) (.int .u32 (x : Int))
          refine ⟨(some ⟨g, 0, none⟩), cc, by rw [ht1], q1, ?_, ?_⟩
          · rw [ht2]; exact q2
          · rw [ht2]; exact q3
        · rw [hxa] at hst hq
          simp only [if_true] at hst
          have Hhxa := Lib.hid hxa
          clear hxa
          have He4 := Lib.hid e4
          clear e4
          have HJ := Lib.hid hj
          have HE5 := Lib.hid e5
          clear hj e5
          have HEQ := Lib.hid (heq.trans hst)
          clear heq hst h0
          go_wp2_with (go_quiet (fail))
          go_wp2
          go_roundw
          case rel => exact ⟨j, by rw [HE5.out], by have := (HS.out.kept ((Ext.refl wr).drewN nq)).cut (k' := j) (c' := cc) (by have := HJ.out; omega) (by have := HJ.out; omega) (fun h => by cases h); have e := HJ.out; rw [show k - 1 = j by omega]; exact this, HEQ.out⟩
          case measure => simp [intOf]; omega
end L21
end Go.Proofs.Ytkmhfjnjfghnjaa

