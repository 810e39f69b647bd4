/- Layer 14: the walk of Order. -/
import Derived.Maps.OwnSet
import Derived.Test.YtkmbahpjioopdaaDropI
import Derived.Test.YtkmbahpjioopdaaDropA
namespace Go.Proofs.Ytkmbahpjioopdaa
open Go.RowKit Go.Maps Go.Sort Go.Shelf V
attribute [local go_sem] Oper.semAt_some Option.isSome_some
namespace L12
structure OkF (p : PF) : Prop where
  n : p.nm.length ≤ maxLen
  b : p.bs.length ≤ 1000000
/-- what the map holds: files in memory, by their names -/
def MapR (D : DataW Value) (mr : List UInt8 → Option PF) : Prop := ∀ x, has D (.string x) = (mr x).isSome ∧ ∀ q, mr x = some q → ∀ zd, D.atKey (.string x) zd = .held (rV q.r)
theorem fV_rV (p : PF) : fV p = rV p.r := rfl
theorem keyOf_str14 (s : List UInt8) (h : s.length ≤ maxLen) : keyOf Try.prog 9 (.string (str s)) = some (.string s) := by
  unfold keyOf mapKey
  rw [Try.underlying9]
  simp [ByteArray.size, h]
theorem own_not_map {W : World} {base e n k b : Nat} {u : Value} {z : List Value} {es : Array MapEntry} {cl : Nat} (h : W.ownsRow base e n u k z) (hb : W.heap[b]? = some (.map es cl)) : u.ownBlock = none ∨ u.ownBlock ≠ some b := by
  rcases h.2 with ⟨rfl, _⟩ | ⟨g, cap, cur, rfl, _, hgb, _⟩
  · exact .inl rfl
  · refine .inr fun e' => ?_
    have : g = b := by simpa [Value.ownBlock] using e'
    subst this
    rw [hgb] at hb
    cases hb
theorem order_put {w w3 w9 : World} {b k : Nat} {D : DataW Value} {mr : List UInt8 → Option PF} {fs : List Fl} {p q3 : PF} {M : Obj} (hx3 : Ext w w3) (hown3 : w3.ownsMap Try.prog 9 RF b k D) (hmr : MapR D mr) (hmk : MapK fs k (fun x => (mr x).map PF.f)) (hob : ∀ x q, mr x = some q → OwnB w3 w.heap.size q) (hq : q3.f = p.f) (hoq : OwnB w3 w.heap.size q3) (hfk : fs[k]? = some p.f) (hn : p.nm.length ≤ maxLen) (hd : ∀ q, mr p.nm = some q → p.dir < q.dir) (hown9 : w9.ownsMap Try.prog 9 RF b (k + 1) (D.put (.string p.nm) (.held (rV q3.r)))) (hg : w3.grownBy w9 (some b)) (hwb : w.heap.size < b) (hbx : w3.heap[w.heap.size]? = some M) :
    ∃ (D' : DataW Value) (mr' : List UInt8 → Option PF), Ext w w9 ∧ w9.ownsMap Try.prog 9 RF b (k + 1) D' ∧ MapR D' mr' ∧ MapK fs (k + 1) (fun x => (mr' x).map PF.f) ∧ (∀ x q, mr' x = some q → OwnB w9 w.heap.size q) ∧ w9.heap[w.heap.size]? = some M := by
  have hisk := (string_keyed (P := Try.prog) Try.underlying9).key (keyOf_str14 p.nm hn)
  have hism := hown3.isMap
  have hkept : ∀ q, OwnB w3 w.heap.size q → OwnB w9 w.heap.size q := fun q h => by
    obtain ⟨es, cl, hb, -⟩ := hown3
    refine World.ownsRow.kept h hg ?_
    rcases own_not_map h hb with e | e
    · exact .inl e
    · exact .inr e
  refine ⟨_, fun x => if x = p.nm then some q3 else mr x, hx3.grown hg (fun j e => by cases e; omega), hown9, fun x => ?_, ?_, fun x q h => ?_, (hg.block _ (Array.getElem?_eq_some_iff.1 hbx).1 (fun e => by cases e; omega)).trans hbx⟩
  · dsimp only
    by_cases e : x = p.nm
    · rw [e]
      refine ⟨by rw [has_put_same hism hisk, if_pos rfl]; rfl, fun q h zd => ?_⟩
      rw [if_pos rfl] at h
      obtain rfl := Option.some.inj h
      exact atKey_put_same hism hisk _ _
    · have hne : (Lit.string x) ≠ .string p.nm := fun h => e (by injection h)
      refine ⟨by rw [has_put_other hne, if_neg e]; exact (hmr x).1, fun q h zd => ?_⟩
      rw [if_neg e] at h
      rw [atKey_put_other hne]
      exact (hmr x).2 q h zd
  · have h := map_put hmk hfk (fun g hg => by
      have hg' : (mr p.nm).map PF.f = some g := hg
      cases hm : mr p.nm with
      | none => rw [hm] at hg'; cases hg'
      | some q =>
        rw [hm] at hg'
        obtain rfl := Option.some.inj hg'
        exact hd q hm)
    have he : (fun x => if x = p.f.1 then some p.f else (mr x).map PF.f) = fun x => (if x = p.nm then some q3 else mr x).map PF.f := by
      funext x
      show (if x = p.nm then some p.f else _) = _
      by_cases e : x = p.nm
      · rw [if_pos e, if_pos e, ← hq]; rfl
      · rw [if_neg e, if_neg e]
    rw [he] at h
    exact h
  · dsimp only at h
    by_cases e : x = p.nm
    · rw [if_pos e] at h
      obtain rfl := Option.some.inj h
      exact hkept _ hoq
    · rw [if_neg e] at h
      exact hkept _ (hob x q h)
theorem ownsMap_ext {W W' : World} {b k : Nat} {D : DataW Value} (h : W.ownsMap Try.prog 9 RF b k D) (hx : Ext W W') : W'.ownsMap Try.prog 9 RF b k D := by
  have hl := h.lt
  obtain ⟨es, cl, hb, r⟩ := h
  exact ⟨es, cl, (hx.block hl).trans hb, r⟩
theorem rV_inj {r s : FR} (h : rV r = rV s) : r = s := by
  obtain ⟨n1, d1, a1, k1, c1⟩ := r
  obtain ⟨n2, d2, a2, k2, c2⟩ := s
  simp [rV] at h
  obtain ⟨rfl, rfl, rfl, rfl, rfl⟩ := h
  rfl
theorem pull_list {P : PF → Prop} : ∀ (ys : List FR), (∀ y ∈ ys, ∃ q : PF, P q ∧ q.r = y) → ∃ qs : List PF, qs.map PF.r = ys ∧ ∀ q ∈ qs, P q
  | [], _ => ⟨[], rfl, by simp⟩
  | y :: r, h => by
    obtain ⟨q, hq, e⟩ := h y (by simp)
    obtain ⟨qs, h1, h2⟩ := pull_list r (fun z hz => h z (List.mem_cons_of_mem _ hz))
    refine ⟨q :: qs, by rw [List.map_cons, e, h1], fun z hz => ?_⟩
    rcases List.mem_cons.1 hz with rfl | hz
    · exact hq
    · exact h2 z hz
theorem order_end {D : DataW Value} {mr : List UInt8 → Option PF} {fs : List Fl} {xs ys : List FR} (hmr : MapR D mr) (hmk : MapK fs fs.length (fun x => (mr x).map PF.f)) (hall : AllR D xs) (hp : ys.Perm xs) (hs : ys.Pairwise (fun a b => lt b.nm a.nm = false)) :
    ∃ qs : List PF, qs.map PF.r = ys ∧ qs.map PF.f = ordL fs ∧ ∀ q ∈ qs, mr q.nm = some q := by
  obtain ⟨ks, k1, k2, k3, rfl, -⟩ := hall
  have hval : ∀ p ∈ ks, ∃ q, mr p.1 = some q ∧ q.r = p.2 ∧ q.nm = p.1 := fun p hp => by
    have h1 := (k2 p.1).1 (List.mem_map.2 ⟨p, hp, rfl⟩)
    rw [(hmr p.1).1] at h1
    obtain ⟨q, hq⟩ := Option.isSome_iff_exists.1 h1
    have h2 := (hmr p.1).2 q hq (.lit (.bool true))
    rw [k3 p hp] at h2
    injection h2 with h2
    have h3 := hmk p.1
    dsimp only at h3
    rw [hq] at h3
    exact ⟨q, hq, (rV_inj h2).symm, h3.1⟩
  obtain ⟨qs, q1, q2⟩ := pull_list (P := fun q => mr q.nm = some q) ys (fun y hy => by
    obtain ⟨p, hp', rfl⟩ := List.mem_map.1 (hp.mem_iff.1 hy)
    obtain ⟨q, h1, h2, h3⟩ := hval p hp'
    exact ⟨q, by show mr q.nm = some q; rw [h3]; exact h1, h2⟩)
  have hnm : (ks.map (·.2)).map FR.nm = ks.map (·.1) := by
    rw [List.map_map]
    apply List.map_congr_left
    intro p hp'
    obtain ⟨q, h1, h2, h3⟩ := hval p hp'
    show p.2.nm = p.1
    rw [← h2, ← h3]
    rfl
  have hnd : ys.Pairwise (fun a b => a.nm ≠ b.nm) := by
    have h1 : (ys.map FR.nm).Nodup := ((hp.map FR.nm).nodup_iff).2 (by rw [hnm]; exact k1)
    rw [List.Nodup, List.pairwise_map] at h1
    exact h1
  have hsrt : Srt (qs.map PF.f) := by
    have h1 : ys.Pairwise (fun a b => lt a.nm b.nm = true) := (hs.and hnd).imp (fun {a b} h => lt_of h.1 (fun e => h.2 e.symm))
    rw [← q1, List.pairwise_map] at h1
    unfold Srt
    rw [List.pairwise_map]
    exact h1
  refine ⟨qs, q1, ordL_eq (map_ord hmk hsrt (fun f => ?_)), q2⟩
  constructor
  · intro hf
    obtain ⟨q, hq, rfl⟩ := List.mem_map.1 hf
    show (mr q.nm).map PF.f = some q.f
    rw [q2 q hq]
    rfl
  · intro h
    have h' : (mr f.1).map PF.f = some f := h
    cases hm : mr f.1 with
    | none => rw [hm] at h'; cases h'
    | some q =>
      rw [hm] at h'
      have hqf : q.f = f := Option.some.inj h'
      have hh : has D (.string f.1) = true := by rw [(hmr f.1).1, hm]; rfl
      obtain ⟨p, hp', e⟩ := List.mem_map.1 ((k2 f.1).2 hh)
      obtain ⟨z, z1, z2, z3⟩ := hval p hp'
      rw [e, hm] at z1
      obtain rfl := Option.some.inj z1
      have hy : q.r ∈ ys := hp.mem_iff.2 (by rw [z2]; exact List.mem_map.2 ⟨p, hp', rfl⟩)
      rw [← q1] at hy
      obtain ⟨q', hq', e'⟩ := List.mem_map.1 hy
      have hn : q'.nm = q.nm := congrArg FR.nm e'
      have := q2 q' hq'
      rw [hn, z3, e, hm] at this
      obtain rfl := Option.some.inj this
      exact List.mem_map.2 ⟨q, hq', hqf⟩
theorem encF_map (qs : List PF) : (qs.map PF.r).flatMap encR = qs.flatMap encF := by rw [List.flatMap_map]; rfl
set_option maxRecDepth 100000 in
set_option maxHeartbeats 4000000 in
theorem Order_calls (m : PF) (v : Value) (ps : List PF) (hl : ps.length ≤ 1000000) (hom : OkF m) (hop : ∀ p ∈ ps, OkF p) (w : World) (hgm : Good w m) (hv : Rd w 3 encF v ps) (hg : ∀ p ∈ ps, Good w p) :
    Calls Try.prog 10 #[fV m, v] w fun e w' => ∃ (u : Value) (qs : List PF), e = .returned (.tuple #[u, .int .i64 (ordE (ps.map PF.f) : Nat)]) ∧ qs.map PF.f = orderL m.f (ps.map PF.f) ∧ Ext w w' ∧ w'.ownsRow w.heap.size 24 3 u qs.length (qs.flatMap encF) ∧ ∀ q ∈ qs, OwnB w' w.heap.size q := by
  obtain ⟨a, c, rfl, hac, hca⟩ := rdF_cell hv
  have hW := fun W (hx : Ext w W) => wrong14_calls _ ps hl (fun p hp => (hop p hp).n) W (hv.ext hx)
  have hx1 : Ext w (w.alloc (.cells #[.string (str m.nm), .int .i64 m.dir, .slice m.a m.bs.length m.c] 24)) := (Ext.refl _).alloc _
  have HX1 := Lib.hid hx1
  clear hx1 hv
  unfold fV
  by_cases h16 : 16 < ps.length
  · have hE : ordE (ps.map PF.f) = 4 := by unfold ordE; rw [List.length_map, if_pos h16]
    have hO : orderL m.f (ps.map PF.f) = [] := by unfold orderL; rw [if_neg (by rw [hE]; decide)]
    rw [hE, hO]
    have e1 : decide ((16 : Int) < (ps.length : Int)) = true := decide_eq_true (by omega)
    clear hE hO hop hg
    have HhW := Lib.hid hW
    clear hW
    have Hhca := Lib.hid hca
    clear hca
    go_enter Try.func10, Try.ntmps10
    go_wp2_with fail
    go_ret2
    exact ⟨_, [], rfl, rfl, HX1.out, World.ownsRow_nil _ _ _ _, by simp⟩
  have e1 : decide ((16 : Int) < (ps.length : Int)) = false := decide_eq_false (by omega)
  by_cases hall2 : (ps.map PF.f).all (fun f => mayN f.1) = false
  · have hE : ordE (ps.map PF.f) = 140 := by unfold ordE; rw [List.length_map, if_neg h16, if_neg (by rw [hall2]; decide)]
    have hO : orderL m.f (ps.map PF.f) = [] := by unfold orderL; rw [if_neg (by rw [hE]; decide)]
    rw [hE, hO]
    obtain ⟨i, hi, hix, -⟩ := idxW_some ps 0 hall2
    rw [hix] at hW
    clear hE hO hall2 hix hop hg
    have HhW := Lib.hid hW
    clear hW
    have Hhca := Lib.hid hca
    clear hca
    go_enter Try.func10, Try.ntmps10
    go_wp2_with fail
    refine (HhW.out _ HX1.out).mono ?_
    rintro e w1 ⟨rfl, hx⟩
    have HX := Lib.hid (HX1.out.trans hx)
    clear hx
    go_wp2_with fail
    go_ret2
    exact ⟨_, [], rfl, rfl, HX.out, World.ownsRow_nil _ _ _ _, by simp⟩
  have hall : (ps.map PF.f).all (fun f => mayN f.1) = true := by cases h : (ps.map PF.f).all (fun f => mayN f.1) <;> simp_all
  have hE : ordE (ps.map PF.f) = 0 := by unfold ordE; rw [List.length_map, if_neg h16, if_pos hall]
  have hO : orderL m.f (ps.map PF.f) = m.f :: ordL (ps.map PF.f) := by unfold orderL; rw [if_pos hE]
  rw [hE, hO]
  rw [idxW_all ps 0 hall] at hW
  clear hE hO hall hall2
  have HhW := Lib.hid hW
  clear hW
  have Hhca := Lib.hid hca
  clear hca
  have Hhop := Lib.hid hop
  clear hop
  have Hhg := Lib.hid hg
  clear hg
  have Hhgm := Lib.hid hgm
  clear hgm
  have Hhom := Lib.hid hom
  clear hom
  go_enter Try.func10, Try.ntmps10
  go_wp2_with fail
  refine (HhW.out _ HX1.out).mono ?_
  rintro e w1 ⟨rfl, hx⟩
  have hmk : ∀ W, (Instr.makeMap 51 none).run Try.prog W = .ok (.map (some W.heap.size)) (W.alloc (.map #[] 0)) := fun _ => rfl
  have hbm : w1.heap[w.heap.size]? = some (.cells #[.string (str m.nm), .int .i64 m.dir, .slice m.a m.bs.length m.c] 24 (0, 0)) := blk_ext (heap_alloc_new w _) hx
  have hsz1 : w.heap.size < w1.heap.size := by have := hx.size; simp at this; omega
  have hxm : Ext w (w1.alloc (.map #[] 0)) := (HX1.out.trans hx).alloc _
  have hbm2 := (Ext.refl w1).alloc (.map #[] 0)
  replace hbm2 := blk_ext hbm hbm2
  have hown0 := World.ownsMap_made w1 Try.prog 9 RF
  have HXM := Lib.hid hxm
  have HBM := Lib.hid hbm2
  have HOWN0 := Lib.hid hown0
  have HSZ1 := Lib.hid hsz1
  clear hx hxm hbm hbm2 hown0 hsz1
  go_wp2_with fail
  have hb0 := HSZ1.out
  generalize w1.heap.size = b at *
  generalize hw0 : w1.alloc (.map #[] 0) = W0 at *
  clear hw0
  go_loopw [23] (fun i wr => ∃ (k : Nat) (D : DataW Value) (mr : List UInt8 → Option PF), k ≤ ps.length ∧ i = .int .i64 k ∧ Ext w wr ∧ wr.ownsMap Try.prog 9 RF b k D ∧ MapR D mr ∧ MapK (ps.map PF.f) k (fun x => (mr x).map PF.f) ∧ (∀ x q, mr x = some q → OwnB wr w.heap.size q) ∧ wr.heap[w.heap.size]? = some (.cells #[.string (str m.nm), .int .i64 m.dir, .slice m.a m.bs.length m.c] 24 (0, 0))) (fun i _ => ps.length - (intOf i).toNat)
  case atStart => exact ⟨0, .map [], fun _ => none, by omega, rfl, HXM.out, HOWN0.out, fun x => ⟨rfl, fun q h => (by cases h)⟩, map_start _, fun x q h => (by cases h), HBM.out⟩
  case round =>
    obtain ⟨k, D, mr, hk, rfl, hx, hown, hmr, hmk2, hob, hbx⟩ := hrel
    have HX := Lib.hid hx
    have HOWN := Lib.hid hown
    have HMR := Lib.hid hmr
    have HMK := Lib.hid hmk2
    have HOB := Lib.hid hob
    have HBX := Lib.hid hbx
    clear hx hown hmr hmk2 hob hbx
    by_cases hlt : k < ps.length
    · obtain ⟨b', o, rfl, c0, c1, c2⟩ := Hhca.out k hlt
      replace c0 := HX.out.cell c0; replace c1 := HX.out.cell c1; replace c2 := HX.out.cell c2
      have hfk : (ps.map PF.f)[k]? = some ps[k].f := by rw [List.getElem?_map, List.getElem?_eq_getElem hlt]; rfl
      have hokk := Hhop.out _ (List.getElem_mem hlt)
      have hgk := Hhg.out _ (List.getElem_mem hlt)
      have HFK := Lib.hid hfk
      have HOKK := Lib.hid hokk
      have HGK := Lib.hid hgk
      clear hfk hokk hgk
      generalize ps[k] = p at *
      obtain ⟨W1, hW1⟩ : ∃ W1, W1 = wr.alloc (.cells #[.string (str p.nm), .int .i64 p.dir, .slice p.a p.bs.length p.c] 24) := ⟨_, rfl⟩
      have hn1 := heap_alloc_new wr (.cells #[.string (str p.nm), .int .i64 p.dir, .slice p.a p.bs.length p.c] 24)
      have hx1 : Ext wr W1 := by rw [hW1]; exact (Ext.refl _).alloc _
      have hs1 : W1.heap.size = wr.heap.size + 1 := by rw [hW1]; simp
      have hown1 := HOWN.out.alloc (.cells #[.string (str p.nm), .int .i64 p.dir, .slice p.a p.bs.length p.c] 24)
      rw [← hW1] at hn1 hown1
      have d0 := blk_cell hn1 0
      have d1 := blk_cell hn1 1
      have d2 := blk_cell hn1 2
      simp at d0 d1 d2
      obtain ⟨v, pls, hlook, hRv⟩ := hown1.look_ok (string_keyed Try.underlying9) Try.underlying51 (Try.zeroValue24 W1) (RF_rV ⟨[], 0, none, 0, 0⟩) (keyOf_str14 p.nm HOKK.out.n)
      obtain ⟨r0, rfl, hr0⟩ := RF_inv hRv
      have hhas := (HMR.out p.nm).1
      rw [hhas] at hlook
      have HHN := Lib.hid hn1
      have HX1' := Lib.hid hx1
      have HOWN1 := Lib.hid hown1
      have HS1 := Lib.hid hs1
      have HW1 := Lib.hid hW1
      have HR0 := Lib.hid hr0
      have HRV := Lib.hid hRv
      have hcop := fun W (hx : Ext w W) => copied_calls p HOKK.out.b W (Good.ext hx HGK.out)
      unfold fV at hcop
      have HCOP := Lib.hid hcop
      clear hn1 hx1 hown1 hs1 hW1 hr0 hRv hhas hcop
      unfold rV at hlook
      go_upto_region 9 with fail
      rw [← HW1.out]
      cases hmp : mr p.nm with
      | none =>
        rw [hmp] at hlook
        simp only [Option.isSome_none] at hlook
        go_upto_region 11 with fail
        obtain ⟨W2, hW2⟩ : ∃ W2, W2 = W1.alloc (.cells #[.string (str r0.nm), .int .i64 r0.dir, .slice r0.a r0.n r0.c] 24) := ⟨_, rfl⟩
        rw [← hW2]
        have hx2 : Ext W1 W2 := by rw [hW2]; exact (Ext.refl _).alloc _
        have HOWN2 := Lib.hid (ownsMap_ext HOWN1.out hx2)
        have HX2 := Lib.hid ((HX.out.trans HX1'.out).trans hx2)
        have HOB2 : Hid (∀ x q, mr x = some q → OwnB W2 w.heap.size q) := Lib.hid (fun x q h => (HOB.out x q h).ext (HX1'.out.trans hx2))
        have HBX2 := Lib.hid (blk_ext HBX.out (HX1'.out.trans hx2))
        replace d0 := hx2.cell d0; replace d1 := hx2.cell d1; replace d2 := hx2.cell d2
        clear hx2 hW2 c0 c1 c2
        (go_region_law
                        (go_simp
                         refine (HCOP.out _ (by first | exact HX2.out.drew | exact HX2.out | exact HX2.out.drewN _)).mono ?_
                         rintro e w3 ⟨q3, rfl, hq3, ho3, hx3⟩
                         have hxw : Ext W2 w3 := Ext.trans (by first | exact (Ext.refl _).drew | exact Ext.refl _ | exact (Ext.refl _).drewN _) hx3
                         obtain ⟨w9, hrun, hown9, hgr9⟩ := (ownsMap_ext HOWN2.out hxw).update (string_keyed Try.underlying9) Try.underlying51 (by unfold maxLen; omega) (keyOf_str14 p.nm HOKK.out.n) (RF_rV q3.r)
                         have hrun' : (Instr.mapUpdate 51 (.map (some b)) (.string (str p.nm)) (.agg #[.string (str q3.nm), .int .i64 q3.dir, .slice q3.a q3.bs.length q3.c])).run Try.prog w3 = .ok () w9 := hrun
                         have g0 := hxw.cell d0
                         have g1 := hxw.cell d1
                         have g2 := hxw.cell d2
                         have hsb : w.heap.size ≤ W2.heap.size := HX2.out.size
                         have HRES := Lib.hid (order_put (HX2.out.trans hxw) (ownsMap_ext HOWN2.out hxw) HMR.out HMK.out (fun x q h => (HOB2.out x q h).ext hxw) hq3 (ho3.base (by first | exact hsb | (simp; omega))) HFK.out HOKK.out.n (fun q h => by rw [hmp] at h; cases h) hown9 hgr9 hb0 (blk_ext HBX2.out hxw))
                         clear hrun hown9 hgr9 hxw hx3 ho3 hq3))
        all_goals
          have hk9 : k + 1 ≤ 1000000 := by omega
          go_wp2_with fail
          go_roundw
          case rel =>
            obtain ⟨D', mr', r1, r2, r3, r4, r5, r6⟩ := HRES.out
            exact ⟨k + 1, D', mr', by omega, by go_num, r1, r2, r3, r4, r5, r6⟩
          case measure => simp [intOf]; omega
      | some q =>
        rw [hmp] at hlook
        simp only [Option.isSome_some] at hlook
        have e0 : rV r0 = rV q.r := by
          have h1 := HR0.out
          have h2 := (HMR.out p.nm).2 q hmp (.held (rV ⟨[], 0, none, 0, 0⟩))
          have h3 : D.atKey (.string p.nm) (.held (rV ⟨[], 0, none, 0, 0⟩)) = .held (rV r0) := (Prod.mk.inj h1).1
          rw [h2] at h3
          injection h3 with h3
          exact h3.symm
        have e0' : Value.agg #[.string (str r0.nm), .int .i64 r0.dir, .slice r0.a r0.n r0.c] = .agg #[.string (str q.nm), .int .i64 q.dir, .slice q.a q.bs.length q.c] := e0
        rw [e0'] at hlook
        clear e0 e0'
        have d1o := fun o => ((Ext.refl W1).alloc o).cell d1
        by_cases hdir : p.dir < q.dir
        · have hdir2 : decide (p.dir < q.dir) = true := decide_eq_true hdir
          go_upto_region 11 with fail
          obtain ⟨W2, hW2⟩ : ∃ W2, W2 = W1.alloc (.cells #[.string (str q.nm), .int .i64 q.dir, .slice q.a q.bs.length q.c] 24) := ⟨_, rfl⟩
          rw [← hW2]
          have hx2 : Ext W1 W2 := by rw [hW2]; exact (Ext.refl _).alloc _
          have HOWN2 := Lib.hid (ownsMap_ext HOWN1.out hx2)
          have HX2 := Lib.hid ((HX.out.trans HX1'.out).trans hx2)
          have HOB2 : Hid (∀ x q, mr x = some q → OwnB W2 w.heap.size q) := Lib.hid (fun x q h => (HOB.out x q h).ext (HX1'.out.trans hx2))
          have HBX2 := Lib.hid (blk_ext HBX.out (HX1'.out.trans hx2))
          replace d0 := hx2.cell d0; replace d1 := hx2.cell d1; replace d2 := hx2.cell d2
          clear hx2 hW2 c0 c1 c2
          (go_region_law
                          (go_simp
                           refine (HCOP.out _ (by first | exact HX2.out.drew | exact HX2.out | exact HX2.out.drewN _)).mono ?_
                           rintro e w3 ⟨q3, rfl, hq3, ho3, hx3⟩
                           have hxw : Ext W2 w3 := Ext.trans (by first | exact (Ext.refl _).drew | exact Ext.refl _ | exact (Ext.refl _).drewN _) hx3
                           obtain ⟨w9, hrun, hown9, hgr9⟩ := (ownsMap_ext HOWN2.out hxw).update (string_keyed Try.underlying9) Try.underlying51 (by unfold maxLen; omega) (keyOf_str14 p.nm HOKK.out.n) (RF_rV q3.r)
                           have hrun' : (Instr.mapUpdate 51 (.map (some b)) (.string (str p.nm)) (.agg #[.string (str q3.nm), .int .i64 q3.dir, .slice q3.a q3.bs.length q3.c])).run Try.prog w3 = .ok () w9 := hrun
                           have g0 := hxw.cell d0
                           have g1 := hxw.cell d1
                           have g2 := hxw.cell d2
                           have hsb : w.heap.size ≤ W2.heap.size := HX2.out.size
                           have HRES := Lib.hid (order_put (HX2.out.trans hxw) (ownsMap_ext HOWN2.out hxw) HMR.out HMK.out (fun x q h => (HOB2.out x q h).ext hxw) hq3 (ho3.base (by first | exact hsb | (simp; omega))) HFK.out HOKK.out.n (fun q' h => by rw [hmp] at h; cases h; exact hdir) hown9 hgr9 hb0 (blk_ext HBX2.out hxw))
                           clear hrun hown9 hgr9 hxw hx3 ho3 hq3))
          all_goals
            have hk9 : k + 1 ≤ 1000000 := by omega
            go_wp2_with fail
            go_roundw
            case rel =>
              obtain ⟨D', mr', r1, r2, r3, r4, r5, r6⟩ := HRES.out
              exact ⟨k + 1, D', mr', by omega, by go_num, r1, r2, r3, r4, r5, r6⟩
            case measure => simp [intOf]; omega
        · have hdir2 : decide (p.dir < q.dir) = false := decide_eq_false hdir
          have hx2 : Ext W1 (W1.alloc (.cells #[.string (str q.nm), .int .i64 q.dir, .slice q.a q.bs.length q.c] 24)) := (Ext.refl _).alloc _
          have HOWN2 := Lib.hid ((ownsMap_ext HOWN1.out hx2).mono (Nat.le_succ k))
          have HX2 := Lib.hid ((HX.out.trans HX1'.out).trans hx2)
          have HOB2 : Hid (∀ x q', mr x = some q' → OwnB (W1.alloc (.cells #[.string (str q.nm), .int .i64 q.dir, .slice q.a q.bs.length q.c] 24)) w.heap.size q') := Lib.hid (fun x q' h => (HOB.out x q' h).ext (HX1'.out.trans hx2))
          have HBX2 := Lib.hid (blk_ext HBX.out (HX1'.out.trans hx2))
          have HMK2 := Lib.hid (map_skip (g := q.f) HMK.out HFK.out (by show (mr p.nm).map PF.f = some q.f; rw [hmp]; rfl) hdir)
          clear hx2
          have hk9 : k + 1 ≤ 1000000 := by omega
          go_wp2_with fail
          go_roundw
          case rel => exact ⟨k + 1, D, mr, by omega, by go_num, HX2.out, HOWN2.out, HMR.out, HMK2.out, HOB2.out, HBX2.out⟩
          case measure => simp [intOf]; omega
    · obtain rfl : k = ps.length := by omega
      have hszD := HOWN.out.size_le
      have hown1 := HOWN.out.alloc (.cells #[.map (some b)] 51)
      have hxv : Ext wr (wr.alloc (.cells #[.map (some b)] 51)) := (Ext.refl _).alloc _
      have hcv : (wr.alloc (.cells #[.map (some b)] 51)).cell? ⟨wr.heap.size, 0, none⟩ = some (.map (some b)) := (Boxed.new wr _ _).cell
      have hvs := vals_stops wr.heap.size b ps.length D _ (by simp) hcv hown1
      have hCl := Collect_calls 40 #[.pointer (some ⟨wr.heap.size, 0, none⟩)] (AllR D) (fun _ => True) (Maps.size D) (by omega) _ (enters_of Try.func40 (by kernel_rfl) rfl) hvs
      have HV := fun W => Values_calls (some b) W
      have HXV := Lib.hid hxv
      have HhCl := Lib.hid hCl
      clear hCl
      clear hown1 hcv hvs hxv
      go_wp2_with fail
      refine (HV _).mono ?_
      rintro e w4 ⟨rfl, rfl⟩
      go_wp2_with fail
      refine HhCl.out.mono ?_
      rintro e w5 ⟨u, xs, rfl, hAll, hx5, ho5⟩
      have hln : xs.length ≤ 1000000 := by
        obtain ⟨ks, -, -, -, rfl, hk9⟩ := hAll
        rw [List.length_map]
        omega
      have hSo := Sort_calls u xs _ w5 hln ho5
      have HAll := Lib.hid hAll
      have hxw5 : Ext wr w5 := HXV.out.trans hx5
      have HX5 := Lib.hid (HX.out.trans hxw5)
      have HX5' := Lib.hid hxw5
      have HX55 := Lib.hid hx5
      have HhSo := Lib.hid hSo
      clear hSo
      clear hAll hx5 ho5 hxw5
      go_wp2_with fail
      refine HhSo.out.mono ?_
      rintro e w6 ⟨rfl, ys, hp, hs, ho6, hb6⟩
      have hx6 : Ext wr w6 := HXV.out.trans (Below.trans HX55.out hb6)
      obtain ⟨qs, hq1, hq2, hq3⟩ := order_end HMR.out (by rw [List.length_map]; exact HMK.out) HAll.out hp hs
      subst hq1
      rw [encF_map, List.length_map] at ho6
      have hoq : ∀ q ∈ qs, OwnB w6 w.heap.size q := fun q hq => (HOB.out _ q (hq3 q hq)).ext hx6
      have hbx6 := blk_ext HBX.out hx6
      have m0 := blk_cell hbx6 0
      have m1 := blk_cell hbx6 1
      have m2 := blk_cell hbx6 2
      simp at m0 m1 m2
      have HX6 := Lib.hid (HX.out.trans hx6)
      have hcop := copied_calls m Hhom.out.b w6 (Good.ext HX6.out Hhgm.out)
      unfold fV at hcop
      have HOQ := Lib.hid hoq
      have HO6 := Lib.hid ho6
      have HQ2 := Lib.hid hq2
      have Hhcop := Lib.hid hcop
      clear hcop
      clear hp hs hb6 hx6 hq3 hoq ho6 hq2 hbx6
      go_wp2_with fail
      refine Hhcop.out.mono ?_
      rintro e w7 ⟨q0, rfl, hq0, ho0, hx7⟩
      obtain ⟨au6, cu6, rfl⟩ := own_form HO6.out
      have HX7 := Lib.hid (HX6.out.trans hx7)
      have hsz7 := HX7.out.size
      have hn7 : qs.length ≤ 1000000 := by rw [← List.length_map (f := PF.f), HQ2.out]; have := ordL_len (ps.map PF.f); rw [List.length_map] at this; omega
      have HO0 := Lib.hid (ho0.base HX6.out.size)
      have HOQ7 : Hid (∀ q ∈ qs, OwnB w7 w.heap.size q) := Lib.hid (fun q hq => (HOQ.out q hq).ext hx7)
      have HRD := Lib.hid (rd_of_own encF_len (ownX_ext HO6.out hx7))
      have HQ0 := Lib.hid hq0
      clear hx7 ho0 hq0
      go_wp2_with (at_builtin
                   refine wpList_app_g rfl (.tmp 56) (.tmp 57) _ rfl Try.underlying25 infoF rfl (by decide) encF_len encF_one w.heap.size (.slice (some ⟨w7.heap.size, 0, none⟩) 1 1) _ [q0] qs rfl rfl (own_lit encF_len w7 [q0] 24 w7.heap.size w.heap.size rfl hsz7 (by unfold maxLen; simp)) (Rd.ext ((Ext.refl _).alloc _) HRD.out) (by simp; omega) (by decide) (by simp; omega) ?_
                   intro au9 cu9 w9 ho9 hg9
                   have HO9 := Lib.hid ho9
                   have HG9 := Lib.hid hg9
                   clear ho9 hg9)
      go_ret2
      have hx8 : Ext w7 (w7.alloc (.cells #[.string (str q0.nm), .int .i64 q0.dir, .slice q0.a q0.bs.length q0.c] 24)) := (Ext.refl _).alloc _
      have hx9 : Ext w w9 := (HX7.out.trans hx8).grown HG9.out (fun k e => by simp [Value.ownBlock] at e; omega)
      have hkeep : ∀ q, OwnB w7 w.heap.size q → OwnB w9 w.heap.size q := fun q h => by
        have hlt := h.lt
        refine World.ownsRow.kept (h.ext hx8) HG9.out ?_
        cases e : q.v.ownBlock with
        | none => exact .inl rfl
        | some j => exact .inr (fun e' => by have := (hlt j e).2; simp [Value.ownBlock] at e'; omega)
      refine ⟨.slice au9 (qs.length + 1) cu9, q0 :: qs, by simp [Nat.add_comm], by rw [List.map_cons, HQ0.out, HQ2.out], hx9, ?_, ?_⟩
      · have h9 := HO9.out
        rw [show [q0].length + qs.length = qs.length + 1 by rw [List.length_singleton, Nat.add_comm]] at h9
        exact h9
      · intro q hq
        rcases List.mem_cons.1 hq with rfl | hq
        · exact hkeep _ HO0.out
        · exact hkeep _ (HOQ7.out q hq)
end L12
end Go.Proofs.Ytkmbahpjioopdaa
