/- Layer 14: the walk of awake. -/
import Derived.Test.YtkmbahpjioopdaaDropM
namespace Go.Proofs.Ytkmbahpjioopdaa
open Go.RowKit V
attribute [local go_sem] Oper.semAt_some Option.isSome_some
namespace L12
def fA0 : Fl := ([109], 0, ofB [48])
def fsA : List Fl := [([98, 46, 99, 111, 110, 102], 0, ofB [49]), ([97, 46, 99, 111, 110, 102], 1, ofB [50]), ([97, 46, 99, 111, 110, 102], 0, ofB [51]), ([98, 46, 99, 111, 110, 102], 0, ofB [52])]
def fsM : List Fl := [([98, 46, 99, 111, 110, 102], 0, ofB [49]), ([97, 46, 99, 111, 110, 102], 0, ofB [51])]
theorem aw14_1 : ordE fsA = 0 ∧ orderL fA0 fsA = [fA0, ([97, 46, 99, 111, 110, 102], 0, ofB [51]), ([98, 46, 99, 111, 110, 102], 0, ofB [49])] := by decide +kernel
theorem aw14_2 : ordE (List.replicate 17 ([], 0, [])) = 4 := by decide +kernel
theorem aw14_3 : ordE [([97, 47, 98, 46, 99, 111, 110, 102], 0, ofB [49])] = 140 := by decide +kernel
theorem aw14_4 : (mergeL fA0 fsM).1 = [([109], 2, [83], [75], [48]), ([97, 46, 99, 111, 110, 102], 2, [83], [75], [51]), ([98, 46, 99, 111, 110, 102], 2, [83], [75], [49])] ∧ (mergeL fA0 fsM).2 = [] := by decide +kernel
theorem aw14_5 : mayN [97] = false ∧ mayN [46, 99, 111, 110, 102] = false ∧ mayN [97, 46, 99, 111, 110, 102] = true := by decide +kernel
abbrev GL (W : World) (ps : List PF) : Prop := ∀ p ∈ ps, Good W p
theorem gl_add {W W' : World} {ps : List PF} {p : PF} (h : Hid (GL W ps)) (hp : Good W' p) (hx : Ext W W') : Hid (GL W' (p :: ps)) := Lib.hid (fun q hq => by
  rcases List.mem_cons.1 hq with rfl | hq
  · exact hp
  · exact (h.out q hq).ext hx)
theorem gl_ext {W W' : World} {ps : List PF} (h : GL W ps) (hx : Ext W W') : GL W' ps := fun q hq => (h q hq).ext hx
theorem hidX {A W W' : World} (h : Hid (Ext A W)) (hx : Ext W W') : Hid (Ext A W') := Lib.hid (h.out.trans hx)
theorem of_calls2 (nm : List UInt8) (d : Int) (s : List UInt8) (hs : s.length ≤ 100) (w : World) :
    Calls Try.prog 30 #[.string (str nm), .int .i64 d, .string (str s)] w fun e w' => ∃ a c, e = .returned (.agg #[.string (str nm), .int .i64 d, .slice a (ofB s).length c]) ∧ Good w' ⟨nm, d, ofB s, a, c⟩ ∧ Ext w w' := of_calls nm d s hs w
/-- Order of files just made, laid one behind the other -/
theorem Order_lit {W : World} {m : PF} {ps : List PF} {g : Nat} (hg : g = W.heap.size) (hgm : Good W m) (hgl : GL W ps) (hl : ps.length ≤ 1000000) (hom : OkF m) (hop : ∀ p ∈ ps, OkF p) :
    Calls Try.prog 10 #[fV m, .slice (some ⟨g, 0, none⟩) ps.length ps.length] (W.alloc (.cells (ps.flatMap encF).toArray 24)) fun e w' => ∃ (u : Value) (qs : List PF), e = .returned (.tuple #[u, .int .i64 (ordE (ps.map PF.f) : Nat)]) ∧ qs.map PF.f = orderL m.f (ps.map PF.f) ∧ Ext W w' ∧ Rd w' 3 encF u qs ∧ GL w' qs := by
  have hx : Ext W (W.alloc (.cells (ps.flatMap encF).toArray 24)) := (Ext.refl _).alloc _
  refine (Order_calls m _ ps hl hom hop _ (hgm.ext hx) (rd_lit encF_len W ps _ g hg) (gl_ext hgl hx)).mono ?_
  rintro e w' ⟨u, qs, h1, h2, h3, h4, h5⟩
  exact ⟨u, qs, h1, h2, hx.trans h3, rd_of_own encF_len h4, fun q hq => (h5 q hq).good⟩
theorem Merge_lit {W : World} {m : PF} {ps : List PF} {g : Nat} (hg : g = W.heap.size) (hgm : Good W m) (hgl : GL W ps) (hl : ps.length ≤ 1000000) (hom : OkF m) (hop : ∀ p ∈ ps, OkF p) :
    Calls Try.prog 16 #[fV m, .slice (some ⟨g, 0, none⟩) ps.length ps.length] (W.alloc (.cells (ps.flatMap encF).toArray 24)) fun e w' => ∃ ua un, e = .returned (.tuple #[ua, un]) ∧ Ext W w' ∧ Rd w' 5 encAF ua (mergeL m.f (ps.map PF.f)).1 ∧ Rd w' 4 encNF un (mergeL m.f (ps.map PF.f)).2 := by
  have hx : Ext W (W.alloc (.cells (ps.flatMap encF).toArray 24)) := (Ext.refl _).alloc _
  refine (Merge_calls m _ ps hl hom hop _ (hgm.ext hx) (rd_lit encF_len W ps _ g hg) (gl_ext hgl hx)).mono ?_
  rintro e w' ⟨ua, un, h1, h3, h4, h5⟩
  exact ⟨ua, un, h1, hx.trans h3, rd_of_own encAF_len h4, rd_of_own encNF_len h5⟩
theorem okA {nm s : List UInt8} {d : Int} {a : Option Addr} {c : Nat} (hn : nm.length ≤ 100) (hs : s.length ≤ 100) : OkF ⟨nm, d, ofB s, a, c⟩ := ⟨by show nm.length ≤ maxLen; unfold maxLen; omega, by show (ofB s).length ≤ _; unfold ofB; simp; omega⟩
/-- .. the last one made first -/
theorem Order_rev {W : World} {nm : List UInt8} {d : Int} {bs : List UInt8} {a : Option Addr} {c n g : Nat} {ps : List PF} {cs : Array Value} {E : Nat} {L : List Fl} (hgl : GL W ps) (hgm : Good W ⟨nm, d, bs, a, c⟩) (hE : ordE (ps.reverse.map PF.f) = E) (hL : orderL (nm, d, bs) (ps.reverse.map PF.f) = L) (hg : g = W.heap.size) (hn : n = ps.reverse.length) (hcs : cs = (ps.reverse.flatMap encF).toArray) (hl : ps.length ≤ 1000000) (hom : OkF ⟨nm, d, bs, a, c⟩) (hop : ∀ p ∈ ps, OkF p) :
    Calls Try.prog 10 #[.agg #[.string (str nm), .int .i64 d, .slice a bs.length c], .slice (some ⟨g, 0, none⟩) n n] (W.alloc (.cells cs 24)) fun e w' => ∃ (u : Value) (qs : List PF), e = .returned (.tuple #[u, .int .i64 (E : Int)]) ∧ qs.map PF.f = L ∧ Ext W w' ∧ Rd w' 3 encF u qs ∧ GL w' qs := by
  subst hn hcs hE hL
  exact Order_lit (m := ⟨nm, d, bs, a, c⟩) hg hgm (fun p hp => hgl p (List.mem_reverse.1 hp)) (by rw [List.length_reverse]; exact hl) hom (fun p hp => hop p (List.mem_reverse.1 hp))
theorem Merge_rev {W : World} {nm : List UInt8} {d : Int} {bs : List UInt8} {a : Option Addr} {c n g : Nat} {ps : List PF} {cs : Array Value} {A : List AF} {N : List NF} (hgl : GL W ps) (hgm : Good W ⟨nm, d, bs, a, c⟩) (hA : (mergeL (nm, d, bs) (ps.reverse.map PF.f)).1 = A) (hN : (mergeL (nm, d, bs) (ps.reverse.map PF.f)).2 = N) (hg : g = W.heap.size) (hn : n = ps.reverse.length) (hcs : cs = (ps.reverse.flatMap encF).toArray) (hl : ps.length ≤ 1000000) (hom : OkF ⟨nm, d, bs, a, c⟩) (hop : ∀ p ∈ ps, OkF p) :
    Calls Try.prog 16 #[.agg #[.string (str nm), .int .i64 d, .slice a bs.length c], .slice (some ⟨g, 0, none⟩) n n] (W.alloc (.cells cs 24)) fun e w' => ∃ ua un, e = .returned (.tuple #[ua, un]) ∧ Ext W w' ∧ Rd w' 5 encAF ua A ∧ Rd w' 4 encNF un N := by
  subst hn hcs hA hN
  exact Merge_lit (m := ⟨nm, d, bs, a, c⟩) hg hgm (fun p hp => hgl p (List.mem_reverse.1 hp)) (by rw [List.length_reverse]; exact hl) hom (fun p hp => hop p (List.mem_reverse.1 hp))
def z0F : PF := ⟨[], 0, [], none, 0⟩
def cells17 : Array Value := ((List.replicate 17 z0F).flatMap encF).toArray
theorem cells17_rev : cells17 = ((List.replicate 17 z0F).reverse.flatMap encF).toArray := by rw [List.reverse_replicate]; rfl
theorem made17 : madeCells (Value.agg #[.string ⟨#[]⟩, .int .i64 0, .slice none 0 0]).cells ((17 : Int).toNat * 3) = cells17 := by kernel_rfl
theorem make17 (W : World) : (Instr.makeSlice 25 (.int .i64 17) (.int .i64 17)).run Try.prog W = .ok (.slice (some ⟨W.heap.size, 0, none⟩) 17 17) (W.alloc (.cells cells17 24)) := by
  obtain ⟨i0, hi, hz0, hz1, hz2⟩ := info_parts infoF
  have h := run_makeSlice (P := Try.prog) (w := W) 25 24 i0 _ Try.underlying25 hi hz0 .i64 .i64 17 17 (by decide) (by decide) (by rw [hz1]; decide) (by rw [hz2]; decide) (by decide)
  rw [hz1, made17] at h
  exact h
theorem gl17 (W : World) : GL W (List.replicate 17 z0F) := fun p hp => by
  obtain ⟨-, rfl⟩ := List.mem_replicate.1 hp
  exact rd_none W 1 encB
theorem aw14_6 : ordE ((List.replicate 17 z0F).reverse.map PF.f) = 4 := by rw [List.reverse_replicate]; exact aw14_2
theorem map3 {α β : Type} {f : α → β} {x y z : β} : ∀ {l : List α}, l.map f = [x, y, z] → ∃ a b c, l = [a, b, c] ∧ f a = x ∧ f b = y ∧ f c = z
  | [], h => by simp at h
  | [_], h => by simp at h
  | [_, _], h => by simp at h
  | [a, b, c], h => by simp at h; exact ⟨a, b, c, rfl, h.1, h.2.1, h.2.2⟩
  | _ :: _ :: _ :: _ :: _, h => by simp at h
set_option maxRecDepth 100000 in
set_option maxHeartbeats 8000000 in
theorem awake14_calls (w : World) : Calls Try.prog 15 #[] w fun e w' => e = .returned (.bool true) ∧ Ext w w' := by
  go_enter Try.func15, Try.ntmps15
  go_wp2_with fail
  refine (of_calls2 [109] 0 [48] (by decide) _).mono ?_
  rintro e w1 ⟨am, cm, rfl, hgm, hx1⟩
  have hx2 : Ext w (w1.alloc (.cells #[.string (str [109]), .int .i64 0, .slice am (ofB [48]).length cm] 24)) := hx1.alloc _
  have hb := heap_alloc_new w1 (.cells #[.string (str [109]), .int .i64 0, .slice am (ofB [48]).length cm] 24)
  have hgm2 := hgm.ext ((Ext.refl w1).alloc (.cells #[.string (str [109]), .int .i64 0, .slice am (ofB [48]).length cm] 24))
  obtain ⟨W0, hW0⟩ : ∃ W0, W0 = w1.alloc (.cells #[.string (str [109]), .int .i64 0, .slice am (ofB [48]).length cm] 24) := ⟨_, rfl⟩
  rw [← hW0] at hx2 hb hgm2
  have HX2 := Lib.hid hx2
  have HB := Lib.hid hb
  have HGM := Lib.hid hgm2
  have HW0 := Lib.hid hW0
  clear hx1 hx2 hb hgm hgm2 hW0
  go_upto_region 2 with fail
  rw [← HW0.out]
  have m0 := blk_cell HB.out 0
  have m1 := blk_cell HB.out 1
  have m2 := blk_cell HB.out 2
  simp at m0 m1 m2
  have HXB : Hid (Ext W0 W0) := Lib.hid (Ext.refl _)
  have HX0A : Hid (Ext W0 W0) := Lib.hid (Ext.refl _)
  go_upto_region 2 with fail
  go_cut [2, 3] (fun l e wx => ∃ qs : List PF, e = .int .i64 0 ∧ Ext W0 wx ∧ Rd wx 3 encF l qs ∧ GL wx qs ∧ qs.map PF.f = [fA0, ([97, 46, 99, 111, 110, 102], 0, ofB [51]), ([98, 46, 99, 111, 110, 102], 0, ofB [49])])
  case first =>
    have HXC : Hid (Ext W0 W0.drew) := Lib.hid (HXB.out.drew)
    have HGL : Hid (GL W0.drew []) := Lib.hid (fun p hp => by cases hp)
    (go_region_law
      (go_simp
       first
         | (refine (of_calls2 _ _ _ (by decide) _).mono ?_
            rintro e w' ⟨a1, c1, rfl, hg1, hx1⟩
            replace m0 := hx1.cell m0
            replace m1 := hx1.cell m1
            replace m2 := hx1.cell m2
            have m0o := fun o => ((Ext.refl w').alloc o).cell m0
            have m1o := fun o => ((Ext.refl w').alloc o).cell m1
            have m2o := fun o => ((Ext.refl w').alloc o).cell m2
            replace HXC := hidX HXC hx1
            replace HGL := gl_add HGL hg1 hx1
            clear hg1 hx1)
         | (refine (Order_rev HGL.out (HGM.out.ext (HX0A.out.trans HXC.out)) aw14_1.1 aw14_1.2 rfl rfl rfl (by simp) (okA (by decide) (by decide)) (by intro p hp; simp only [List.mem_cons, List.not_mem_nil, or_false] at hp; rcases hp with rfl | rfl | rfl | rfl <;> exact okA (by decide) (by decide))).mono ?_
            rintro e w9 ⟨u9, qs9, rfl, hq9, hx9, hr9, hl9⟩
            have HRES : Hid (∃ qs : List PF, Ext W0 w9 ∧ Rd w9 3 encF u9 qs ∧ GL w9 qs ∧ qs.map PF.f = [fA0, ([97, 46, 99, 111, 110, 102], 0, ofB [51]), ([98, 46, 99, 111, 110, 102], 0, ofB [49])]) := Lib.hid ⟨qs9, HXC.out.trans hx9, hr9, hl9, hq9⟩
            clear hq9 hr9 hl9
            replace m0 := hx9.cell m0
            replace m1 := hx9.cell m1
            replace m2 := hx9.cell m2
            clear hx9)))
    all_goals
      go_wp2_with fail
      go_meet
      obtain ⟨qs, h⟩ := HRES.out
      exact ⟨qs, rfl, h⟩
  case rest =>
    obtain ⟨qs, rfl, hx2, hr2, hl2, hq2⟩ := hcut
    have HX0A := Lib.hid hx2
    have HXB : Hid (Ext wc wc) := Lib.hid (Ext.refl _)
    have m0 := (HX0A.out.trans HXB.out).cell (blk_cell HB.out 0)
    have m1 := (HX0A.out.trans HXB.out).cell (blk_cell HB.out 1)
    have m2 := (HX0A.out.trans HXB.out).cell (blk_cell HB.out 2)
    simp at m0 m1 m2
    have HR2 := Lib.hid hr2
    have HL2 := Lib.hid hl2
    have HQ2 := Lib.hid hq2
    clear hr2 hl2 hq2 hx2
    generalize wc = WA at *
    go_upto_region 3 with fail
    go_cut [5] (fun e wx => e = .int .i64 4 ∧ Ext WA wx)
    case first =>
      have hmk := make17
      have m0o := fun o => ((Ext.refl WA).alloc o).cell m0
      have m1o := fun o => ((Ext.refl WA).alloc o).cell m1
      have m2o := fun o => ((Ext.refl WA).alloc o).cell m2
      (go_region_law
        (go_simp
         refine (Order_rev (gl17 _) (HGM.out.ext (HX0A.out.trans HXB.out.drew)) aw14_6 rfl rfl rfl cells17_rev (by simp) (okA (by decide) (by decide)) (by intro p hp; obtain ⟨-, rfl⟩ := List.mem_replicate.1 hp; exact ⟨by decide, by decide⟩)).mono ?_
         rintro e w9 ⟨u9, qs9, rfl, hq9, hx9, hr9, hl9⟩
         have HRES : Hid (Ext WA w9) := Lib.hid (HXB.out.drew.trans hx9)
         clear hq9 hr9 hl9
         replace m0 := hx9.cell m0
         replace m1 := hx9.cell m1
         replace m2 := hx9.cell m2
         clear hx9))
      all_goals
        go_wp2_with fail
        go_meet
        exact ⟨rfl, HRES.out⟩
    case rest =>
      obtain ⟨rfl, hx3⟩ := hcut
      have HXB := Lib.hid hx3
      have m0 := (HX0A.out.trans HXB.out).cell (blk_cell HB.out 0)
      have m1 := (HX0A.out.trans HXB.out).cell (blk_cell HB.out 1)
      have m2 := (HX0A.out.trans HXB.out).cell (blk_cell HB.out 2)
      simp at m0 m1 m2
      go_upto_region 4 with fail
      go_cut [7] (fun e wx => e = .int .i64 140 ∧ Ext WA wx)
      case first =>
        have HXC : Hid (Ext WA wc.drew) := Lib.hid (HXB.out.drew)
        have HGL : Hid (GL wc.drew []) := Lib.hid (fun p hp => by cases hp)
        (go_region_law
          (go_simp
           first
             | (refine (of_calls2 _ _ _ (by decide) _).mono ?_
                rintro e w' ⟨a1, c1, rfl, hg1, hx1⟩
                replace m0 := hx1.cell m0
                replace m1 := hx1.cell m1
                replace m2 := hx1.cell m2
                have m0o := fun o => ((Ext.refl w').alloc o).cell m0
                have m1o := fun o => ((Ext.refl w').alloc o).cell m1
                have m2o := fun o => ((Ext.refl w').alloc o).cell m2
                replace HXC := hidX HXC hx1
                replace HGL := gl_add HGL hg1 hx1
                clear hg1 hx1)
             | (refine (Order_rev HGL.out (HGM.out.ext (HX0A.out.trans HXC.out)) aw14_3 rfl rfl rfl rfl (by simp) (okA (by decide) (by decide)) (by intro p hp; simp only [List.mem_cons, List.not_mem_nil, or_false] at hp; rcases hp with rfl <;> exact okA (by decide) (by decide))).mono ?_
                rintro e w9 ⟨u9, qs9, rfl, hq9, hx9, hr9, hl9⟩
                have HRES : Hid (Ext WA w9) := Lib.hid (HXC.out.trans hx9)
                clear hq9 hr9 hl9
                replace m0 := hx9.cell m0
                replace m1 := hx9.cell m1
                replace m2 := hx9.cell m2
                clear hx9)))
        all_goals
          go_wp2_with fail
          go_meet
          exact ⟨rfl, HRES.out⟩
      case rest =>
        obtain ⟨rfl, hx4⟩ := hcut
        have HXB := Lib.hid hx4
        have m0 := (HX0A.out.trans HXB.out).cell (blk_cell HB.out 0)
        have m1 := (HX0A.out.trans HXB.out).cell (blk_cell HB.out 1)
        have m2 := (HX0A.out.trans HXB.out).cell (blk_cell HB.out 2)
        simp at m0 m1 m2
        go_upto_region 5 with fail
        go_cut [8, 9] (fun l e wx => Ext WA wx ∧ Rd wx 5 encAF l [([109], 2, [83], [75], [48]), ([97, 46, 99, 111, 110, 102], 2, [83], [75], [51]), ([98, 46, 99, 111, 110, 102], 2, [83], [75], [49])] ∧ Rd wx 4 encNF e [])
        case first =>
          have HXC : Hid (Ext WA wc.drew) := Lib.hid (HXB.out.drew)
          have HGL : Hid (GL wc.drew []) := Lib.hid (fun p hp => by cases hp)
          (go_region_law
            (go_simp
             first
               | (refine (of_calls2 _ _ _ (by decide) _).mono ?_
                  rintro e w' ⟨a1, c1, rfl, hg1, hx1⟩
                  replace m0 := hx1.cell m0
                  replace m1 := hx1.cell m1
                  replace m2 := hx1.cell m2
                  have m0o := fun o => ((Ext.refl w').alloc o).cell m0
                  have m1o := fun o => ((Ext.refl w').alloc o).cell m1
                  have m2o := fun o => ((Ext.refl w').alloc o).cell m2
                  replace HXC := hidX HXC hx1
                  replace HGL := gl_add HGL hg1 hx1
                  clear hg1 hx1)
               | (refine (Merge_rev HGL.out (HGM.out.ext (HX0A.out.trans HXC.out)) aw14_4.1 aw14_4.2 rfl rfl rfl (by simp) (okA (by decide) (by decide)) (by intro p hp; simp only [List.mem_cons, List.not_mem_nil, or_false] at hp; rcases hp with rfl | rfl <;> exact okA (by decide) (by decide))).mono ?_
                  rintro e w9 ⟨u9, v9, rfl, hx9, hr9, hl9⟩
                  have HRES : Hid (Ext WA w9 ∧ Rd w9 5 encAF u9 [([109], 2, [83], [75], [48]), ([97, 46, 99, 111, 110, 102], 2, [83], [75], [51]), ([98, 46, 99, 111, 110, 102], 2, [83], [75], [49])] ∧ Rd w9 4 encNF v9 []) := Lib.hid ⟨HXC.out.trans hx9, hr9, hl9⟩
                  clear hr9 hl9
                  replace m0 := hx9.cell m0
                  replace m1 := hx9.cell m1
                  replace m2 := hx9.cell m2
                  clear hx9)))
          all_goals
            go_wp2_with fail
            go_meet
            exact HRES.out
        case rest =>
          obtain ⟨hx5, hra, hrn⟩ := hcut
          have hr2 := Rd.ext hx5 HR2.out
          have hgl := gl_ext HL2.out hx5
          have hqs := HQ2.out
          have HX5 := Lib.hid ((HX2.out.trans HX0A.out).trans hx5)
          obtain ⟨x, y, z, rfl, ex, ey, ez⟩ : ∃ x y z : PF, qs = [x, y, z] ∧ x.f = fA0 ∧ y.f = ([97, 46, 99, 111, 110, 102], 0, ofB [51]) ∧ z.f = ([98, 46, 99, 111, 110, 102], 0, ofB [49]) := by
            exact map3 hqs
          obtain ⟨xn, xd, xb, xa, xc⟩ := x
          obtain ⟨yn, yd, yb, ya, yc⟩ := y
          obtain ⟨zn, zd, zb, za, zc⟩ := z
          simp only [PF.f, fA0, Prod.mk.injEq] at ex ey ez
          obtain ⟨rfl, rfl, rfl⟩ := ex
          obtain ⟨rfl, rfl, rfl⟩ := ey
          obtain ⟨rfl, rfl, rfl⟩ := ez
          have hgz := hgl ⟨[98, 46, 99, 111, 110, 102], 0, ofB [49], za, zc⟩ (by simp)
          have hcz := conv_rd hgz
          unfold PF.v at hcz
          obtain ⟨a2, c2, rfl, -, hc2⟩ := rdF_cell hr2
          obtain ⟨b, o, rfl, x0, -, -⟩ := hc2 0 (by simp)
          obtain ⟨b', o', e', y0, y1, -⟩ := hc2 1 (by simp)
          simp only [Option.some.injEq, Addr.mk.injEq, and_true] at e'
          obtain ⟨rfl, rfl⟩ := e'
          obtain ⟨b', o', e', -, -, z2⟩ := hc2 2 (by simp)
          simp only [Option.some.injEq, Addr.mk.injEq, and_true] at e'
          obtain ⟨rfl, rfl⟩ := e'
          obtain ⟨a8, c8, rfl, -, hc8⟩ := rdAF_cell hra
          obtain ⟨b8, o8, rfl, -, -, -, -, s1⟩ := hc8 1 (by simp)
          obtain ⟨b', o', e', -, -, -, -, s2⟩ := hc8 2 (by simp)
          simp only [Option.some.injEq, Addr.mk.injEq, and_true] at e'
          obtain ⟨rfl, rfl⟩ := e'
          obtain ⟨a9, c9, rfl, -, -⟩ := rdNF_cell hrn
          simp at x0 y0 y1 z2 s1 s2
          have hM1 : ∀ W, Calls Try.prog 13 #[.string ⟨#[97]⟩] W fun e w' => e = .returned (.bool false) ∧ Ext W w' := fun W => by
            have h := May_calls ⟨#[97]⟩ (by decide) W
            rw [show mayN (bytes ⟨#[97]⟩) = false from aw14_5.1] at h
            exact h
          have hM2 : ∀ W, Calls Try.prog 13 #[.string ⟨#[46, 99, 111, 110, 102]⟩] W fun e w' => e = .returned (.bool false) ∧ Ext W w' := fun W => by
            have h := May_calls ⟨#[46, 99, 111, 110, 102]⟩ (by decide) W
            rw [show mayN (bytes ⟨#[46, 99, 111, 110, 102]⟩) = false from aw14_5.2.1] at h
            exact h
          have hM3 : ∀ W, Calls Try.prog 13 #[.string ⟨#[97, 46, 99, 111, 110, 102]⟩] W fun e w' => e = .returned (.bool true) ∧ Ext W w' := fun W => by
            have h := May_calls ⟨#[97, 46, 99, 111, 110, 102]⟩ (by decide) W
            rw [show mayN (bytes ⟨#[97, 46, 99, 111, 110, 102]⟩) = true from aw14_5.2.2] at h
            exact h
          have hob1 : (ofB [49] == [91, 83, 93, 10, 75, 61, 49, 10]) = true := by decide
          have hob2 : ((str (ofB [49])).toList == [91, 83, 93, 10, 75, 61, 49, 10]) = true := by rw [toList_str]; exact hob1
          have HhM1 := Lib.hid hM1
          clear hM1
          have HhM2 := Lib.hid hM2
          clear hM2
          have HhM3 := Lib.hid hM3
          clear hM3
          clear hr2 hgl hqs hgz hc2 hc8 hra hrn m0 m1 m2
          go_wp2_with fail
          refine (HhM1.out _).mono ?_
          rintro e w7 ⟨rfl, hx7⟩
          go_wp2_with fail
          refine (HhM2.out _).mono ?_
          rintro e w8 ⟨rfl, hx8⟩
          go_wp2_with fail
          refine (HhM3.out _).mono ?_
          rintro e w9 ⟨rfl, hx9⟩
          have HXE := Lib.hid (((HX5.out.trans hx7).trans hx8).trans hx9)
          clear hx7 hx8 hx9
          go_wp2_with fail
          go_ret
          exact ⟨rfl, HXE.out⟩
end L12
end Go.Proofs.Ytkmbahpjioopdaa
