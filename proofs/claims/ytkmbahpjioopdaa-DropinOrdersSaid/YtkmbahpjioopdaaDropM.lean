/- Layer 14: of; files that are more than are gone through. -/
import Derived.Test.YtkmbahpjioopdaaDropL
namespace Go.Proofs.Ytkmbahpjioopdaa
open Go.RowKit V
attribute [local go_sem] Oper.semAt_some Option.isSome_some
namespace L12
def ofB (s : List UInt8) : List UInt8 := [91, 83, 93, 10, 75, 61] ++ s ++ [10]
theorem bytes_appD (a b : ByteArray) : bytes (a ++ b) = bytes a ++ bytes b := by
  show (a ++ b).data.toList = _
  rw [ByteArray.data_append, Array.toList_append]
theorem size_appD (a b : ByteArray) : (a ++ b).size = a.size + b.size := by
  rw [← bytes_len, bytes_appD, List.length_append, bytes_len, bytes_len]
set_option maxRecDepth 100000 in
set_option maxHeartbeats 2000000 in
theorem of_calls (nm : List UInt8) (d : Int) (s : List UInt8) (hs : s.length ≤ 100) (w : World) :
    Calls Try.prog 30 #[.string (str nm), .int .i64 d, .string (str s)] w fun e w' => ∃ a c, e = .returned (fV ⟨nm, d, ofB s, a, c⟩) ∧ Good w' ⟨nm, d, ofB s, a, c⟩ ∧ Ext w w' := by
  have hsz : (str s).size = s.length := str_sizeD s
  have hs1 : ((⟨#[91, 83, 93, 10, 75, 61]⟩ : ByteArray) ++ str s).size = s.length + 6 := by rw [size_appD, hsz]; rw [Nat.add_comm]; rfl
  have hs2 : ((⟨#[91, 83, 93, 10, 75, 61]⟩ : ByteArray) ++ str s ++ ⟨#[10]⟩).size = s.length + 7 := by rw [size_appD, hs1]; rfl
  have hcv := fun W => conv_str W ((⟨#[91, 83, 93, 10, 75, 61]⟩ : ByteArray) ++ str s ++ ⟨#[10]⟩)
  go_enter Try.func30, Try.ntmps30
  go_wp2_with fail
  have hcap := grownCap_ge (w.alloc (.cells #[.string ⟨#[]⟩, .int .i64 0, .slice none 0 0] 24)) (s.length + 7) 0 5
  generalize grownCap (w.alloc (.cells #[.string ⟨#[]⟩, .int .i64 0, .slice none 0 0] 24)) (s.length + 7) 0 5 = cap at *
  have hb1 : (w.alloc (.cells #[.string (str nm), .int .i64 d, .slice (some ⟨w.heap.size + 1, 0, none⟩) (s.length + 7) cap] 24)).heap[w.heap.size]? = some (.cells #[.string (str nm), .int .i64 d, .slice (some ⟨w.heap.size + 1, 0, none⟩) (s.length + 7) cap] 24 (0, 0)) := heap_alloc_new w _
  have hx1 : Ext w (w.alloc (.cells #[.string (str nm), .int .i64 d, .slice (some ⟨w.heap.size + 1, 0, none⟩) (s.length + 7) cap] 24)) := (Ext.refl _).alloc _
  have hz1 : (w.alloc (.cells #[.string (str nm), .int .i64 d, .slice (some ⟨w.heap.size + 1, 0, none⟩) (s.length + 7) cap] 24)).heap.size = w.heap.size + 1 := by simp
  generalize w.alloc (.cells #[.string (str nm), .int .i64 d, .slice (some ⟨w.heap.size + 1, 0, none⟩) (s.length + 7) cap] 24) = W1 at *
  have hrd := fun fr => rd_bytes W1 ((⟨#[91, 83, 93, 10, 75, 61]⟩ : ByteArray) ++ str s ++ ⟨#[10]⟩) cap (by rw [hs2]; exact hcap) fr
  rw [hs2, hz1] at hrd
  have hbs : bytes ((⟨#[91, 83, 93, 10, 75, 61]⟩ : ByteArray) ++ str s ++ ⟨#[10]⟩) = ofB s := by rw [bytes_appD, bytes_appD, bytes_strD]; rfl
  rw [hbs] at hrd
  have hol : (ofB s).length = s.length + 7 := by unfold ofB; simp
  have hx2 : ∀ o : Obj, Ext W1 ((W1.alloc o).drew) := fun o => ((Ext.refl W1).alloc o).drew
  refine bodyPost_ret (v := .agg #[.string (str nm), .int .i64 d, .slice (some ⟨w.heap.size + 1, 0, none⟩) (s.length + 7) cap]) (results_cell_row Try.results30 _ _ _ _ _ _ _ rfl (blk_ext hb1 (hx2 _)) Try.underlying24 rfl (by kernel_rfl)) rfl ⟨some ⟨w.heap.size + 1, 0, none⟩, cap, ?_, ?_, hx1.trans (hx2 _)⟩
  · unfold fV
    rw [hol]
  · unfold Good PF.v
    rw [hol]
    exact Rd.ext ((Ext.refl _).drew) (hrd _)
/-- are these files more than are gone through? -/
def greatF (f : Fl) : Bool := decide (70000 < f.2.2.length) || decide (200 < f.1.length)
def sumB (fs : List Fl) : Nat := (fs.map fun f => f.2.2.length).sum
def greatD (m : Fl) (fs : List Fl) : Bool := greatF m || decide (20 < fs.length) || fs.any greatF || decide (100000 < m.2.2.length + sumB fs)
theorem greatD_false {m : Fl} {fs : List Fl} (h : greatD m fs = false) : m.2.2.length ≤ 70000 ∧ m.1.length ≤ 200 ∧ fs.length ≤ 20 ∧ (∀ f ∈ fs, f.2.2.length ≤ 70000 ∧ f.1.length ≤ 200) ∧ m.2.2.length + sumB fs ≤ 100000 := by
  unfold greatD at h
  simp only [Bool.or_eq_false_iff, decide_eq_false_iff_not, List.any_eq_false, Bool.not_eq_true] at h
  obtain ⟨⟨⟨h1, h2⟩, h3⟩, h4⟩ := h
  have key : ∀ f, greatF f = false → f.2.2.length ≤ 70000 ∧ f.1.length ≤ 200 := fun f hf => by
    unfold greatF at hf
    simp only [Bool.or_eq_false_iff, decide_eq_false_iff_not] at hf
    omega
  exact ⟨(key m h1).1, (key m h1).2, by omega, fun f hf => key f (by simpa using h3 f hf), by omega⟩
set_option maxRecDepth 100000 in
set_option maxHeartbeats 2000000 in
theorem Great13_calls (p : PF) (w : World) :
    Calls Try.prog 21 #[fV p] w fun e w' => e = .returned (.bool (greatF p.f)) ∧ Ext w w' := by
  have q0 : (w.alloc (.cells #[.string (str p.nm), .int .i64 p.dir, .slice p.a p.bs.length p.c] 24)).cell? ⟨w.heap.size, 0, none⟩ = some (.string (str p.nm)) := cells_new w [.string (str p.nm), .int .i64 p.dir, .slice p.a p.bs.length p.c] _ 0 _ rfl
  have q2 : (w.alloc (.cells #[.string (str p.nm), .int .i64 p.dir, .slice p.a p.bs.length p.c] 24)).cell? ⟨w.heap.size, 2, none⟩ = some (.slice p.a p.bs.length p.c) := cells_new w [.string (str p.nm), .int .i64 p.dir, .slice p.a p.bs.length p.c] _ 2 _ rfl
  have hx := (Ext.refl w).alloc (.cells #[.string (str p.nm), .int .i64 p.dir, .slice p.a p.bs.length p.c] 24)
  unfold fV greatF
  show Calls _ _ _ _ fun e w' => e = .returned (.bool (decide (70000 < p.bs.length) || decide (200 < p.nm.length))) ∧ Ext w w'
  have hsz := str_sizeD p.nm
  have e1 : decide ((70000 : Int) < (p.bs.length : Int)) = decide (70000 < p.bs.length) := by rw [Bool.eq_iff_iff, decide_eq_true_iff, decide_eq_true_iff]; omega
  have e2 : decide ((200 : Int) < (p.nm.length : Int)) = decide (200 < p.nm.length) := by rw [Bool.eq_iff_iff, decide_eq_true_iff, decide_eq_true_iff]; omega
  cases h1 : decide (70000 < p.bs.length) <;> cases h2 : decide (200 < p.nm.length)
  all_goals
    rw [h1] at e1
    rw [h2] at e2
    have Hhx := Lib.hid hx
    clear hx
    go_enter Try.func21, Try.ntmps21
    go_wp2_with fail
    go_ret
    exact ⟨rfl, Hhx.out⟩
theorem sumB_snoc {l : List Fl} {k : Nat} (h : k < l.length) : sumB (l.take (k + 1)) = sumB (l.take k) + l[k].2.2.length := by
  unfold sumB
  rw [List.take_add_one, List.getElem?_eq_getElem h, List.map_append, List.sum_append]
  simp
theorem sumB_bd : ∀ (l : List Fl), (∀ f ∈ l, greatF f = false) → sumB l ≤ 70000 * l.length
  | [], _ => by simp [sumB]
  | f :: l, h => by
    have h1 := sumB_bd l (fun g hg => h g (List.mem_cons_of_mem _ hg))
    have h2 := h f (by simp)
    unfold greatF at h2
    simp only [Bool.or_eq_false_iff, decide_eq_false_iff_not] at h2
    unfold sumB at *
    rw [List.map_cons, List.sum_cons, List.length_cons]
    omega
set_option maxRecDepth 100000 in
set_option maxHeartbeats 2000000 in
theorem Great14_calls (m : PF) (v : Value) (ps : List PF) (_hl : ps.length ≤ maxLen) (w : World) (hv : Rd w 3 encF v ps) :
    Calls Try.prog 8 #[fV m, v] w fun e w' => e = .returned (.bool (greatD m.f (ps.map PF.f))) ∧ Ext w w' := by
  have hG := Great13_calls
  obtain ⟨a, c, rfl, hac, hca⟩ := rdF_cell hv
  obtain ⟨r, hr⟩ : ∃ r, r = greatD m.f (ps.map PF.f) := ⟨_, rfl⟩
  rw [← hr]
  have hn1 := heap_alloc_new w (.cells #[.string (str m.nm), .int .i64 m.dir, .slice m.a m.bs.length m.c] 24)
  have hx1 : Ext w (w.alloc (.cells #[.string (str m.nm), .int .i64 m.dir, .slice m.a m.bs.length m.c] 24)) := (Ext.refl _).alloc _
  have HX1 := Lib.hid hx1
  have HN1 := Lib.hid hn1
  clear hx1 hv hn1
  have hGm := fun W => hG m W
  unfold fV at hG hGm ⊢
  have hll : (ps.map PF.f).length = ps.length := List.length_map _
  have hr2 : r = (greatF m.f || decide (20 < ps.length) || (ps.map PF.f).any greatF || decide (100000 < m.bs.length + sumB (ps.map PF.f))) := by rw [hr]; unfold greatD; rw [hll]; rfl
  clear hr
  cases hm : greatF m.f
  case true =>
    rw [hm] at hr2 hGm
    simp only [Bool.true_or] at hr2
    subst hr2
    have HhG := Lib.hid hG
    clear hG
    have HhGm := Lib.hid hGm
    clear hGm
    have Hhca := Lib.hid hca
    clear hca
    go_enter Try.func8, Try.ntmps8
    go_wp2_with fail
    refine (HhGm.out _).mono ?_
    rintro e w2 ⟨rfl, hx2⟩
    go_wp2_with fail
    go_ret
    exact ⟨rfl, HX1.out.trans hx2⟩
  rw [hm] at hr2 hGm
  by_cases h20 : 20 < ps.length
  · have e1 : decide ((20 : Int) < (ps.length : Int)) = true := decide_eq_true (by omega)
    rw [decide_eq_true h20] at hr2
    simp only [Bool.or_true, Bool.true_or] at hr2
    subst hr2
    have HhG := Lib.hid hG
    clear hG
    have HhGm := Lib.hid hGm
    clear hGm
    have Hhca := Lib.hid hca
    clear hca
    go_enter Try.func8, Try.ntmps8
    go_wp2_with fail
    refine (HhGm.out _).mono ?_
    rintro e w2 ⟨rfl, hx2⟩
    go_wp2_with fail
    go_ret
    exact ⟨rfl, HX1.out.trans hx2⟩
  have e1 : decide ((20 : Int) < (ps.length : Int)) = false := decide_eq_false (by omega)
  rw [decide_eq_false h20] at hr2
  simp only [Bool.false_or] at hr2
  have hmb : m.bs.length ≤ 70000 := by
    unfold greatF at hm
    simp only [Bool.or_eq_false_iff, decide_eq_false_iff_not] at hm
    have h1 : ¬ 70000 < m.bs.length := hm.1
    omega
  have HR2 := Lib.hid hr2
  have hbd := fun k => sumB_bd ((ps.map PF.f).take k)
  have hsn := fun k (h : k < (ps.map PF.f).length) => sumB_snoc h
  have hany := fun k (h : k < (ps.map PF.f).length) => List.take_add_one (l := ps.map PF.f) (i := k)
  clear hr2 hm
  have HhG := Lib.hid hG
  clear hG
  have HhGm := Lib.hid hGm
  clear hGm
  have Hhca := Lib.hid hca
  clear hca
  have Hhll := Lib.hid hll
  clear hll
  have Hhbd := Lib.hid hbd
  clear hbd
  have Hhsn := Lib.hid hsn
  clear hsn
  have Hhany := Lib.hid hany
  clear hany
  go_enter Try.func8, Try.ntmps8
  go_wp2_with fail
  refine (HhGm.out _).mono ?_
  rintro e w2 ⟨rfl, hx2⟩
  have HX2 := Lib.hid (HX1.out.trans hx2)
  have hb2 := blk_ext HN1.out hx2
  have m2 := blk_cell hb2 2
  simp at m2
  clear hx2 hb2
  go_wp2_with fail
  go_loopw [5, 6] (fun n i wr => ∃ k : Nat, k ≤ ps.length ∧ i = .int .i64 k ∧ n = .int .i64 ((m.bs.length + sumB ((ps.map PF.f).take k) : Nat) : Int) ∧ Ext w wr ∧ ∀ f ∈ (ps.map PF.f).take k, greatF f = false) (fun _ i _ => ps.length - (intOf i).toNat)
  case atStart => exact ⟨0, by omega, rfl, by simp [sumB], HX2.out, by simp⟩
  case round =>
    obtain ⟨k, hk, rfl, rfl, hx, hno⟩ := hrel
    have HX := Lib.hid hx
    have HNO := Lib.hid hno
    have hb := Hhbd.out k hno
    rw [List.length_take] at hb
    clear hx hno
    by_cases hlt : k < ps.length
    · obtain ⟨b, o, rfl, c0, c1, c2⟩ := Hhca.out k hlt
      replace c0 := HX.out.cell c0; replace c1 := HX.out.cell c1; replace c2 := HX.out.cell c2
      have hlt' : k < (ps.map PF.f).length := by rw [Hhll.out]; exact hlt
      have hs := Hhsn.out k hlt'
      rw [List.getElem_map] at hs
      have HS := Lib.hid hs
      have hmem : ps[k].f ∈ ps.map PF.f := List.mem_map.2 ⟨_, List.getElem_mem hlt, rfl⟩
      have hal : ∀ f ∈ (ps.map PF.f).take (k + 1), f ∈ (ps.map PF.f).take k ∨ f = ps[k].f := fun f hf => by
        rw [Hhany.out k hlt', List.getElem?_eq_getElem hlt', List.mem_append, List.getElem_map] at hf
        simpa using hf
      have HMEM := Lib.hid hmem
      have HAL := Lib.hid hal
      clear hs hmem hal
      have hGk := HhG.out ps[k]
      have HGK := Lib.hid hGk
      clear hGk
      generalize ps[k] = p at *
      generalize sumB ((ps.map PF.f).take k) = sk at *
      go_wp2_with fail
      refine (HGK.out _).mono ?_
      rintro e w3 ⟨rfl, hx3⟩
      replace c2 := hx3.cell c2
      have HX3 := Lib.hid (HX.out.trans hx3)
      clear hx3 c0 c1
      cases hgp : greatF p.f
      · have hpl : p.bs.length ≤ 70000 := by
          have h := hgp
          unfold greatF at h
          simp only [Bool.or_eq_false_iff, decide_eq_false_iff_not] at h
          have h1 : ¬ 70000 < p.bs.length := h.1
          omega
        have hsk : sk ≤ 70000 * 20 := by omega
        have HGP := Lib.hid hgp
        clear hgp
        go_wp2_with fail
        go_roundw
        case rel =>
          refine ⟨k + 1, by omega, by go_num, ?_, HX3.out, fun f hf => ?_⟩
          · rw [HS.out]; show Value.int .i64 _ = _; congr 1; show _ = ((m.bs.length + (sk + p.bs.length) : Nat) : Int); omega
          · rcases HAL.out f hf with h | rfl
            · exact HNO.out f h
            · exact HGP.out
        case measure => simp [intOf]; omega
      · have hr3 : r = true := by
          rw [HR2.out, List.any_eq_true.2 ⟨p.f, HMEM.out, hgp⟩, Bool.true_or]
        subst hr3
        clear hgp
        go_wp2_with fail
        go_ret
        exact ⟨rfl, HX3.out⟩
    · obtain rfl : k = ps.length := by omega
      have htk : (ps.map PF.f).take ps.length = ps.map PF.f := by rw [← Hhll.out, List.take_length]
      rw [htk] at HNO
      rw [htk]
      have hr3 : r = decide (100000 < m.bs.length + sumB (ps.map PF.f)) := by
        rw [HR2.out]
        have : (ps.map PF.f).any greatF = false := by
          rw [List.any_eq_false]
          intro f hf
          rw [HNO.out f hf]
          decide
        rw [this, Bool.false_or]
      have e9 : decide ((100000 : Int) < (m.bs.length : Int) + (sumB (ps.map PF.f) : Int)) = decide (100000 < m.bs.length + sumB (ps.map PF.f)) := by rw [Bool.eq_iff_iff, decide_eq_true_iff, decide_eq_true_iff]; omega
      rw [← hr3] at e9
      clear htk hr3
      generalize sumB (ps.map PF.f) = sk at *
      go_wp2_with fail
      go_ret
      exact ⟨rfl, HX.out⟩
end L12
end Go.Proofs.Ytkmbahpjioopdaa
