/- Layer 12, the reference: the walk of Lines. -/
import Derived.Test.YtkmbahpjioopdaaLineF
namespace Go.Proofs.Ytkmbahpjioopdaa
open Go.RowKit V
namespace L12
theorem run_slice_mid {P : Program} {t e : TypeId} {n : Nat} (ht : P.underlying t = some (.slice e)) (he : P.elem t = e) (hn : (P.info? e).map (·.size) = some n) (a : Option Addr) (len c l h : Nat) (h1 : l ≤ h) (h2 : h ≤ c) :
    ∃ A, (∀ (K1 : Int), K1 = (l : Int) → ∀ (K2 : Int), K2 = (h : Int) → ∀ W, (Instr.sliceAt t (.slice a len c) (some (.int .i64 K1)) (some (.int .i64 K2)) none).run P W = .ok (.slice A (h - l) (c - l)) W) ∧ (c ≠ l → A = a.map (·.add (l * n))) ∧ (A = none → a = none) := by
  obtain ⟨inf, hinf, hs⟩ : ∃ inf, P.info? e = some inf ∧ inf.size = n := by
    cases hh : P.info? e with
    | none => rw [hh] at hn; cases hn
    | some inf => rw [hh] at hn; exact ⟨inf, rfl, by simpa using hn⟩
  subst he
  refine ⟨if c = l then a else a.map (·.add (l * n)), fun K1 hK1 K2 hK2 W => ?_, fun h => by rw [if_neg h], fun h => ?_⟩
  · subst hK1; subst hK2
    rw [run_sliceAt_slice (h := ht), run_slice_lh (ht := ht) (h0 := by omega) (h1 := by omega) (h2 := by omega)]
    simp [sizeOf, typeInfo, hinf, hs, sliced]
  · split at h
    · exact h
    · cases a with
      | none => rfl
      | some a => simp at h
theorem sub_rd {w : World} {a : Option Addr} {c : Nat} {bs : List UInt8} (h : Rd w 1 encB (.slice a bs.length c) bs) {l r : Nat} (h1 : l ≤ r) (h2 : r ≤ bs.length) {A : Option Addr} (hA : c ≠ l → A = a.map (·.add (l * 1))) (hN : A = none → a = none) :
    Rd w 1 encB (.slice A (r - l) (c - l)) ((bs.drop l).take (r - l)) := by
  obtain ⟨a', c', e, hc, hn, -⟩ := id h
  simp only [Value.slice.injEq] at e
  obtain ⟨rfl, -, rfl⟩ := e
  have hd : Rd w 1 encB (.slice A (bs.length - l) (c - l)) (bs.drop l) := h.drop (by omega) (fun hl => hA (by omega)) (fun hh => by have := hn (hN hh); omega) (by omega)
  exact hd.take (by rw [List.length_drop]; omega) (by omega) (fun hh => by have := hn (hN hh); omega)
theorem hd1_at {c : UInt8} : ∀ {l : List UInt8} {k : Nat} (h : k < l.length), l[k] = c → (l.take k).contains c = false → hd1 c l = l.take k ∧ tl1 c l = l.drop (k + 1)
  | x :: r, 0, _, hk, _ => by
    have hx : ¬ (x != c) = true := by simp at hk; simp [hk]
    unfold hd1 tl1
    rw [List.takeWhile_cons_of_neg (p := (· != _)) hx, List.dropWhile_cons_of_neg (p := (· != _)) hx]
    exact ⟨rfl, rfl⟩
  | x :: r, k + 1, h, hk, hn => by
    rw [List.take_succ_cons, List.contains_cons, Bool.or_eq_false_iff] at hn
    have hx : (x != c) = true := by have := hn.1; simp at this; simp; exact fun e => this e.symm
    obtain ⟨h1, h2⟩ := hd1_at (l := r) (k := k) (by simpa using h) (by simpa using hk) hn.2
    unfold hd1 tl1 at *
    rw [List.takeWhile_cons_of_pos (p := (· != _)) hx, List.dropWhile_cons_of_pos (p := (· != _)) hx, h1, List.take_succ_cons]
    exact ⟨rfl, h2⟩
def encS1 (x : List UInt8) : List Value := [.string (str x)]
theorem encS1_len (x : List UInt8) : (encS1 x).length = 1 := rfl
theorem encS1_one (s : List UInt8) : ∀ u ∈ encS1 s, u.oneCell' = true := by intro u hu; simp [encS1] at hu; subst hu; rfl
theorem infoS1 : (Try.prog.info? 9).map (fun i => (i.zero, i.size, i.bytes)) = some (some (.string ⟨#[]⟩), 1, 16) := by kernel_rfl
theorem rdB_cell {w : World} {v : Value} {xs : List UInt8} (h : Rd w 1 encB v xs) : ∃ a c, v = .slice a xs.length c ∧ xs.length ≤ c ∧ ∀ i, (hi : i < xs.length) → ∃ b o, a = some ⟨b, o, none⟩ ∧ w.cell? ⟨b, o + i, none⟩ = some (.int .u8 ((xs[i]).toNat : Int)) := by
  obtain ⟨a, c, h1, h2, h3, h4⟩ := h
  refine ⟨a, c, h1, h2, fun i hi => ?_⟩
  obtain ⟨b, o, e, k⟩ := h4 i hi
  have := k 0 (by simp [encB])
  rw [Nat.mul_one, Nat.add_zero] at this
  exact ⟨b, o, e, this⟩
theorem no10_snoc {bs : List UInt8} {f i : Nat} (h1 : f ≤ i) (h2 : i < bs.length) (h : ((bs.drop f).take (i - f)).contains 10 = false) (hne : bs[i] ≠ 10) : ((bs.drop f).take (i + 1 - f)).contains 10 = false := by
  have hi : i - f < (bs.drop f).length := by rw [List.length_drop]; omega
  rw [show i + 1 - f = (i - f) + 1 by omega, List.take_succ_eq_append_getElem hi]
  have hg : (bs.drop f)[i - f] = bs[i] := by rw [List.getElem_drop]; congr 1; omega
  rw [hg, Bool.eq_false_iff]
  intro hc
  rw [List.contains_iff_mem, List.mem_append] at hc
  rcases hc with hc | hc
  · rw [Bool.eq_false_iff] at h; exact h (by rw [List.contains_iff_mem]; exact hc)
  · simp at hc; exact hne hc.symm
theorem lines_line {bs : List UInt8} {f i : Nat} (h1 : f ≤ i) (h2 : i < bs.length) (h : ((bs.drop f).take (i - f)).contains 10 = false) (he : bs[i] = 10) : linesL (bs.drop f) = (bs.drop f).take (i - f) :: linesL (bs.drop (i + 1)) := by
  have hi : i - f < (bs.drop f).length := by rw [List.length_drop]; omega
  have hg : (bs.drop f)[i - f] = 10 := by rw [List.getElem_drop, ← he]; congr 1; omega
  obtain ⟨e1, e2⟩ := hd1_at hi hg h
  have hne : bs.drop f ≠ [] := fun e => by rw [e] at hi; exact absurd hi (by simp)
  rw [linesL_cons hne, e1, e2, List.drop_drop, show f + (i - f + 1) = i + 1 by omega]
theorem lines_last {bs : List UInt8} {f : Nat} (h2 : f < bs.length) (h : ((bs.drop f).take (bs.length - f)).contains 10 = false) : linesL (bs.drop f) = [(bs.drop f).take (bs.length - f)] := by
  have hl : (bs.drop f).length = bs.length - f := by rw [List.length_drop]
  rw [← hl, List.take_length] at h ⊢
  have hne : bs.drop f ≠ [] := fun e => by rw [e] at hl; simp at hl; omega
  obtain ⟨e1, e2⟩ := hd1_all h
  rw [linesL_cons hne, e1, e2]; rfl
set_option maxRecDepth 100000 in
set_option maxHeartbeats 2000000 in
theorem rLines_calls (v : Value) (bs : List UInt8) (hl : bs.length ≤ 1000000) (w : World) (hv : Rd w 1 encB v bs) :
    Calls Try.prog 66 #[v] w fun e w' => ∃ u, e = .returned u ∧ Ext w w' ∧ w'.ownsRow w.heap.size 9 1 u (linesL bs).length ((linesL bs).flatMap encS1) := by
  have HV := Lib.hid hv
  obtain ⟨a, c, rfl, hac, hca⟩ := rdB_cell hv
  have hsz : (Try.prog.info? 5).map (·.size) = some 1 := by kernel_rfl
  have hmid := fun (l h : Nat) h1 h2 => run_slice_mid (P := Try.prog) Try.underlying22 (by kernel_rfl) hsz a bs.length c l h h1 h2
  have hfrom := fun (l : Nat) h1 => run_slice_from (P := Try.prog) Try.underlying22 (by kernel_rfl) hsz a bs.length c l h1
  clear hv hsz
  have Hhca := Lib.hid hca
  clear hca
  have Hhmid := Lib.hid hmid
  clear hmid
  have Hhfrom := Lib.hid hfrom
  clear hfrom
  go_enter Try.func66, Try.ntmps66
  go_wp2
  go_loopw [3, 4, 5] (fun u fv iv wr => ∃ (out : List (List UInt8)) (au : Option Addr) (cu f i : Nat), u = .slice au out.length cu ∧ fv = .int .i64 f ∧ iv = .int .i64 i ∧ f ≤ i ∧ i ≤ bs.length ∧ out.length ≤ f ∧ ((bs.drop f).take (i - f)).contains 10 = false ∧ linesL bs = out ++ linesL (bs.drop f) ∧ wr.ownsRow w.heap.size 9 1 (.slice au out.length cu) out.length (out.flatMap encS1) ∧ Ext w wr) (fun _ _ i _ => bs.length - (intOf i).toNat)
  case atStart => exact ⟨[], none, 0, 0, 0, rfl, rfl, rfl, by omega, by omega, by simp, by simp, by simp, World.ownsRow_nil _ _ _ _, Ext.refl _⟩
  case round =>
    obtain ⟨out, au, cu, f, i, rfl, rfl, rfl, hfi, hil, hof, hno, heq, ho, hx⟩ := hrel
    have HX := Lib.hid hx
    have HO := Lib.hid ho
    by_cases hlt : i < bs.length
    · obtain ⟨b, o, rfl, c1⟩ := Hhca.out i hlt
      replace c1 := hx.cell c1
      by_cases h10 : bs[i]'hlt = 10
      · have hln := lines_line hfi hlt hno h10
        obtain ⟨A, hsl, hsA, hsN⟩ := Hhmid.out f i hfi (by omega)
        have hrd := sub_rd (HV.out.ext hx) hfi (by omega) hsA hsN
        have hcv := conv_rd hrd
        have hgA := hsl (f : Int) rfl (i : Int) rfl
        have heq2 : linesL bs = (out ++ [(bs.drop f).take (i - f)]) ++ linesL (bs.drop (i + 1)) := by rw [heq, hln]; simp
        have h10' : (((bs[i]'hlt).toNat : Int) == 10) = true := by rw [h10]; rfl
        clear hx ho hsl hsA hsN hrd hln heq hno
        generalize (bs.drop f).take (i - f) = ln at *
        generalize (bs[i]'hlt) = x at *
        have Hheq2 := Lib.hid heq2
        clear heq2
        have Hh10 := Lib.hid h10
        clear h10
        go_wp2_with (at_builtin
                     refine wpList_app_rd rfl (.tmp 17) (.tmp 23) _ rfl Try.underlying107 infoS1 rfl (by decide) encS1_len encS1_one w _ _ out [ln] rfl rfl (World.ownsRow.alloc HO.out _) (rd_lit encS1_len wr [ln] _ _ rfl) (by simp; omega) (by decide) (HX.out.alloc _) ?_
                     intro au5 cu5 w5 ho5 hx5
                     have HO5 := Lib.hid ho5
                     have HX5 := Lib.hid hx5
                     clear ho5 hx5)
        go_roundw
        case rel => exact ⟨out ++ [ln], au5, cu5, i + 1, i + 1, by simp, by go_num, by go_num, by omega, by omega, by simp; omega, by simp, Hheq2.out, by simpa using HO5.out, HX5.out⟩
        case measure => simp [intOf]; omega
      · have hno2 := no10_snoc hfi hlt hno h10
        have h10' : (((bs[i]'hlt).toNat : Int) == 10) = false := by
          rw [beq_eq_false_iff_ne]
          intro e
          apply h10
          rw [← UInt8.toNat_inj]
          show (bs[i]'hlt).toNat = 10
          omega
        clear hx ho hno
        generalize (bs[i]'hlt) = x at *
        have Hheq := Lib.hid heq
        clear heq
        have Hh10 := Lib.hid h10
        clear h10
        have Hhno2 := Lib.hid hno2
        clear hno2
        go_wp2_with fail
        go_roundw
        case rel => exact ⟨out, au, cu, f, i + 1, rfl, rfl, by go_num, by omega, by omega, hof, Hhno2.out, Hheq.out, HO.out, HX.out⟩
        case measure => simp [intOf]; omega
    · obtain rfl : i = bs.length := by omega
      by_cases hfl : f < bs.length
      · have hln := lines_last hfl hno
        obtain ⟨b, o, rfl, -⟩ := Hhca.out f hfl
        obtain ⟨A, hsl, hsA, hsN⟩ := Hhfrom.out f hfi
        have hrd := sub_rd (HV.out.ext hx) hfi (Nat.le_refl _) hsA hsN
        have hcv := conv_rd hrd
        have hgA := hsl (f : Int) rfl
        rw [hln] at heq
        clear hx ho hsl hsA hsN hrd hln hno
        generalize (bs.drop f).take (bs.length - f) = ln at *
        have Hheq := Lib.hid heq
        clear heq
        go_wp2_with (at_builtin
                     refine wpList_app_rd rfl (.tmp 31) (.tmp 36) _ rfl Try.underlying107 infoS1 rfl (by decide) encS1_len encS1_one w _ _ out [ln] rfl rfl (World.ownsRow.alloc HO.out _) (rd_lit encS1_len wr [ln] _ _ rfl) (by simp; omega) (by decide) (HX.out.alloc _) ?_
                     intro au5 cu5 w5 ho5 hx5
                     have HO5 := Lib.hid ho5
                     have HX5 := Lib.hid hx5
                     clear ho5 hx5)
        go_ret
        exact ⟨_, rfl, HX5.out, by rw [Hheq.out]; simpa using HO5.out⟩
      · have hnil : bs.drop f = [] := List.drop_eq_nil_of_le (by omega)
        rw [hnil, linesL_nil, List.append_nil] at heq
        clear hx ho hno
        have Hheq := Lib.hid heq
        clear heq
        have Hhnil := Lib.hid hnil
        clear hnil
        go_wp2_with fail
        go_ret
        exact ⟨_, rfl, HX.out, by rw [Hheq.out]; exact HO.out⟩
end L12
end Go.Proofs.Ytkmbahpjioopdaa
