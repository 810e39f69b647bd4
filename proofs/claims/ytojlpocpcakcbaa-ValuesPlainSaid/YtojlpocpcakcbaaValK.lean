/- Layer 15: the walks of the reference's Words, Bool, Turned. -/
import Derived.Test.YtojlpocpcakcbaaValJ
namespace Go.Proofs.Ytojlpocpcakcbaa
open Go.RowKit Go.Shelf Go.Sort V
attribute [local go_sem] Oper.semAt_some
namespace L10
theorem infoSt : (Try.prog.info? 9).map (fun i => (i.zero, i.size, i.bytes)) = some (some (.string ⟨#[]⟩), 1, 16) := by kernel_rfl
theorem encS1_one (x : ByteArray) : ∀ u ∈ encS1 x, u.oneCell' = true := by intro u hu; simp [encS1] at hu; subst hu; rfl
theorem ext1 (s : ByteArray) (k : Nat) (h : k < s.size) : s.extract k (k + 1) = str [s[k]'h] := bytes_inj (by
  rw [bytes_ext, bytes_str, show k + 1 - k = 1 by omega, List.drop_eq_getElem_cons (by rw [bytes_len]; exact h)]; rfl)
/-- the words so far, and the one that has begun -/
def WSt (s : ByteArray) (k : Nat) (out : List ByteArray) (cw : List UInt8) : Prop := cw.length ≤ k ∧ out.length ≤ k ∧ (k ≤ s.size → (wdsL (bytes s) []).map str = out ++ (wdsL ((bytes s).drop k) cw).map str) ∧ (s.size < k → (wdsL (bytes s) []).map str = out)
theorem WSt.zero (s : ByteArray) : WSt s 0 [] [] := ⟨Nat.le_refl _, Nat.le_refl _, fun _ => rfl, fun h => by omega⟩
theorem drop_at {s : ByteArray} {k : Nat} (h : k < s.size) : (bytes s).drop k = (s[k]'h) :: (bytes s).drop (k + 1) := List.drop_eq_getElem_cons (by rw [bytes_len]; exact h)
theorem WSt.on {s : ByteArray} {k : Nat} {out : List ByteArray} {cw : List UInt8} (h : WSt s k out cw) (hk : k < s.size) (hb : blk (s[k]'hk) = false) : WSt s (k + 1) out (cw ++ [s[k]'hk]) := by
  obtain ⟨h1, h2, h3, h4⟩ := h
  refine ⟨by simp; omega, by omega, fun _ => ?_, fun h => by omega⟩
  rw [h3 (by omega), drop_at hk, wdsL, if_neg (by rw [hb]; decide)]
theorem WSt.stop {s : ByteArray} {k : Nat} {out : List ByteArray} {cw : List UInt8} (h : WSt s k out cw) (hk : (∃ h : k < s.size, blk (s[k]'h) = true) ∨ k = s.size) : WSt s (k + 1) (if cw = [] then out else out ++ [str cw]) [] := by
  obtain ⟨h1, h2, h3, h4⟩ := h
  refine ⟨by simp, by split <;> first | omega | (simp; omega), fun hle => ?_, fun hgt => ?_⟩
  · rcases hk with ⟨hk, hb⟩ | hk
    · rw [h3 (by omega), drop_at hk, wdsL, if_pos hb]
      split <;> simp
    · omega
  · rcases hk with ⟨hk, hb⟩ | rfl
    · omega
    · rw [h3 (by omega), List.drop_of_length_le (by rw [bytes_len]; exact Nat.le_refl _), wdsL]
      split <;> simp
set_option maxRecDepth 100000 in
set_option maxHeartbeats 4000000 in
theorem rWords_calls (s : ByteArray) (hs : s.size ≤ 1000000) (w : World) : Calls Try.prog 6 #[.string s] w fun e w' => ∃ v, e = .returned v ∧ Ext w w' ∧ w'.ownsRow w.heap.size 9 1 v ((wdsL (bytes s) []).map str).length (((wdsL (bytes s) []).map str).flatMap encS1) := by
  go_enter Try.func6, Try.ntmps6
  go_wp2_with fail
  go_loopw [3, 4, 5] (fun l t i wr => ∃ (k : Nat) (out : List ByteArray) (cw : List UInt8), k ≤ s.size + 1 ∧ i = .int .i64 k ∧ t = .string (str cw) ∧ Ext w wr ∧ wr.ownsRow w.heap.size 9 1 l out.length (out.flatMap encS1) ∧ WSt s k out cw) (fun _ _ i _ => s.size + 1 - (intOf i).toNat)
  case atStart => exact ⟨0, [], [], by omega, rfl, rfl, Ext.refl w, World.ownsRow_nil _ _ _ _, WSt.zero s⟩
  case round =>
    obtain ⟨k, out, cw, hk, rfl, rfl, hx, ho, hW⟩ := hrel
    have HX := Lib.hid hx
    have HO := Lib.hid ho
    obtain ⟨hcl, hol, -, hend⟩ := id hW
    have HW := Lib.hid hW
    clear hx ho hW
    by_cases hgt : s.size < k
    · have hL := hend hgt
      have HL := Lib.hid hL
      clear hL hend
      have g1 : decide (k ≤ s.size) = false := decide_eq_false (by omega)
      have g2 : decide ((k : Int) ≤ (s.size : Int)) = false := decide_eq_false (by omega)
      go_wp2_with fail
      go_ret
      exact ⟨_, rfl, HX.out, by rw [HL.out]; exact HO.out⟩
    clear hend
    have g1 : decide (k ≤ s.size) = true := decide_eq_true (by omega)
    have g2 : decide ((k : Int) ≤ (s.size : Int)) = true := decide_eq_true (by omega)
    by_cases hlt : k < s.size
    · have g3 : decide (k < s.size) = true := decide_eq_true (by omega)
      have g4 : decide ((k : Int) < (s.size : Int)) = true := decide_eq_true (by omega)
      have hix : (0 : Int) ≤ (k : Int) ∧ (k : Int) < (s.size : Int) := by omega
      cases hb : blk (s[k]'hlt)
      · have hon := HW.out.on hlt hb
        have hex := ext1 s k hlt
        unfold blk at hb
        rw [Bool.or_eq_false_iff, Bool.or_eq_false_iff, beq_eq_false_iff_ne, beq_eq_false_iff_ne, beq_eq_false_iff_ne] at hb
        obtain ⟨⟨n1, n2⟩, n3⟩ := hb
        have ne : ∀ c d : UInt8, c ≠ d → ((c.toNat : Int) == (d.toNat : Int)) = false := fun c d h => by
          rw [beq_eq_false_iff_ne]; intro e; exact h (UInt8.toNat_inj.1 (by omega))
        have m1 := ne _ _ n1
        have m2 := ne _ _ n2
        have m3 := ne _ _ n3
        have m1' : ((((s[k]'hlt).toNat : Int)) == 32) = false := m1
        have m2' : ((((s[k]'hlt).toNat : Int)) == 9) = false := m2
        have m3' : ((((s[k]'hlt).toNat : Int)) == 13) = false := m3
        have k1 : ((((s[k]'hlt).toNat : Int)) != 32) = true := by rw [bne, m1']; rfl
        have k2 : ((((s[k]'hlt).toNat : Int)) != 9) = true := by rw [bne, m2']; rfl
        have k3 : ((((s[k]'hlt).toNat : Int)) != 13) = true := by rw [bne, m3']; rfl
        clear n1 n2 n3 ne m1 m2 m3
        have hcat : str cw ++ str [s[k]'hlt] = str (cw ++ [s[k]'hlt]) := str_app _ _
        have hk1 : IntKind.i64.wrap ((k : Int) + 1) = (k : Int) + 1 := IntWalk.i64_in _ (by omega)
        have hz : (str cw).size ≤ 1000001 := by rw [str_size]; omega
        have hz1 : (str [s[k]'hlt]).size ≤ 1 := Nat.le_refl _
        have Hhon := Lib.hid hon
        clear hon
        have Hhcat := Lib.hid hcat
        clear hcat
        generalize str [s[k]'hlt] = cs at *
        go_wp2_with fail
        rw [Hhcat.out]
        go_roundw
        case rel => exact ⟨k + 1, out, _, by omega, by go_num, rfl, HX.out, HO.out, Hhon.out⟩
        case measure => simp [intOf]; omega
      · have hst0 := HW.out.stop (.inl ⟨hlt, hb⟩)
        have hor : s[k]'hlt = 32 ∨ s[k]'hlt = 9 ∨ s[k]'hlt = 13 := by
          unfold blk at hb
          simpa [or_assoc] using hb
        clear hst0
        rcases hor with hc | hc | hc
        · have hst := HW.out.stop (.inl ⟨hlt, hb⟩)
          have hcv : (s[k]'hlt).toNat = 32 := by rw [hc]; rfl
          have hemp := str_emp cw
          have m0' : ((((s[k]'hlt).toNat : Int)) == 32) = true := by rw [hcv]; rfl
          have k0 : ((((s[k]'hlt).toNat : Int)) != 32) = false := by rw [hcv]; rfl
          have m1' : ((((s[k]'hlt).toNat : Int)) == 9) = false := by rw [hcv]; rfl
          have k1 : ((((s[k]'hlt).toNat : Int)) != 9) = true := by rw [hcv]; rfl
          have m2' : ((((s[k]'hlt).toNat : Int)) == 13) = false := by rw [hcv]; rfl
          have k2 : ((((s[k]'hlt).toNat : Int)) != 13) = true := by rw [hcv]; rfl
          clear hcv hb hc
          by_cases hcw : cw = []
          · rw [if_pos hcw] at hst
            rw [decide_eq_true hcw] at hemp
            have Hhst := Lib.hid hst
            clear hst
            subst hcw
            generalize str [] = cs at *
            go_wp2_with fail
            go_roundw
            case rel => exact ⟨k + 1, out, [], by omega, by go_num, by rfl, HX.out, HO.out, Hhst.out⟩
            case measure => simp [intOf]; omega
          · rw [if_neg hcw] at hst
            rw [decide_eq_false hcw] at hemp
            clear hcw
            have Hhst := Lib.hid hst
            clear hst
            generalize str cw = cs at *
            go_wp2_with (at_builtin; refine wpList_app_rd rfl (.tmp 43) (.tmp 45) _ rfl Try.underlying22 infoSt rfl (by decide) encS1_len encS1_one w _ _ out [cs] rfl rfl (HO.out.alloc _) (rd_lit encS1_len wr [cs] _ _ rfl) (by first | omega | (simp; omega)) (by decide) (HX.out.alloc _) ?_; intro au3 cu3 w3 ho3 hx3; rw [show ([cs] : List ByteArray).length = 1 from rfl] at ho3 ⊢; have HO3 := Lib.hid ho3; have HX3 := Lib.hid hx3; clear ho3 hx3)
            go_roundw
            case rel => exact ⟨k + 1, out ++ [cs], [], by omega, by go_num, by rfl, HX3.out, by rw [List.length_append]; exact HO3.out, Hhst.out⟩
            case measure => simp [intOf]; omega
        · have hst := HW.out.stop (.inl ⟨hlt, hb⟩)
          have hcv : (s[k]'hlt).toNat = 9 := by rw [hc]; rfl
          have hemp := str_emp cw
          have m0' : ((((s[k]'hlt).toNat : Int)) == 32) = false := by rw [hcv]; rfl
          have k0 : ((((s[k]'hlt).toNat : Int)) != 32) = true := by rw [hcv]; rfl
          have m1' : ((((s[k]'hlt).toNat : Int)) == 9) = true := by rw [hcv]; rfl
          have k1 : ((((s[k]'hlt).toNat : Int)) != 9) = false := by rw [hcv]; rfl
          have m2' : ((((s[k]'hlt).toNat : Int)) == 13) = false := by rw [hcv]; rfl
          have k2 : ((((s[k]'hlt).toNat : Int)) != 13) = true := by rw [hcv]; rfl
          clear hcv hb hc
          by_cases hcw : cw = []
          · rw [if_pos hcw] at hst
            rw [decide_eq_true hcw] at hemp
            have Hhst := Lib.hid hst
            clear hst
            subst hcw
            generalize str [] = cs at *
            go_wp2_with fail
            go_roundw
            case rel => exact ⟨k + 1, out, [], by omega, by go_num, by rfl, HX.out, HO.out, Hhst.out⟩
            case measure => simp [intOf]; omega
          · rw [if_neg hcw] at hst
            rw [decide_eq_false hcw] at hemp
            clear hcw
            have Hhst := Lib.hid hst
            clear hst
            generalize str cw = cs at *
            go_wp2_with (at_builtin; refine wpList_app_rd rfl (.tmp 43) (.tmp 45) _ rfl Try.underlying22 infoSt rfl (by decide) encS1_len encS1_one w _ _ out [cs] rfl rfl (HO.out.alloc _) (rd_lit encS1_len wr [cs] _ _ rfl) (by first | omega | (simp; omega)) (by decide) (HX.out.alloc _) ?_; intro au3 cu3 w3 ho3 hx3; rw [show ([cs] : List ByteArray).length = 1 from rfl] at ho3 ⊢; have HO3 := Lib.hid ho3; have HX3 := Lib.hid hx3; clear ho3 hx3)
            go_roundw
            case rel => exact ⟨k + 1, out ++ [cs], [], by omega, by go_num, by rfl, HX3.out, by rw [List.length_append]; exact HO3.out, Hhst.out⟩
            case measure => simp [intOf]; omega
        · have hst := HW.out.stop (.inl ⟨hlt, hb⟩)
          have hcv : (s[k]'hlt).toNat = 13 := by rw [hc]; rfl
          have hemp := str_emp cw
          have m0' : ((((s[k]'hlt).toNat : Int)) == 32) = false := by rw [hcv]; rfl
          have k0 : ((((s[k]'hlt).toNat : Int)) != 32) = true := by rw [hcv]; rfl
          have m1' : ((((s[k]'hlt).toNat : Int)) == 9) = false := by rw [hcv]; rfl
          have k1 : ((((s[k]'hlt).toNat : Int)) != 9) = true := by rw [hcv]; rfl
          have m2' : ((((s[k]'hlt).toNat : Int)) == 13) = true := by rw [hcv]; rfl
          have k2 : ((((s[k]'hlt).toNat : Int)) != 13) = false := by rw [hcv]; rfl
          clear hcv hb hc
          by_cases hcw : cw = []
          · rw [if_pos hcw] at hst
            rw [decide_eq_true hcw] at hemp
            have Hhst := Lib.hid hst
            clear hst
            subst hcw
            generalize str [] = cs at *
            go_wp2_with fail
            go_roundw
            case rel => exact ⟨k + 1, out, [], by omega, by go_num, by rfl, HX.out, HO.out, Hhst.out⟩
            case measure => simp [intOf]; omega
          · rw [if_neg hcw] at hst
            rw [decide_eq_false hcw] at hemp
            clear hcw
            have Hhst := Lib.hid hst
            clear hst
            generalize str cw = cs at *
            go_wp2_with (at_builtin; refine wpList_app_rd rfl (.tmp 43) (.tmp 45) _ rfl Try.underlying22 infoSt rfl (by decide) encS1_len encS1_one w _ _ out [cs] rfl rfl (HO.out.alloc _) (rd_lit encS1_len wr [cs] _ _ rfl) (by first | omega | (simp; omega)) (by decide) (HX.out.alloc _) ?_; intro au3 cu3 w3 ho3 hx3; rw [show ([cs] : List ByteArray).length = 1 from rfl] at ho3 ⊢; have HO3 := Lib.hid ho3; have HX3 := Lib.hid hx3; clear ho3 hx3)
            go_roundw
            case rel => exact ⟨k + 1, out ++ [cs], [], by omega, by go_num, by rfl, HX3.out, by rw [List.length_append]; exact HO3.out, Hhst.out⟩
            case measure => simp [intOf]; omega
    · obtain rfl : k = s.size := by omega
      have g3 : decide (s.size < s.size) = false := decide_eq_false (by omega)
      have g4 : decide ((s.size : Int) < (s.size : Int)) = false := decide_eq_false (by omega)
      have hst := HW.out.stop (.inr rfl)
      have hemp := str_emp cw
      by_cases hcw : cw = []
      · rw [if_pos hcw] at hst
        rw [decide_eq_true hcw] at hemp
        have Hhst := Lib.hid hst
        clear hst
        subst hcw
        generalize str [] = cs at *
        go_wp2_with fail
        go_roundw
        case rel => exact ⟨s.size + 1, out, [], by omega, by first | (go_num; done) | rfl, by rfl, HX.out, HO.out, Hhst.out⟩
        case measure => first | (simp [intOf]; done) | (simp [intOf]; omega)
      · rw [if_neg hcw] at hst
        rw [decide_eq_false hcw] at hemp
        clear hcw
        have Hhst := Lib.hid hst
        clear hst
        generalize str cw = cs at *
        go_wp2_with (at_builtin; refine wpList_app_rd rfl (.tmp 43) (.tmp 45) _ rfl Try.underlying22 infoSt rfl (by decide) encS1_len encS1_one w _ _ out [cs] rfl rfl (HO.out.alloc _) (rd_lit encS1_len wr [cs] _ _ rfl) (by first | omega | (simp; omega)) (by decide) (HX.out.alloc _) ?_; intro au3 cu3 w3 ho3 hx3; rw [show ([cs] : List ByteArray).length = 1 from rfl] at ho3 ⊢; have HO3 := Lib.hid ho3; have HX3 := Lib.hid hx3; clear ho3 hx3)
        go_roundw
        case rel => exact ⟨s.size + 1, out ++ [cs], [], by omega, by first | (go_num; done) | rfl, by rfl, HX3.out, by rw [List.length_append]; exact HO3.out, Hhst.out⟩
        case measure => first | (simp [intOf]; done) | (simp [intOf]; omega)
set_option maxRecDepth 100000 in
set_option maxHeartbeats 4000000 in
theorem rBool_calls (s : ByteArray) (w : World) : Calls Try.prog 8 #[.string s] w fun e w' => e = .returned (.tuple #[.bool (boolL s).1, .int .i64 (boolL s).2]) ∧ Ext w w' := by
  have hin : ∀ c : ByteArray, (s.toList == c.toList) = decide (s = c) := fun c => by
    rw [str_beq, Bool.eq_iff_iff, beq_iff_eq, decide_eq_true_iff]
    exact ⟨bytes_inj, fun h => by rw [h]⟩
  by_cases h0 : s = ⟨#[121, 101, 115]⟩
  · have hb : boolL ⟨#[121, 101, 115]⟩ = (true, 0) := by decide +kernel
    subst h0
    rw [hb]
    clear hin hb
    go_enter Try.func8, Try.ntmps8
    go_wp2_with fail
    go_ret2
    exact ⟨rfl, Ext.refl _⟩
  by_cases h1 : s = ⟨#[116, 114, 117, 101]⟩
  · have hb : boolL ⟨#[116, 114, 117, 101]⟩ = (true, 0) := by decide +kernel
    subst h1
    rw [hb]
    clear hin hb h0
    go_enter Try.func8, Try.ntmps8
    go_wp2_with fail
    go_ret2
    exact ⟨rfl, Ext.refl _⟩
  by_cases h2 : s = ⟨#[111, 110]⟩
  · have hb : boolL ⟨#[111, 110]⟩ = (true, 0) := by decide +kernel
    subst h2
    rw [hb]
    clear hin hb h0 h1
    go_enter Try.func8, Try.ntmps8
    go_wp2_with fail
    go_ret2
    exact ⟨rfl, Ext.refl _⟩
  by_cases h3 : s = ⟨#[49]⟩
  · have hb : boolL ⟨#[49]⟩ = (true, 0) := by decide +kernel
    subst h3
    rw [hb]
    clear hin hb h0 h1 h2
    go_enter Try.func8, Try.ntmps8
    go_wp2_with fail
    go_ret2
    exact ⟨rfl, Ext.refl _⟩
  by_cases h4 : s = ⟨#[110, 111]⟩
  · have hb : boolL ⟨#[110, 111]⟩ = (false, 0) := by decide +kernel
    subst h4
    rw [hb]
    clear hin hb h0 h1 h2 h3
    go_enter Try.func8, Try.ntmps8
    go_wp2_with fail
    go_ret2
    exact ⟨rfl, Ext.refl _⟩
  by_cases h5 : s = ⟨#[102, 97, 108, 115, 101]⟩
  · have hb : boolL ⟨#[102, 97, 108, 115, 101]⟩ = (false, 0) := by decide +kernel
    subst h5
    rw [hb]
    clear hin hb h0 h1 h2 h3 h4
    go_enter Try.func8, Try.ntmps8
    go_wp2_with fail
    go_ret2
    exact ⟨rfl, Ext.refl _⟩
  by_cases h6 : s = ⟨#[111, 102, 102]⟩
  · have hb : boolL ⟨#[111, 102, 102]⟩ = (false, 0) := by decide +kernel
    subst h6
    rw [hb]
    clear hin hb h0 h1 h2 h3 h4 h5
    go_enter Try.func8, Try.ntmps8
    go_wp2_with fail
    go_ret2
    exact ⟨rfl, Ext.refl _⟩
  by_cases h7 : s = ⟨#[48]⟩
  · have hb : boolL ⟨#[48]⟩ = (false, 0) := by decide +kernel
    subst h7
    rw [hb]
    clear hin hb h0 h1 h2 h3 h4 h5 h6
    go_enter Try.func8, Try.ntmps8
    go_wp2_with fail
    go_ret2
    exact ⟨rfl, Ext.refl _⟩
  have hb : boolL s = (false, 150) := by
    unfold boolL
    rw [if_neg, if_neg]
    · rw [Lib.containsS_iff]; simp [yesS]; exact ⟨h0, h1, h2, h3⟩
    · rw [Lib.containsS_iff]; simp [noS]; exact ⟨h4, h5, h6, h7⟩
  rw [hb]
  have e0 := hin ⟨#[121, 101, 115]⟩
  rw [decide_eq_false h0] at e0
  have f0 : (s.toList == [121, 101, 115]) = false := by
    rw [show ([121, 101, 115] : List UInt8) = (⟨#[121, 101, 115]⟩ : ByteArray).toList from by rw [Lib.toList_data]]; exact e0
  have e1 := hin ⟨#[116, 114, 117, 101]⟩
  rw [decide_eq_false h1] at e1
  have f1 : (s.toList == [116, 114, 117, 101]) = false := by
    rw [show ([116, 114, 117, 101] : List UInt8) = (⟨#[116, 114, 117, 101]⟩ : ByteArray).toList from by rw [Lib.toList_data]]; exact e1
  have e2 := hin ⟨#[111, 110]⟩
  rw [decide_eq_false h2] at e2
  have f2 : (s.toList == [111, 110]) = false := by
    rw [show ([111, 110] : List UInt8) = (⟨#[111, 110]⟩ : ByteArray).toList from by rw [Lib.toList_data]]; exact e2
  have e3 := hin ⟨#[49]⟩
  rw [decide_eq_false h3] at e3
  have f3 : (s.toList == [49]) = false := by
    rw [show ([49] : List UInt8) = (⟨#[49]⟩ : ByteArray).toList from by rw [Lib.toList_data]]; exact e3
  have e4 := hin ⟨#[110, 111]⟩
  rw [decide_eq_false h4] at e4
  have f4 : (s.toList == [110, 111]) = false := by
    rw [show ([110, 111] : List UInt8) = (⟨#[110, 111]⟩ : ByteArray).toList from by rw [Lib.toList_data]]; exact e4
  have e5 := hin ⟨#[102, 97, 108, 115, 101]⟩
  rw [decide_eq_false h5] at e5
  have f5 : (s.toList == [102, 97, 108, 115, 101]) = false := by
    rw [show ([102, 97, 108, 115, 101] : List UInt8) = (⟨#[102, 97, 108, 115, 101]⟩ : ByteArray).toList from by rw [Lib.toList_data]]; exact e5
  have e6 := hin ⟨#[111, 102, 102]⟩
  rw [decide_eq_false h6] at e6
  have f6 : (s.toList == [111, 102, 102]) = false := by
    rw [show ([111, 102, 102] : List UInt8) = (⟨#[111, 102, 102]⟩ : ByteArray).toList from by rw [Lib.toList_data]]; exact e6
  have e7 := hin ⟨#[48]⟩
  rw [decide_eq_false h7] at e7
  have f7 : (s.toList == [48]) = false := by
    rw [show ([48] : List UInt8) = (⟨#[48]⟩ : ByteArray).toList from by rw [Lib.toList_data]]; exact e7
  clear hin hb h0 e0 h1 e1 h2 e2 h3 e3 h4 e4 h5 e5 h6 e6 h7 e7
  go_enter Try.func8, Try.ntmps8
  go_wp2_with fail
  go_ret2
  exact ⟨rfl, Ext.refl _⟩
theorem rTurned_calls (s : ByteArray) (hs : s.size ≤ 1000000) (w : World) : Calls Try.prog 10 #[.string s] w fun e w' => e = .returned (.tuple #[.string (str (Lib.trimPrefix (bytes s) [126])), .bool (Lib.hasPrefix (bytes s) [126])]) ∧ Ext w w' := by
  by_cases h0 : 0 < s.size
  · have hd : bytes s = (s[0]'h0) :: (bytes s).drop 1 := by
      have := drop_at h0
      simpa using this
    have hp : Lib.hasPrefix (bytes s) [126] = ((s[0]'h0) == 126) := by
      rw [hd]; unfold Lib.hasPrefix
      show ((126 : UInt8) == s[0]'h0 && true) = _
      rw [Bool.and_true, Bool.eq_iff_iff, beq_iff_eq, beq_iff_eq]; exact eq_comm
    have g1 : decide (0 < s.size) = true := decide_eq_true h0
    have g2 : decide ((0 : Int) < (s.size : Int)) = true := decide_eq_true (by omega)
    have hix : (0 : Int) < (s.size : Int) := by omega
    have h1 : 1 ≤ s.size := h0
    by_cases hc : s[0]'h0 = 126
    · have hpt : Lib.hasPrefix (bytes s) [126] = true := by rw [hp, hc]; rfl
      have ht : str (Lib.trimPrefix (bytes s) [126]) = s.extract 1 s.size := bytes_inj (by
        rw [bytes_str, bytes_ext]
        unfold Lib.trimPrefix
        rw [if_pos hpt, List.take_of_length_le (by rw [List.length_drop, bytes_len]; exact Nat.le_refl _)]
        rfl)
      rw [ht, hpt]
      have hcv : (s[0]'h0).toNat = 126 := by rw [hc]; rfl
      have m : ((((s[0]'h0).toNat : Int)) == 126) = true := by rw [hcv]; rfl
      clear hd hp hpt ht hc hcv
      go_enter Try.func10, Try.ntmps10
      go_wp2_with fail
      go_ret2
      exact ⟨rfl, Ext.refl _⟩
    · have hpf : Lib.hasPrefix (bytes s) [126] = false := by rw [hp]; simpa using hc
      have ht : str (Lib.trimPrefix (bytes s) [126]) = s := by
        unfold Lib.trimPrefix
        rw [if_neg (by rw [hpf]; decide), str_bytes]
      rw [ht, hpf]
      have m : ((((s[0]'h0).toNat : Int)) == 126) = false := by
        rw [beq_eq_false_iff_ne]; intro e; exact hc (UInt8.toNat_inj.1 (by show (s[0]'h0).toNat = 126; omega))
      clear hd hp hpf ht hc
      go_enter Try.func10, Try.ntmps10
      go_wp2_with fail
      go_ret2
      exact ⟨rfl, Ext.refl _⟩
  · have hs0 : s = ByteArray.empty := ByteArray.ext (Array.eq_empty_of_size_eq_zero (by show s.size = 0; omega))
    subst hs0
    have h1 : Lib.hasPrefix (bytes ByteArray.empty) [126] = false := by decide +kernel
    have ht : str (Lib.trimPrefix (bytes ByteArray.empty) [126]) = ByteArray.empty := by
      unfold Lib.trimPrefix
      rw [if_neg (by rw [h1]; decide), str_bytes]
    rw [ht, h1]
    clear h1 ht
    go_enter Try.func10, Try.ntmps10
    go_wp2_with fail
    go_ret2
    exact ⟨rfl, Ext.refl _⟩
end L10
end Go.Proofs.Ytojlpocpcakcbaa
