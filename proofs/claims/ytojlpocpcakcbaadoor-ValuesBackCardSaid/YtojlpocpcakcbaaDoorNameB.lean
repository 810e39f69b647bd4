/- Layer 10: the walks of find, of, and of the reference's Find and Name. (Printed by wip/tools/mknameb.py.) -/
import Derived.Lib.Strings
import Derived.Test.YtojlpocpcakcbaaDoorNameA
namespace Go.Proofs.YtojlpocpcakcbaaDoor
open Go.RowKit V
attribute [local go_sem] Oper.semAt_some
namespace L10
theorem str_beq (t s : ByteArray) : (t.toList == s.toList) = (bytes t == bytes s) := by rw [Lib.toList_data, Lib.toList_data]; rfl
theorem find_at {α : Type} {p : α → Bool} : ∀ {l : List α} {i : Nat} (h : i < l.length), (∀ (j : Nat) (hj : j < l.length), j < i → p l[j] = false) → p l[i] = true → l.find? p = some l[i]
  | x :: r, 0, _, _, hp => by
    simp at hp
    simp [List.find?, hp]
  | x :: r, i + 1, h, hn, hp => by
    have h0 : p x = false := hn 0 (by simp) (by omega)
    have := find_at (p := p) (l := r) (i := i) (Nat.lt_of_succ_lt_succ h) (fun j hj hji => hn (j + 1) (Nat.succ_lt_succ hj) (by omega)) hp
    simp [List.find?, h0, this]
theorem find_no {α : Type} {p : α → Bool} {l : List α} (h : ∀ (j : Nat) (hj : j < l.length), p l[j] = false) : l.find? p = none := by
  rw [List.find?_eq_none]
  intro x hx
  obtain ⟨j, hj, rfl⟩ := List.getElem_of_mem hx
  rw [h j hj]; simp
def findL (l : List Nm) (s : List UInt8) (no : Int) : Nat × Int := match l.find? (fun x => x.1 == s) with
  | some x => (x.2, 0)
  | none => (0, no)
def ofL (l : List Nm) (n : Nat) : List UInt8 := match l.find? (fun x => x.2 == n) with
  | some x => x.1
  | none => []
theorem rdW_cell {w : World} {v : Value} {xs : List Nm} (h : Rd w 2 encW v xs) : ∃ a c, v = .slice a xs.length c ∧ xs.length ≤ c ∧ ∀ i, (hi : i < xs.length) → ∃ b o, a = some ⟨b, o, none⟩ ∧ w.cell? ⟨b, o + i * 2, none⟩ = some (.string (str (xs[i]).1)) ∧ w.cell? ⟨b, o + i * 2 + 1, none⟩ = some (.int .u32 ((xs[i]).2 : Int)) := by
  obtain ⟨a, c, h1, h2, h3, h4⟩ := h
  refine ⟨a, c, h1, h2, fun i hi => ?_⟩
  obtain ⟨b, o, e, k⟩ := h4 i hi
  have k0 := k 0 (by simp [encW])
  have k1 := k 1 (by simp [encW])
  exact ⟨b, o, e, by simpa [encW] using k0, by simpa [encW] using k1⟩
theorem rdQ_cell {w : World} {v : Value} {xs : List Nm} (h : Rd w 2 encQ v xs) : ∃ a c, v = .slice a xs.length c ∧ xs.length ≤ c ∧ ∀ i, (hi : i < xs.length) → ∃ b o, a = some ⟨b, o, none⟩ ∧ w.cell? ⟨b, o + i * 2, none⟩ = some (.string (str (xs[i]).1)) ∧ w.cell? ⟨b, o + i * 2 + 1, none⟩ = some (.int .u64 ((xs[i]).2 : Int)) := by
  obtain ⟨a, c, h1, h2, h3, h4⟩ := h
  refine ⟨a, c, h1, h2, fun i hi => ?_⟩
  obtain ⟨b, o, e, k⟩ := h4 i hi
  have k0 := k 0 (by simp [encQ])
  have k1 := k 1 (by simp [encQ])
  exact ⟨b, o, e, by simpa [encQ] using k0, by simpa [encQ] using k1⟩
set_option maxRecDepth 100000 in
set_option maxHeartbeats 2000000 in
theorem find32_calls (l : List Nm) (v : Value) (s : ByteArray) (no : Int) (w : World) (hv : Rd w 2 encW v l) (hl : l.length ≤ 1000) :
    Calls Tryd.prog 33 #[v, .string s, .int .i64 no] w fun e w' => e = .returned (.tuple #[.int .u32 ((findL l (bytes s) no).1 : Int), .int .i64 (findL l (bytes s) no).2]) ∧ Ext w w' := by
  obtain ⟨a, c, rfl, hac, hc⟩ := rdW_cell hv
  obtain ⟨R, hR⟩ : ∃ R, R = findL l (bytes s) no := ⟨_, rfl⟩
  rw [← hR]
  clear hv
  have HhR := Lib.hid hR
  clear hR
  have Hhc := Lib.hid hc
  clear hc
  go_enter Tryd.func33, Tryd.ntmps33
  go_wp2_with fail
  go_loopw [13] (fun u wr => ∃ i : Nat, i ≤ l.length ∧ u = .int .i64 (i : Int) ∧ (∀ (j : Nat) (hj : j < l.length), j < i → (l[j].1 == bytes s) = false) ∧ Ext w wr) (fun u _ => l.length - (intOf u).toNat)
  case atStart => exact ⟨0, Nat.zero_le _, rfl, fun j _ h => by omega, Ext.refl _⟩
  case round =>
    obtain ⟨i, hi, rfl, hall, hx⟩ := hrel
    have Hhall := Lib.hid hall
    clear hall
    have HX := Lib.hid hx
    by_cases hlt : i < l.length
    · obtain ⟨b, o, rfl, d0, d1⟩ := Hhc.out i hlt
      replace d0 := hx.cell d0
      replace d1 := hx.cell d1
      have hz : (i : Int) < (l.length : Int) := by omega
      have hwi : IntKind.i64.wrap ((i : Int) + 1) = (i : Int) + 1 := IntWalk.i64_in _ (by omega)
      have hat : (l[i].1 == bytes s) = true → R = (l[i].2, 0) := fun h => by
        rw [HhR.out]
        unfold findL
        rw [find_at (p := fun x => x.1 == bytes s) hlt Hhall.out h]
      have hnext : (l[i].1 == bytes s) = false → ∀ (j : Nat) (hj : j < l.length), j < i + 1 → (l[j].1 == bytes s) = false := fun hbf j hj h => by
        by_cases hji : j = i
        · subst hji; exact hbf
        · exact Hhall.out j hj (by omega)
      have hsb := str_beq (str l[i].1) s
      rw [bytes_str] at hsb
      clear hx
      generalize hxi : l[i] = x at *
      obtain ⟨t, n⟩ := x
      dsimp only at d0 d1 hsb hnext hat
      cases hb : t == bytes s
      · rw [hb] at hsb hnext
        clear hb hxi hat
        generalize str t = st at *
        go_wp2_with fail
        go_roundw
        case rel => exact ⟨i + 1, by omega, by go_num, hnext rfl, by repeat (first | exact HX.out | apply Ext.alloc)⟩
        case measure => simp [intOf]; omega
      · rw [hb] at hsb hat
        have hf := hat rfl
        have Hhf := Lib.hid hf
        clear hf
        clear hb hxi hnext hat
        generalize str t = st at *
        go_wp2_with fail
        go_ret2
        exact ⟨by rw [Hhf.out]; rfl, by repeat (first | exact HX.out | apply Ext.alloc)⟩
    · obtain rfl : i = l.length := by omega
      have hz : ¬ ((l.length : Int) < (l.length : Int)) := by omega
      have hf : R = (0, no) := by
        rw [HhR.out]
        unfold findL
        rw [find_no (p := fun x => x.1 == bytes s) (fun j hj => Hhall.out j hj hj)]
      have Hhf := Lib.hid hf
      clear hf
      clear hx
      go_wp2_with fail
      go_ret2
      exact ⟨by rw [Hhf.out]; rfl, HX.out⟩
set_option maxRecDepth 100000 in
set_option maxHeartbeats 2000000 in
theorem find64_calls (l : List Nm) (v : Value) (s : ByteArray) (no : Int) (w : World) (hv : Rd w 2 encQ v l) (hl : l.length ≤ 1000) :
    Calls Tryd.prog 36 #[v, .string s, .int .i64 no] w fun e w' => e = .returned (.tuple #[.int .u64 ((findL l (bytes s) no).1 : Int), .int .i64 (findL l (bytes s) no).2]) ∧ Ext w w' := by
  obtain ⟨a, c, rfl, hac, hc⟩ := rdQ_cell hv
  obtain ⟨R, hR⟩ : ∃ R, R = findL l (bytes s) no := ⟨_, rfl⟩
  rw [← hR]
  clear hv
  have HhR := Lib.hid hR
  clear hR
  have Hhc := Lib.hid hc
  clear hc
  go_enter Tryd.func36, Tryd.ntmps36
  go_wp2_with fail
  go_loopw [13] (fun u wr => ∃ i : Nat, i ≤ l.length ∧ u = .int .i64 (i : Int) ∧ (∀ (j : Nat) (hj : j < l.length), j < i → (l[j].1 == bytes s) = false) ∧ Ext w wr) (fun u _ => l.length - (intOf u).toNat)
  case atStart => exact ⟨0, Nat.zero_le _, rfl, fun j _ h => by omega, Ext.refl _⟩
  case round =>
    obtain ⟨i, hi, rfl, hall, hx⟩ := hrel
    have Hhall := Lib.hid hall
    clear hall
    have HX := Lib.hid hx
    by_cases hlt : i < l.length
    · obtain ⟨b, o, rfl, d0, d1⟩ := Hhc.out i hlt
      replace d0 := hx.cell d0
      replace d1 := hx.cell d1
      have hz : (i : Int) < (l.length : Int) := by omega
      have hwi : IntKind.i64.wrap ((i : Int) + 1) = (i : Int) + 1 := IntWalk.i64_in _ (by omega)
      have hat : (l[i].1 == bytes s) = true → R = (l[i].2, 0) := fun h => by
        rw [HhR.out]
        unfold findL
        rw [find_at (p := fun x => x.1 == bytes s) hlt Hhall.out h]
      have hnext : (l[i].1 == bytes s) = false → ∀ (j : Nat) (hj : j < l.length), j < i + 1 → (l[j].1 == bytes s) = false := fun hbf j hj h => by
        by_cases hji : j = i
        · subst hji; exact hbf
        · exact Hhall.out j hj (by omega)
      have hsb := str_beq (str l[i].1) s
      rw [bytes_str] at hsb
      clear hx
      generalize hxi : l[i] = x at *
      obtain ⟨t, n⟩ := x
      dsimp only at d0 d1 hsb hnext hat
      cases hb : t == bytes s
      · rw [hb] at hsb hnext
        clear hb hxi hat
        generalize str t = st at *
        go_wp2_with fail
        go_roundw
        case rel => exact ⟨i + 1, by omega, by go_num, hnext rfl, by repeat (first | exact HX.out | apply Ext.alloc)⟩
        case measure => simp [intOf]; omega
      · rw [hb] at hsb hat
        have hf := hat rfl
        have Hhf := Lib.hid hf
        clear hf
        clear hb hxi hnext hat
        generalize str t = st at *
        go_wp2_with fail
        go_ret2
        exact ⟨by rw [Hhf.out]; rfl, by repeat (first | exact HX.out | apply Ext.alloc)⟩
    · obtain rfl : i = l.length := by omega
      have hz : ¬ ((l.length : Int) < (l.length : Int)) := by omega
      have hf : R = (0, no) := by
        rw [HhR.out]
        unfold findL
        rw [find_no (p := fun x => x.1 == bytes s) (fun j hj => Hhall.out j hj hj)]
      have Hhf := Lib.hid hf
      clear hf
      clear hx
      go_wp2_with fail
      go_ret2
      exact ⟨by rw [Hhf.out]; rfl, HX.out⟩
set_option maxRecDepth 100000 in
set_option maxHeartbeats 2000000 in
theorem rFind_calls (l : List Nm) (v : Value) (s : ByteArray) (no : Int) (w : World) (hv : Rd w 2 encQ v l) (hl : l.length ≤ 1000) :
    Calls Tryd.prog 13 #[v, .string s, .int .i64 no] w fun e w' => e = .returned (.tuple #[.int .u64 ((findL l (bytes s) no).1 : Int), .int .i64 (findL l (bytes s) no).2]) ∧ Ext w w' := by
  obtain ⟨a, c, rfl, hac, hc⟩ := rdQ_cell hv
  obtain ⟨R, hR⟩ : ∃ R, R = findL l (bytes s) no := ⟨_, rfl⟩
  rw [← hR]
  clear hv
  have HhR := Lib.hid hR
  clear hR
  have Hhc := Lib.hid hc
  clear hc
  go_enter Tryd.func13, Tryd.ntmps13
  go_wp2_with fail
  go_loopw [8] (fun u wr => ∃ i : Nat, i ≤ l.length ∧ u = .int .i64 (i : Int) ∧ (∀ (j : Nat) (hj : j < l.length), j < i → (l[j].1 == bytes s) = false) ∧ Ext w wr) (fun u _ => l.length - (intOf u).toNat)
  case atStart => exact ⟨0, Nat.zero_le _, rfl, fun j _ h => by omega, Ext.refl _⟩
  case round =>
    obtain ⟨i, hi, rfl, hall, hx⟩ := hrel
    have Hhall := Lib.hid hall
    clear hall
    have HX := Lib.hid hx
    by_cases hlt : i < l.length
    · obtain ⟨b, o, rfl, d0, d1⟩ := Hhc.out i hlt
      replace d0 := hx.cell d0
      replace d1 := hx.cell d1
      have hz : (i : Int) < (l.length : Int) := by omega
      have hwi : IntKind.i64.wrap ((i : Int) + 1) = (i : Int) + 1 := IntWalk.i64_in _ (by omega)
      have hat : (l[i].1 == bytes s) = true → R = (l[i].2, 0) := fun h => by
        rw [HhR.out]
        unfold findL
        rw [find_at (p := fun x => x.1 == bytes s) hlt Hhall.out h]
      have hnext : (l[i].1 == bytes s) = false → ∀ (j : Nat) (hj : j < l.length), j < i + 1 → (l[j].1 == bytes s) = false := fun hbf j hj h => by
        by_cases hji : j = i
        · subst hji; exact hbf
        · exact Hhall.out j hj (by omega)
      have hsb := str_beq (str l[i].1) s
      rw [bytes_str] at hsb
      clear hx
      generalize hxi : l[i] = x at *
      obtain ⟨t, n⟩ := x
      dsimp only at d0 d1 hsb hnext hat
      cases hb : t == bytes s
      · rw [hb] at hsb hnext
        clear hb hxi hat
        generalize str t = st at *
        go_wp2_with fail
        go_roundw
        case rel => exact ⟨i + 1, by omega, by go_num, hnext rfl, by repeat (first | exact HX.out | apply Ext.alloc)⟩
        case measure => simp [intOf]; omega
      · rw [hb] at hsb hat
        have hf := hat rfl
        have Hhf := Lib.hid hf
        clear hf
        clear hb hxi hnext hat
        generalize str t = st at *
        go_wp2_with fail
        go_ret2
        exact ⟨by rw [Hhf.out]; rfl, by repeat (first | exact HX.out | apply Ext.alloc)⟩
    · obtain rfl : i = l.length := by omega
      have hz : ¬ ((l.length : Int) < (l.length : Int)) := by omega
      have hf : R = (0, no) := by
        rw [HhR.out]
        unfold findL
        rw [find_no (p := fun x => x.1 == bytes s) (fun j hj => Hhall.out j hj hj)]
      have Hhf := Lib.hid hf
      clear hf
      clear hx
      go_wp2_with fail
      go_ret2
      exact ⟨by rw [Hhf.out]; rfl, HX.out⟩
set_option maxRecDepth 100000 in
set_option maxHeartbeats 2000000 in
theorem of32_calls (l : List Nm) (v : Value) (n : Nat) (w : World) (hv : Rd w 2 encW v l) (hl : l.length ≤ 1000) :
    Calls Tryd.prog 38 #[v, .int .u32 (n : Int)] w fun e w' => e = .returned (.string (str (ofL l n))) ∧ Ext w w' := by
  obtain ⟨a, c, rfl, hac, hc⟩ := rdW_cell hv
  obtain ⟨R, hR⟩ : ∃ R, R = ofL l n := ⟨_, rfl⟩
  rw [← hR]
  clear hv
  have HhR := Lib.hid hR
  clear hR
  have Hhc := Lib.hid hc
  clear hc
  go_enter Tryd.func38, Tryd.ntmps38
  go_wp2_with fail
  go_loopw [9] (fun u wr => ∃ i : Nat, i ≤ l.length ∧ u = .int .i64 (i : Int) ∧ (∀ (j : Nat) (hj : j < l.length), j < i → (l[j].2 == n) = false) ∧ Ext w wr) (fun u _ => l.length - (intOf u).toNat)
  case atStart => exact ⟨0, Nat.zero_le _, rfl, fun j _ h => by omega, Ext.refl _⟩
  case round =>
    obtain ⟨i, hi, rfl, hall, hx⟩ := hrel
    have Hhall := Lib.hid hall
    clear hall
    have HX := Lib.hid hx
    by_cases hlt : i < l.length
    · obtain ⟨b, o, rfl, d0, d1⟩ := Hhc.out i hlt
      replace d0 := hx.cell d0
      replace d1 := hx.cell d1
      have hz : (i : Int) < (l.length : Int) := by omega
      have hwi : IntKind.i64.wrap ((i : Int) + 1) = (i : Int) + 1 := IntWalk.i64_in _ (by omega)
      have hat : (l[i].2 == n) = true → R = l[i].1 := fun h => by
        rw [HhR.out]
        unfold ofL
        rw [find_at (p := fun x => x.2 == n) hlt Hhall.out h]
      have hnext : (l[i].2 == n) = false → ∀ (j : Nat) (hj : j < l.length), j < i + 1 → (l[j].2 == n) = false := fun hbf j hj h => by
        by_cases hji : j = i
        · subst hji; exact hbf
        · exact Hhall.out j hj (by omega)
      clear hx
      generalize hxi : l[i] = x at *
      obtain ⟨t, m⟩ := x
      dsimp only at d0 d1 hnext hat
      have hsb : ((m : Int) == (n : Int)) = (m == n) := by rw [Bool.eq_iff_iff, beq_iff_eq, beq_iff_eq]; omega
      cases hb : m == n
      · rw [hb] at hsb hnext
        have hmn : ¬ m = n := by simpa using hb
        clear hxi hat
        have Hhmn := Lib.hid hmn
        clear hmn
        go_wp2_with fail
        go_roundw
        case rel => exact ⟨i + 1, by omega, by go_num, hnext rfl, by repeat (first | exact HX.out | apply Ext.alloc)⟩
        case measure => simp [intOf]; omega
      · rw [hb] at hsb hat
        have hf := hat rfl
        have Hhf := Lib.hid hf
        clear hf
        clear hxi hnext hat
        go_wp2_with fail
        go_ret
        exact ⟨by rw [Hhf.out]; rfl, by repeat (first | exact HX.out | apply Ext.alloc)⟩
    · obtain rfl : i = l.length := by omega
      have hz : ¬ ((l.length : Int) < (l.length : Int)) := by omega
      have hf : R = [] := by
        rw [HhR.out]
        unfold ofL
        rw [find_no (p := fun x => x.2 == n) (fun j hj => Hhall.out j hj hj)]
      have Hhf := Lib.hid hf
      clear hf
      clear hx
      go_wp2_with fail
      go_ret
      exact ⟨by rw [Hhf.out]; rfl, HX.out⟩
set_option maxRecDepth 100000 in
set_option maxHeartbeats 2000000 in
theorem of64_calls (l : List Nm) (v : Value) (n : Nat) (w : World) (hv : Rd w 2 encQ v l) (hl : l.length ≤ 1000) :
    Calls Tryd.prog 40 #[v, .int .u64 (n : Int)] w fun e w' => e = .returned (.string (str (ofL l n))) ∧ Ext w w' := by
  obtain ⟨a, c, rfl, hac, hc⟩ := rdQ_cell hv
  obtain ⟨R, hR⟩ : ∃ R, R = ofL l n := ⟨_, rfl⟩
  rw [← hR]
  clear hv
  have HhR := Lib.hid hR
  clear hR
  have Hhc := Lib.hid hc
  clear hc
  go_enter Tryd.func40, Tryd.ntmps40
  go_wp2_with fail
  go_loopw [9] (fun u wr => ∃ i : Nat, i ≤ l.length ∧ u = .int .i64 (i : Int) ∧ (∀ (j : Nat) (hj : j < l.length), j < i → (l[j].2 == n) = false) ∧ Ext w wr) (fun u _ => l.length - (intOf u).toNat)
  case atStart => exact ⟨0, Nat.zero_le _, rfl, fun j _ h => by omega, Ext.refl _⟩
  case round =>
    obtain ⟨i, hi, rfl, hall, hx⟩ := hrel
    have Hhall := Lib.hid hall
    clear hall
    have HX := Lib.hid hx
    by_cases hlt : i < l.length
    · obtain ⟨b, o, rfl, d0, d1⟩ := Hhc.out i hlt
      replace d0 := hx.cell d0
      replace d1 := hx.cell d1
      have hz : (i : Int) < (l.length : Int) := by omega
      have hwi : IntKind.i64.wrap ((i : Int) + 1) = (i : Int) + 1 := IntWalk.i64_in _ (by omega)
      have hat : (l[i].2 == n) = true → R = l[i].1 := fun h => by
        rw [HhR.out]
        unfold ofL
        rw [find_at (p := fun x => x.2 == n) hlt Hhall.out h]
      have hnext : (l[i].2 == n) = false → ∀ (j : Nat) (hj : j < l.length), j < i + 1 → (l[j].2 == n) = false := fun hbf j hj h => by
        by_cases hji : j = i
        · subst hji; exact hbf
        · exact Hhall.out j hj (by omega)
      clear hx
      generalize hxi : l[i] = x at *
      obtain ⟨t, m⟩ := x
      dsimp only at d0 d1 hnext hat
      have hsb : ((m : Int) == (n : Int)) = (m == n) := by rw [Bool.eq_iff_iff, beq_iff_eq, beq_iff_eq]; omega
      cases hb : m == n
      · rw [hb] at hsb hnext
        have hmn : ¬ m = n := by simpa using hb
        clear hxi hat
        have Hhmn := Lib.hid hmn
        clear hmn
        go_wp2_with fail
        go_roundw
        case rel => exact ⟨i + 1, by omega, by go_num, hnext rfl, by repeat (first | exact HX.out | apply Ext.alloc)⟩
        case measure => simp [intOf]; omega
      · rw [hb] at hsb hat
        have hf := hat rfl
        have Hhf := Lib.hid hf
        clear hf
        clear hxi hnext hat
        go_wp2_with fail
        go_ret
        exact ⟨by rw [Hhf.out]; rfl, by repeat (first | exact HX.out | apply Ext.alloc)⟩
    · obtain rfl : i = l.length := by omega
      have hz : ¬ ((l.length : Int) < (l.length : Int)) := by omega
      have hf : R = [] := by
        rw [HhR.out]
        unfold ofL
        rw [find_no (p := fun x => x.2 == n) (fun j hj => Hhall.out j hj hj)]
      have Hhf := Lib.hid hf
      clear hf
      clear hx
      go_wp2_with fail
      go_ret
      exact ⟨by rw [Hhf.out]; rfl, HX.out⟩
set_option maxRecDepth 100000 in
set_option maxHeartbeats 2000000 in
theorem rName_calls (l : List Nm) (v : Value) (n : Nat) (w : World) (hv : Rd w 2 encQ v l) (hl : l.length ≤ 1000) :
    Calls Tryd.prog 25 #[v, .int .u64 (n : Int)] w fun e w' => e = .returned (.string (str (ofL l n))) ∧ Ext w w' := by
  obtain ⟨a, c, rfl, hac, hc⟩ := rdQ_cell hv
  obtain ⟨R, hR⟩ : ∃ R, R = ofL l n := ⟨_, rfl⟩
  rw [← hR]
  clear hv
  have HhR := Lib.hid hR
  clear hR
  have Hhc := Lib.hid hc
  clear hc
  go_enter Tryd.func25, Tryd.ntmps25
  go_wp2_with fail
  go_loopw [5] (fun u wr => ∃ i : Nat, i ≤ l.length ∧ u = .int .i64 (i : Int) ∧ (∀ (j : Nat) (hj : j < l.length), j < i → (l[j].2 == n) = false) ∧ Ext w wr) (fun u _ => l.length - (intOf u).toNat)
  case atStart => exact ⟨0, Nat.zero_le _, rfl, fun j _ h => by omega, Ext.refl _⟩
  case round =>
    obtain ⟨i, hi, rfl, hall, hx⟩ := hrel
    have Hhall := Lib.hid hall
    clear hall
    have HX := Lib.hid hx
    by_cases hlt : i < l.length
    · obtain ⟨b, o, rfl, d0, d1⟩ := Hhc.out i hlt
      replace d0 := hx.cell d0
      replace d1 := hx.cell d1
      have hz : (i : Int) < (l.length : Int) := by omega
      have hwi : IntKind.i64.wrap ((i : Int) + 1) = (i : Int) + 1 := IntWalk.i64_in _ (by omega)
      have hat : (l[i].2 == n) = true → R = l[i].1 := fun h => by
        rw [HhR.out]
        unfold ofL
        rw [find_at (p := fun x => x.2 == n) hlt Hhall.out h]
      have hnext : (l[i].2 == n) = false → ∀ (j : Nat) (hj : j < l.length), j < i + 1 → (l[j].2 == n) = false := fun hbf j hj h => by
        by_cases hji : j = i
        · subst hji; exact hbf
        · exact Hhall.out j hj (by omega)
      clear hx
      generalize hxi : l[i] = x at *
      obtain ⟨t, m⟩ := x
      dsimp only at d0 d1 hnext hat
      have hsb : ((m : Int) == (n : Int)) = (m == n) := by rw [Bool.eq_iff_iff, beq_iff_eq, beq_iff_eq]; omega
      cases hb : m == n
      · rw [hb] at hsb hnext
        have hmn : ¬ m = n := by simpa using hb
        clear hxi hat
        have Hhmn := Lib.hid hmn
        clear hmn
        go_wp2_with fail
        go_roundw
        case rel => exact ⟨i + 1, by omega, by go_num, hnext rfl, by repeat (first | exact HX.out | apply Ext.alloc)⟩
        case measure => simp [intOf]; omega
      · rw [hb] at hsb hat
        have hf := hat rfl
        have Hhf := Lib.hid hf
        clear hf
        clear hxi hnext hat
        go_wp2_with fail
        go_ret
        exact ⟨by rw [Hhf.out]; rfl, by repeat (first | exact HX.out | apply Ext.alloc)⟩
    · obtain rfl : i = l.length := by omega
      have hz : ¬ ((l.length : Int) < (l.length : Int)) := by omega
      have hf : R = [] := by
        rw [HhR.out]
        unfold ofL
        rw [find_no (p := fun x => x.2 == n) (fun j hj => Hhall.out j hj hj)]
      have Hhf := Lib.hid hf
      clear hf
      clear hx
      go_wp2_with fail
      go_ret
      exact ⟨by rw [Hhf.out]; rfl, HX.out⟩
end L10
end Go.Proofs.YtojlpocpcakcbaaDoor
