/- Layer 12: a string's bytes; lines compared; the walks of is and of. -/
import Derived.Test.YteheegkdcphapaaLineE
import Derived.Laws.StructEq
namespace Go.Proofs.Yteheegkdcphapaa
open Go.RowKit V
namespace L12
theorem conv_str (w : World) (s : ByteArray) : (convert 9 22 (.string s)).run Try.prog w = .ok (.slice (some ⟨w.heap.size, 0, none⟩) s.size (grownCap w s.size 0 5))
      (w.drew.alloc (.cells (bytesRow s (grownCap w s.size 0 5)) 5 ((bytesRow s (grownCap w s.size 0 5)).size, (bytesRow s (grownCap w s.size 0 5)).size + 1))) :=
  run_bytes_of_string w _ _ _ s Try.underlying9 Try.underlying22 Try.underlying5
theorem rd_bytes (w : World) (s : ByteArray) (cap : Nat) (hc : s.size ≤ cap) (fr : Nat × Nat) : Rd (w.alloc (.cells (bytesRow s cap) 5 fr)) 1 encB (.slice (some ⟨w.heap.size, 0, none⟩) s.size cap) (bytes s) := by
  refine ⟨_, cap, by rw [bytes_len], by rw [bytes_len]; exact hc, (fun e => by cases e), fun i hi => ⟨w.heap.size, 0, rfl, fun j hj => ?_⟩⟩
  have hj0 : j = 0 := by simp [encB] at hj; exact hj
  subst hj0
  have hi' : i < s.data.size := by rw [bytes_len] at hi; exact hi
  rw [show 0 + i * 1 + 0 = i by omega, World.cell?_alloc_mark, bytesRow_at s cap i hi']
  simp [encB, bytes]
def sameN (s t : LN) : Bool := (s.1 == t.1) && (s.2 == t.2)
theorem sameN_iff (s t : LN) : sameN s t = true ↔ s = t := by
  obtain ⟨a, b⟩ := s
  obtain ⟨c, d⟩ := t
  simp [sameN]
theorem hgN : Try.prog.eqGuardType Try.prog.depth 35 = false := by kernel_rfl
theorem run_equalN (s t : LN) (w : World) : (Op.equalIn 10000 35 (.agg #[.int .i64 (s.1 : Int), .string (str s.2)])
    (.agg #[.int .i64 (t.1 : Int), .string (str t.2)])).run Try.prog w = .ok (sameN s t) w := by
  simp [go_sem]
  by_cases h1 : s.1 = t.1 <;> by_cases h2 : s.2 = t.2 <;> simp [sameN, h1, h2, Int.ofNat_inj]
theorem run_neqN (s t : LN) (w : World) : (binOp .neq 35 (.agg #[.int .i64 (s.1 : Int), .string (str s.2)])
    (.agg #[.int .i64 (t.1 : Int), .string (str t.2)])).run Try.prog w = .ok (.bool (!sameN s t)) w := by
  rw [run_neq_struct, run_equalN]; rfl
theorem rdN_cell {w : World} {v : Value} {xs : List LN} (h : Rd w 2 encN v xs) : ∃ a c, v = .slice a xs.length c ∧ xs.length ≤ c ∧ ∀ i, (hi : i < xs.length) → ∃ b o, a = some ⟨b, o, none⟩ ∧ w.cell? ⟨b, o + i * 2, none⟩ = some (.int .i64 ((xs[i]).1 : Int)) ∧ w.cell? ⟨b, o + i * 2 + 1, none⟩ = some (.string (str (xs[i]).2)) := by
  obtain ⟨a, c, h1, h2, h3, h4⟩ := h
  refine ⟨a, c, h1, h2, fun i hi => ?_⟩
  obtain ⟨b, o, e, k⟩ := h4 i hi
  have k0 := k 0 (by simp [encN])
  have k1 := k 1 (by simp [encN])
  exact ⟨b, o, e, by simpa [encN] using k0, by simpa [encN] using k1⟩
def isA (l : List UInt8) (ys : List LN) : Bool := decide ((splitA l).2 = 0 ∧ (splitA l).1 = ys)
theorem splitA_err (l : List UInt8) : (splitA l).2 = 0 ∨ (splitA l).2 = 3 ∨ (splitA l).2 = 4 := by
  unfold splitA; split
  · exact .inr (.inl rfl)
  split
  · exact .inr (.inr rfl)
  · exact .inl rfl
theorem stS_len : ∀ (pre : List LN) (st : St), (pre.foldl stepS st).1.length ≤ st.1.length + pre.length
  | [], _ => Nat.le_refl _
  | x :: r, st => by
    rw [List.foldl_cons]
    have h := stS_len r (stepS st x)
    have h2 : (stepS st x).1.length ≤ st.1.length + 1 := by
      unfold stepS
      split
      · omega
      split
      · dsimp only; omega
      · exact endL_len _ _ _
    rw [List.length_cons]; omega
theorem splitA_len (l : List UInt8) : (splitA l).1.length ≤ 1001 := by
  unfold splitA; split
  · simp
  split
  · simp
  · dsimp only
    unfold splitL
    have := stS_len (numF 1 (linesL l)) ([], 0, [])
    rw [numF_len] at this
    have h2 := endL_len (stS (numF 1 (linesL l))).2.1 (stS (numF 1 (linesL l))).2.2 (stS (numF 1 (linesL l))).1
    unfold stS at *
    simp only [List.length_nil] at this
    omega
set_option maxRecDepth 100000 in
set_option maxHeartbeats 2000000 in
theorem is_calls (s : ByteArray) (hs : s.size ≤ 1000000) (v : Value) (ys : List LN) (w : World) (hv : Rd w 2 encN v ys) :
    Calls Try.prog 22 #[.string s, v] w fun e w' => e = .returned (.bool (isA (bytes s) ys)) ∧ Ext w w' := by
  obtain ⟨ay, cy, rfl, hacy, hcy⟩ := rdN_cell hv
  have hcv := fun W => conv_str W s
  have hS := fun v W (h : Rd W 1 encB v (bytes s)) => Split_calls v (bytes s) (by rw [bytes_len]; exact hs) W h
  have hzl := splitA_len (bytes s)
  have her := splitA_err (bytes s)
  obtain ⟨r, hr⟩ : ∃ r, r = isA (bytes s) ys := ⟨_, rfl⟩
  rw [← hr]
  have hR : r = true ↔ ((splitA (bytes s)).2 = 0 ∧ (splitA (bytes s)).1 = ys) := by rw [hr]; unfold isA; rw [decide_eq_true_iff]
  generalize (splitA (bytes s)).1 = zs at *
  generalize (splitA (bytes s)).2 = er at *
  clear hv
  have HhS := Lib.hid hS
  clear hS
  have Hhr := Lib.hid hr
  clear hr
  have HhR := Lib.hid hR
  clear hR
  have Hhcy := Lib.hid hcy
  clear hcy
  go_enter Try.func22, Try.ntmps22
  go_wp2_with fail
  have hrd : Rd ((w.alloc (.cells (bytesRow s (grownCap w s.size 0 5)) 5 ((bytesRow s (grownCap w s.size 0 5)).size, (bytesRow s (grownCap w s.size 0 5)).size + 1))).drew) 1 encB (.slice (some ⟨w.heap.size, 0, none⟩) s.size (grownCap w s.size 0 5)) (bytes s) := rd_bytes w s _ (grownCap_ge _ _ _ _) _
  refine (HhS.out _ _ hrd).mono ?_
  rintro e w1 ⟨u, rfl, hx, ho⟩
  have HX1 : Hid (Ext w w1) := Lib.hid ((((Ext.refl w).alloc _).drew).trans hx)
  have hrz := rd_of_own encN_len ho
  obtain ⟨az, cz, rfl, hacz, hcz⟩ := rdN_cell hrz
  have Hhcz := Lib.hid hcz
  clear hcz
  clear hrd hx ho hrz hcv
  have hcase : (er = 0 ∧ ys.length = zs.length) ∨ (((er != 0) = true ∨ ((er != 0) = false ∧ ((zs.length : Int) != (ys.length : Int)) = true ∧ (zs.length != ys.length) = true)) ∧ r = false) := by
    by_cases h0 : er = 0
    · by_cases h1 : ys.length = zs.length
      · exact .inl ⟨h0, h1⟩
      · refine .inr ⟨.inr ⟨by rw [h0]; rfl, by simp; omega, by simp; omega⟩, ?_⟩
        rw [Bool.eq_false_iff]
        intro h
        exact h1 (by rw [(HhR.out.1 h).2])
    · refine .inr ⟨.inl (by simpa using h0), ?_⟩
      rw [Bool.eq_false_iff]
      intro h
      exact h0 (HhR.out.1 h).1
  rcases hcase with ⟨rfl, hlen⟩ | ⟨hne, rfl⟩
  · have hne1 : ((zs.length : Int) != (ys.length : Int)) = false := by rw [hlen]; simp
    have hne2 : (zs.length != ys.length) = false := by rw [hlen]; simp
    go_wp2_with fail
    go_loopw [7] (fun i wr => ∃ k : Nat, k ≤ zs.length ∧ i = .int .i64 k ∧ zs.take k = ys.take k ∧ Ext w1 wr) (fun i _ => zs.length - (intOf i).toNat)
    case atStart => exact ⟨0, by omega, rfl, rfl, Ext.refl _⟩
    case round =>
      obtain ⟨k, hk, rfl, htk, hx⟩ := hrel
      have HX := Lib.hid hx
      by_cases hlt : k < zs.length
      · obtain ⟨b, o, rfl, d0, d1⟩ := Hhcz.out k hlt
        obtain ⟨b', o', rfl, g0, g1⟩ := Hhcy.out k (by omega)
        replace d0 := hx.cell d0; replace d1 := hx.cell d1
        replace g0 := (HX1.out.trans hx).cell g0; replace g1 := (HX1.out.trans hx).cell g1
        have hq := run_neqN (zs[k]'hlt) (ys[k]'(by omega))
        have hg := hgN
        have hs := sameN_iff (zs[k]'hlt) (ys[k]'(by omega))
        have hty : ys.take (k + 1) = ys.take k ++ [ys[k]'(by omega)] := List.take_succ_eq_append_getElem (by omega)
        have htz : zs.take (k + 1) = zs.take k ++ [zs[k]'hlt] := List.take_succ_eq_append_getElem hlt
        have hget : ys = zs → ys[k]'(by omega) = zs[k]'hlt := fun e => by subst e; rfl
        clear hx
        generalize zs[k]'hlt = x at *
        generalize ys[k]'(by omega) = y at *
        cases hxy : sameN x y
        · rw [hxy] at hq
          have hf : r = false := by
            rw [Bool.eq_false_iff]
            intro h
            have := hget (HhR.out.1 h).2.symm
            rw [Bool.eq_false_iff] at hxy
            exact hxy (hs.2 this.symm)
          have Hhs := Lib.hid hs
          clear hs
          have Hhty := Lib.hid hty
          clear hty
          have Hhtz := Lib.hid htz
          clear htz
          have Hhtk := Lib.hid htk
          clear htk
          have Hhxy := Lib.hid hxy
          clear hxy
          have Hhf := Lib.hid hf
          clear hf
          clear hget hlen
          go_wp2_with (go_quiet (fail))
          go_ret
          exact ⟨by rw [Hhf.out]; rfl, HX1.out.trans (by repeat (first | exact HX.out | apply Ext.drewN | apply Ext.alloc | apply Ext.drew))⟩
        · rw [hxy] at hq
          have hxe := hs.1 hxy
          have htk2 : zs.take (k + 1) = ys.take (k + 1) := by rw [hty, htz, htk, hxe]
          have Hhs := Lib.hid hs
          clear hs
          have Hhty := Lib.hid hty
          clear hty
          have Hhtz := Lib.hid htz
          clear htz
          have Hhtk := Lib.hid htk
          clear htk
          have Hhxy := Lib.hid hxy
          clear hxy
          have Hhtk2 := Lib.hid htk2
          clear htk2
          have Hhxe := Lib.hid hxe
          clear hxe
          clear hget
          go_wp2_with (go_quiet (fail))
          go_roundw
          case rel => exact ⟨k + 1, by omega, by go_num, Hhtk2.out, (by repeat (first | exact HX.out | apply Ext.drewN | apply Ext.alloc | apply Ext.drew))⟩
          case measure => simp [intOf]; omega
      · obtain rfl : k = zs.length := by omega
        rw [List.take_length, ← hlen, List.take_length] at htk
        have hf : r = true := HhR.out.2 ⟨by first | rfl | trivial, htk⟩
        have Hhf := Lib.hid hf
        clear hf
        have Hhtk := Lib.hid htk
        clear htk
        clear hx
        go_wp2_with fail
        go_ret
        exact ⟨by rw [Hhf.out]; rfl, HX1.out.trans HX.out⟩
  · rcases hne with hne | ⟨hne, hne2, hne3⟩
    all_goals
      go_wp2_with fail
      go_ret
      exact ⟨rfl, HX1.out⟩
end L12
end Go.Proofs.Yteheegkdcphapaa
