/- Layer 10: bytes; the walk of Errno. -/
import Derived.Laws.StructEq
import Derived.Test.YtojlpocpcakcbaaDoorNameC
namespace Go.Proofs.YtojlpocpcakcbaaDoor
open Go.RowKit V
attribute [local go_sem] Oper.semAt_some
namespace L10
def encB (x : UInt8) : List Value := [.int .u8 (x.toNat : Int)]
theorem encB_len (x : UInt8) : (encB x).length = 1 := rfl
theorem conv_str (w : World) (s : ByteArray) : (convert 9 64 (.string s)).run Tryd.prog w = .ok (.slice (some ⟨w.heap.size, 0, none⟩) s.size (grownCap w s.size 0 5))
      (w.drew.alloc (.cells (bytesRow s (grownCap w s.size 0 5)) 5 ((bytesRow s (grownCap w s.size 0 5)).size, (bytesRow s (grownCap w s.size 0 5)).size + 1))) :=
  run_bytes_of_string w _ _ _ s Tryd.underlying9 Tryd.underlying64 Tryd.underlying5
theorem rd_bytes (w : World) (s : ByteArray) (cap : Nat) (hc : s.size ≤ cap) (fr : Nat × Nat) : Rd (w.alloc (.cells (bytesRow s cap) 5 fr)) 1 encB (.slice (some ⟨w.heap.size, 0, none⟩) s.size cap) (bytes s) := by
  refine ⟨_, cap, by rw [bytes_len], by rw [bytes_len]; exact hc, (fun e => by cases e), fun i hi => ⟨w.heap.size, 0, rfl, fun j hj => ?_⟩⟩
  have hj0 : j = 0 := by simp [encB] at hj; exact hj
  subst hj0
  have hi' : i < s.data.size := by rw [bytes_len] at hi; exact hi
  rw [show 0 + i * 1 + 0 = i by omega, World.cell?_alloc_mark, bytesRow_at s cap i hi']
  simp [encB, bytes]
theorem rdB_cell {w : World} {v : Value} {xs : List UInt8} (h : Rd w 1 encB v xs) : ∃ a c, v = .slice a xs.length c ∧ xs.length ≤ c ∧ ∀ i, (hi : i < xs.length) → ∃ b o, a = some ⟨b, o, none⟩ ∧ w.cell? ⟨b, o + i, none⟩ = some (.int .u8 (xs[i].toNat : Int)) := by
  obtain ⟨a, c, h1, h2, h3, h4⟩ := h
  refine ⟨a, c, h1, h2, fun i hi => ?_⟩
  obtain ⟨b, o, e, k⟩ := h4 i hi
  have k0 := k 0 (by simp [encB])
  exact ⟨b, o, e, by simpa [encB] using k0⟩
def isD (c : UInt8) : Bool := decide (48 ≤ c.toNat) && decide (c.toNat ≤ 57)
def valL (l : List UInt8) : Nat := l.foldl (fun n c => 10 * n + (c.toNat - 48)) 0
def numL (s : List UInt8) : Nat × Int := if s.all isD = true ∧ 1 ≤ s.length ∧ s.length ≤ 4 ∧ valL s ≤ 4095 then (valL s, 0) else (0, 160)
def errnoL (s : List UInt8) : Nat × Int := if (findL errT s 160).2 = 0 then ((findL errT s 160).1, 0) else numL s
theorem valL_snoc (l : List UInt8) (c : UInt8) : valL (l ++ [c]) = 10 * valL l + (c.toNat - 48) := by unfold valL; rw [List.foldl_append]; rfl
theorem valL_lt : ∀ (k : Nat) (l : List UInt8), l.length = k → l.all isD = true → valL l < 10 ^ k
  | 0, l, h, _ => by rw [List.eq_nil_of_length_eq_zero h]; decide
  | k + 1, l, h, ha => by
    obtain ⟨r, x, rfl⟩ : ∃ r x, l = r ++ [x] := ⟨l.dropLast, l.getLast (by intro e; subst e; simp at h), (List.dropLast_concat_getLast _).symm⟩
    rw [List.all_append, Bool.and_eq_true] at ha
    have h1 := valL_lt k r (by rw [List.length_append] at h; simpa using h) ha.1
    have h2 : isD x = true := by simpa using ha.2
    unfold isD at h2
    rw [Bool.and_eq_true, decide_eq_true_iff, decide_eq_true_iff] at h2
    rw [valL_snoc, Nat.pow_succ]
    omega
theorem findL_ok (l : List Nm) (s : List UInt8) (no : Int) : (findL l s no).2 = 0 ∨ (findL l s no).2 = no := by
  unfold findL; split
  · exact .inl rfl
  · exact .inr rfl
set_option maxRecDepth 100000 in
set_option maxHeartbeats 4000000 in
theorem Errno_calls (s : ByteArray) (hs : s.size ≤ 1000000) (w : World) : Calls Tryd.prog 9 #[.string s] w fun e w' => e = .returned (.tuple #[.int .u32 ((errnoL (bytes s)).1 : Int), .int .i64 (errnoL (bytes s)).2]) ∧ Ext w w' := by
  have hT := fun W => errnos_calls W
  have hF := fun v W (h : Rd W 2 encW v errT) => find32_calls errT v s 160 W h (by decide)
  have hst := errnosSt
  have hcv := fun W => conv_str W s
  have hE : errnoL (bytes s) = if (findL errT (bytes s) 160).2 = 0 then ((findL errT (bytes s) 160).1, 0) else numL (bytes s) := rfl
  have hok := findL_ok errT (bytes s) 160
  obtain ⟨RR, hRR⟩ : ∃ RR, RR = errnoL (bytes s) := ⟨_, rfl⟩
  rw [← hRR] at hE ⊢
  generalize findL errT (bytes s) 160 = R at *
  obtain ⟨r1, r2⟩ := R
  dsimp only at hE hok hF
  have HhT := Lib.hid hT
  clear hT
  have HhF := Lib.hid hF
  clear hF
  clear hRR
  rcases hok with rfl | rfl
  · rw [if_pos rfl] at hE
    subst hE
    go_enter Tryd.func9, Tryd.ntmps9
    go_wp2_with fail
    refine (HhT.out _).mono ?_
    rintro e w1 ⟨rfl, hx1⟩
    go_wp2_with fail
    refine (HhF.out _ _ (rd_newV encW_len errnosV_eq)).mono ?_
    rintro e w2 ⟨rfl, hx2⟩
    go_wp2_with fail
    go_ret2
    exact ⟨rfl, (hx1.alloc _).trans hx2⟩
  · rw [if_neg (by simp)] at hE
    have hN : RR = if (bytes s).all isD = true ∧ 1 ≤ (bytes s).length ∧ (bytes s).length ≤ 4 ∧ valL (bytes s) ≤ 4095 then (valL (bytes s), 0) else (0, 160) := hE
    clear hE
    have HhN := Lib.hid hN
    clear hN
    go_enter Tryd.func9, Tryd.ntmps9
    go_wp2_with fail
    refine (HhT.out _).mono ?_
    rintro e w1 ⟨rfl, hx1⟩
    go_wp2_with fail
    refine (HhF.out _ _ (rd_newV encW_len errnosV_eq)).mono ?_
    rintro e w2 ⟨rfl, hx2⟩
    have HX2 := Lib.hid ((hx1.alloc (.cells errnosV 60)).trans hx2)
    clear hx1 hx2
    go_wp2_with fail
    have hrd : Rd ((w2.alloc (.cells (bytesRow s (grownCap w2 s.size 0 5)) 5 ((bytesRow s (grownCap w2 s.size 0 5)).size, (bytesRow s (grownCap w2 s.size 0 5)).size + 1))).drew) 1 encB (.slice (some ⟨w2.heap.size, 0, none⟩) s.size (grownCap w2 s.size 0 5)) (bytes s) := rd_bytes w2 s _ (grownCap_ge _ _ _ _) _
    obtain ⟨w3, hw3⟩ : ∃ w3, w3 = (w2.alloc (.cells (bytesRow s (grownCap w2 s.size 0 5)) 5 ((bytesRow s (grownCap w2 s.size 0 5)).size, (bytesRow s (grownCap w2 s.size 0 5)).size + 1))).drew := ⟨_, rfl⟩
    have HX3 : Hid (Ext w w3) := Lib.hid (by rw [hw3]; exact (HX2.out.alloc _).drew)
    rw [← hw3] at hrd ⊢
    clear hw3 hcv hst
    obtain ⟨av, cv, hav, -, hcell⟩ := rdB_cell hrd
    simp only [Value.slice.injEq] at hav
    obtain ⟨rfl, -, rfl⟩ := hav
    have Hhcell := Lib.hid hcell
    clear hcell
    clear hrd
    generalize grownCap w2 s.size 0 5 = cap at *
    generalize w2.heap.size = bk at *
    go_loopw [7, 23] (fun un ui wr => ∃ i n : Nat, i ≤ s.size ∧ ui = .int .i64 (i : Int) ∧ un = .int .i64 (n : Int) ∧ n ≤ 1048576 ∧ ((bytes s).take i).all isD = true ∧ (i ≤ 4 → n = valL ((bytes s).take i)) ∧ w3 = wr) (fun _ ui _ => s.size - (intOf ui).toNat)
    case atStart => exact ⟨0, 0, Nat.zero_le _, rfl, rfl, by omega, rfl, fun _ => rfl, rfl⟩
    case round =>
      obtain ⟨i, n, hi, rfl, rfl, hn, hall, hval, rfl⟩ := hrel
      by_cases hlt : i < s.size
      · have hltb : i < (bytes s).length := hlt
        obtain ⟨b, o, e, d0⟩ := Hhcell.out i hltb
        simp only [Option.some.injEq, Addr.mk.injEq, and_true] at e
        obtain ⟨rfl, rfl⟩ := e
        rw [Nat.zero_add] at d0
        have hz : (i : Int) < (s.size : Int) := by omega
        have hwi : IntKind.i64.wrap ((i : Int) + 1) = (i : Int) + 1 := IntWalk.i64_in _ (by omega)
        have htk : (bytes s).take (i + 1) = (bytes s).take i ++ [(bytes s)[i]] := List.take_succ_eq_append_getElem hltb
        have hnot : isD (bytes s)[i] = false → RR = (0, 160) := fun h => by
          rw [HhN.out, if_neg]
          intro hh
          have := List.all_eq_true.1 hh.1 _ (List.getElem_mem hltb)
          rw [h] at this
          cases this
        generalize (bytes s)[i] = c at *
        have hcl := c.toNat_lt
        have Hhtk := Lib.hid htk
        clear htk
        have Hhall := Lib.hid hall
        clear hall
        have Hhval := Lib.hid hval
        clear hval
        by_cases h48 : c.toNat < 48
        · have hf : RR = (0, 160) := hnot (by unfold isD; simp; omega)
          have g1 : decide ((c.toNat : Int) < 48) = true := decide_eq_true (by omega)
          have g2 : decide (c.toNat < 48) = true := decide_eq_true h48
          have Hhf := Lib.hid hf
          clear hf
          clear hnot
          go_wp2_with fail
          go_ret2
          exact ⟨by rw [Hhf.out]; rfl, HX3.out⟩
        · have g1 : decide ((c.toNat : Int) < 48) = false := decide_eq_false (by omega)
          have g2 : decide (c.toNat < 48) = false := decide_eq_false h48
          by_cases h57 : 57 < c.toNat
          · have hf : RR = (0, 160) := hnot (by unfold isD; simp; omega)
            have g3 : decide ((57 : Int) < (c.toNat : Int)) = true := decide_eq_true (by omega)
            have g4 : decide (57 < c.toNat) = true := decide_eq_true h57
            have Hhf := Lib.hid hf
            clear hf
            clear hnot
            go_wp2_with fail
            go_ret2
            exact ⟨by rw [Hhf.out]; rfl, HX3.out⟩
          · have g3 : decide ((57 : Int) < (c.toNat : Int)) = false := decide_eq_false (by omega)
            have g4 : decide (57 < c.toNat) = false := decide_eq_false h57
            have hD : isD c = true := by unfold isD; simp; omega
            obtain ⟨m, hm⟩ : ∃ m, m = min (10 * n + (c.toNat - 48)) 1048576 := ⟨_, rfl⟩
            have hmif : (if (1048576 : Int) < 10 * (n : Int) + ((c.toNat : Int) - 48) then 1048576 else 10 * (n : Int) + ((c.toNat : Int) - 48)) = (m : Int) := by split <;> omega
            have hmb : m ≤ 1048576 := by omega
            have hal2 : ((bytes s).take (i + 1)).all isD = true := by
              rw [Hhtk.out, List.all_append, Hhall.out]
              simpa using hD
            have hv2 : i + 1 ≤ 4 → m = valL ((bytes s).take (i + 1)) := fun h => by
              have h1 := Hhval.out (by omega)
              have h2 := valL_lt i _ (by rw [List.length_take]; omega) Hhall.out
              have h3 : 10 ^ i ≤ 10 ^ 3 := Nat.pow_le_pow_right (by omega) (by omega)
              rw [Hhtk.out, valL_snoc, ← h1, hm]
              rw [← h1] at h2
              omega
            have Hhmif := Lib.hid hmif
            clear hmif
            have Hhm := Lib.hid hm
            clear hm
            have HhD := Lib.hid hD
            clear hD
            have Hhal2 := Lib.hid hal2
            clear hal2
            have Hhv2 := Lib.hid hv2
            clear hv2
            clear hnot
            go_wp2_with fail
            go_roundw
            case rel => exact ⟨i + 1, m, by omega, by go_num, by rw [Hhmif.out], hmb, Hhal2.out, Hhv2.out, trivial⟩
            case measure => simp [intOf]; omega
      · obtain rfl : i = s.size := by omega
        have htl : (bytes s).take s.size = bytes s := List.take_of_length_le (by rw [bytes_len]; exact Nat.le_refl _)
        rw [htl] at hall hval
        have hN2 := HhN.out
        rw [hall, bytes_len] at hN2
        have Hhall := Lib.hid hall
        clear hall
        have Hhval := Lib.hid hval
        clear hval
        have Hhtl := Lib.hid htl
        clear htl
        by_cases h1 : s.size < 1
        · have g1 : decide (s.size < 1) = true := decide_eq_true h1
          have g2 : decide ((s.size : Int) < 1) = true := decide_eq_true (by omega)
          rw [if_neg (fun h => by omega)] at hN2
          have HhN2 := Lib.hid hN2
          clear hN2
          go_wp2_with fail
          go_ret2
          exact ⟨by rw [HhN2.out]; rfl, HX3.out⟩
        · have g1 : decide (s.size < 1) = false := decide_eq_false h1
          have g2 : decide ((s.size : Int) < 1) = false := decide_eq_false (by omega)
          by_cases h4 : 4 < s.size
          · have g3 : decide (4 < s.size) = true := decide_eq_true h4
            have g4 : decide ((4 : Int) < (s.size : Int)) = true := decide_eq_true (by omega)
            rw [if_neg (fun h => by omega)] at hN2
            have HhN2 := Lib.hid hN2
            clear hN2
            go_wp2_with fail
            go_ret2
            exact ⟨by rw [HhN2.out]; rfl, HX3.out⟩
          · have g3 : decide (4 < s.size) = false := decide_eq_false h4
            have g4 : decide ((4 : Int) < (s.size : Int)) = false := decide_eq_false (by omega)
            have hv := Hhval.out (by omega)
            rw [← hv] at hN2
            by_cases h9 : 4095 < n
            · have g5 : decide (4095 < n) = true := decide_eq_true h9
              have g6 : decide ((4095 : Int) < (n : Int)) = true := decide_eq_true (by omega)
              rw [if_neg (fun h => by omega)] at hN2
              have HhN2 := Lib.hid hN2
              clear hN2
              have Hhv := Lib.hid hv
              clear hv
              go_wp2_with fail
              go_ret2
              exact ⟨by rw [HhN2.out]; rfl, HX3.out⟩
            · have g5 : decide (4095 < n) = false := decide_eq_false h9
              have g6 : decide ((4095 : Int) < (n : Int)) = false := decide_eq_false (by omega)
              rw [if_pos ⟨rfl, by omega, by omega, by omega⟩] at hN2
              have hwn : IntKind.u32.wrap (n : Int) = (n : Int) := by simp [IntKind.wrap, IntKind.signed, IntKind.bits]; omega
              have HhN2 := Lib.hid hN2
              clear hN2
              have Hhv := Lib.hid hv
              clear hv
              go_wp2_with fail
              go_ret2
              exact ⟨by rw [HhN2.out]; rfl, HX3.out⟩
end L10
end Go.Proofs.YtojlpocpcakcbaaDoor
