/- Layer 20: ParseUint at 16 bits; the walk of Parse. -/
import Derived.Test.YtjgglocabjpmeaaDoorActS
namespace Go.Proofs.YtjgglocabjpmeaaDoor
open Go.RowKit Go.Shelf Go.Sort V
attribute [local go_sem] Oper.semAt_some
namespace L20
/-- what a row of digits is, and whether it is one that 16 bits hold -/
def parsU (l : List UInt8) : Nat × Bool := match Lib.parseUintB 16 l with
  | .ok u => (u, true)
  | .range => (65535, false)
  | _ => (0, false)
theorem parsU_le (l : List UInt8) : (parsU l).1 ≤ 65535 := by
  unfold parsU
  rcases h : Lib.parseUintB 16 l with u | _ | _
  · exact Lib.parseUintB_le h
  · exact Nat.zero_le _
  · exact Nat.le_refl _
theorem grown_bytes (w : World) (s : ByteArray) : Ext w (Lib.bytesWorld w 5 s) := Lib.bytesWorld_below w _ s
theorem ParseUint_calls (s : ByteArray) (hs : s.size ≤ 1000000) (w : World) (ht : Tab w) :
    Calls Tryd.prog 23 #[.string s, .int .i64 10, .int .i64 16] w fun e w' => ∃ ev, e = .returned (.tuple #[.int .u64 ((parsU (bytes s)).1 : Int), ev]) ∧ (if (parsU (bytes s)).2 = true then ev = .nilIface else ∃ t p, ev = .iface t p) ∧ Ext w w' := by
  unfold parsU
  rcases h : Lib.parseUintB 16 (bytes s) with u | _ | _
  · refine (Tryd.strconv_ParseUint_10_at16_ok s (by omega) u h w).mono ?_
    rintro e w' ⟨rfl, rfl | rfl⟩
    · exact ⟨_, rfl, rfl, Ext.refl _⟩
    · exact ⟨_, rfl, rfl, grown_bytes _ _⟩
  · obtain ⟨-, ⟨tp, p, hv⟩, -⟩ := ht
    refine (Any.strconv_ParseUint_10_at16_syntax_var Tryd.laysPu14 s (by omega) h tp p w hv).mono ?_
    rintro e w' ⟨N, rfl, -, -, hb⟩
    exact ⟨_, rfl, ⟨_, _, rfl⟩, hb⟩
  · obtain ⟨-, -, tp, p, hv⟩ := ht
    refine (Any.strconv_ParseUint_10_at16_range_var Tryd.laysPu14 s (by omega) h tp p w hv).mono ?_
    rintro e w' ⟨N, rfl, -, -, hb⟩
    exact ⟨_, rfl, ⟨_, _, rfl⟩, hb⟩
theorem find_at {α : Type} {p : α → Bool} : ∀ {l : List α} {i : Nat} (h : i < l.length), (∀ (j : Nat) (hj : j < l.length), j < i → p l[j] = false) → p l[i] = true → l.find? p = some l[i]
  | x :: r, 0, _, _, hp => by
    simp at hp
    simp [List.find?, hp]
  | x :: r, i + 1, h, hn, hp => by
    have h0 : p x = false := hn 0 (by simp) (by omega)
    have := find_at (p := p) (l := r) (i := i) (Nat.lt_of_succ_lt_succ h) (fun j hj hji => hn (j + 1) (Nat.succ_lt_succ hj) (by omega)) hp
    simp [List.find?, h0, this]
/-- what a text comes to at a name -/
def tryA (s : List UInt8) (k : Nat) : Nat × Int :=
  if (s.contains 32 && !(parsU (tl1 32 s)).2) = true ∨ textA (codes.getD k 0 ||| (parsU (tl1 32 s)).1) ≠ s then (0, 2) else (codes.getD k 0 ||| (parsU (tl1 32 s)).1, 0)
def parA (s : List UInt8) : Nat × Int := match (List.range 8).find? fun k => decide (nms.getD k [] = hd1 32 s) with
  | some k => tryA s k
  | none => (0, 2)
theorem parA_at {s : List UInt8} {k : Nat} (hk : k < 8) (hn : ∀ j, j < k → nms.getD j [] ≠ hd1 32 s) (h : nms.getD k [] = hd1 32 s) : parA s = tryA s k := by
  unfold parA
  rw [find_at (i := k) (by simpa using hk) (fun j hj hjk => by rw [List.getElem_range]; exact decide_eq_false (hn j hjk)) (by rw [List.getElem_range]; exact decide_eq_true h), List.getElem_range]
theorem parA_no {s : List UInt8} (hn : ∀ j, j < 8 → nms.getD j [] ≠ hd1 32 s) : parA s = (0, 2) := by
  unfold parA
  rw [List.find?_eq_none.2 (fun x hx => by simpa using hn x (by simpa using hx))]
theorem codes_or (k x : Nat) (hk : k < 8) (hx : x ≤ 65535) : codes.getD k 0 < 4294967296 ∧ codes.getD k 0 ||| x = codes.getD k 0 + x ∧ codes.getD k 0 + x < 4294967296 := by
  have e : ∀ q, q * 65536 ||| x = q * 65536 + x := fun q => by
    have := (Nat.shiftLeft_add_eq_or_of_lt (show x < 2 ^ 16 by omega) q).symm
    rwa [Nat.shiftLeft_eq] at this
  rcases lt8 k hk with rfl | rfl | rfl | rfl | rfl | rfl | rfl | rfl
  · exact ⟨by decide, e 32768, by show 2147483648 + x < _; omega⟩
  · exact ⟨by decide, e 0, by show 0 + x < _; omega⟩
  · exact ⟨by decide, e 3, by show 196608 + x < _; omega⟩
  · exact ⟨by decide, e 5, by show 327680 + x < _; omega⟩
  · exact ⟨by decide, e 32704, by show 2143289344 + x < _; omega⟩
  · exact ⟨by decide, e 32752, by show 2146435072 + x < _; omega⟩
  · exact ⟨by decide, e 32764, by show 2147221504 + x < _; omega⟩
  · exact ⟨by decide, e 32767, by show 2147418112 + x < _; omega⟩
theorem blk2 {w w1 : World} {a b : Value} {t : TypeId} (hx : Ext (w.alloc (.cells #[a, b] t)) w1) : w1.cell? ⟨w.heap.size, 0, none⟩ = some a ∧ w1.cell? ⟨w.heap.size, 1, none⟩ = some b := by
  have hb : w1.heap[w.heap.size]? = some (.cells #[a, b] t (0, 0)) := (hx.block (by simp)).trans (heap_alloc_new w _)
  exact ⟨by simp [World.cell?, hb], by simp [World.cell?, hb]⟩
theorem u32_keep (x : Nat) (h : x ≤ 65535) : IntKind.u32.wrap (x : Int) = (x : Int) := by simp [IntKind.wrap, IntKind.signed, IntKind.bits]; omega
theorem beq_ba (s t : ByteArray) : (s.toList == t.toList) = decide (bytes s = bytes t) := by
  rw [str_beq, Bool.eq_iff_iff, beq_iff_eq, decide_eq_true_iff]
set_option maxRecDepth 100000 in
set_option maxHeartbeats 4000000 in
theorem Parse_calls (s : ByteArray) (hs : s.size ≤ 100000) (w : World) (ht : Tab w) :
    Calls Tryd.prog 10 #[.string s] w fun e w' => e = .returned (.tuple #[.int .u32 ((parA (bytes s)).1 : Int), .int .i64 (parA (bytes s)).2]) ∧ Ext w w' := by
  have hC := fun W => Cut_calls s 32 (by unfold maxLen; omega) W
  have hP := fun W (h : Tab W) => ParseUint_calls (str (tl1 32 (bytes s))) (by rw [str_size, tl1_len, bytes_len]; omega) W h
  rw [bytes_str] at hP
  have hpl := parsU_le (tl1 32 (bytes s))
  have hX := fun k (hk : k < 8) => codes_or k (parsU (tl1 32 (bytes s))).1 hk hpl
  have hA := fun k (hk : k < 8) => @parA_at (bytes s) k hk
  have hN := @parA_no (bytes s)
  have hK := fun k => show tryA (bytes s) k = if ((bytes s).contains 32 && !(parsU (tl1 32 (bytes s))).2) = true ∨ textA (codes.getD k 0 ||| (parsU (tl1 32 (bytes s))).1) ≠ bytes s then (0, 2) else (codes.getD k 0 ||| (parsU (tl1 32 (bytes s))).1, 0) from rfl
  have HT := Lib.hid ht
  clear ht
  unfold cutT at hC
  generalize (bytes s).contains 32 = bc at *
  generalize parsU (tl1 32 (bytes s)) = PU at *
  generalize tl1 32 (bytes s) = rest at *
  generalize hd1 32 (bytes s) = wd at *
  obtain ⟨x, ok⟩ := PU
  generalize parA (bytes s) = R at *
  dsimp only at *
  have HhC := Lib.hid hC
  clear hC
  have HhP := Lib.hid hP
  clear hP
  have HhX := Lib.hid hX
  clear hX
  have HhA := Lib.hid hA
  clear hA
  have HhN := Lib.hid hN
  clear hN
  have HhK := Lib.hid hK
  clear hK
  go_enter Tryd.func10, Tryd.ntmps10
  go_wp2_with fail
  refine (HhC.out _).mono ?_
  rintro e w1 ⟨rfl, hx1⟩
  have HX1 := Lib.hid hx1
  clear hx1
  go_wp2_with fail
  refine (names_calls _).mono ?_
  rintro e w2 ⟨rfl, hx2⟩
  have HX2 := Lib.hid (HX1.out.trans hx2)
  clear hx2
  go_wp2_with fail
  go_loopw [18] (fun i wr => ∃ k : Nat, k ≤ 8 ∧ i = .int .i64 k ∧ Ext w wr ∧ ∀ j, j < k → nms.getD j [] ≠ wd) (fun i _ => 8 - (intOf i).toNat)
  case atStart => exact ⟨0, by omega, rfl, HX2.out, by omega⟩
  case round =>
    obtain ⟨k, hk, rfl, hx, hno⟩ := hrel
    have HX := Lib.hid hx
    have Hhno := Lib.hid hno
    clear hno
    clear hx
    by_cases hlt : k < 8
    · have hidx := idx_names k hlt
      change ∀ w, (Instr.index 45 (.agg namesV) (.int .i64 (k : Int))).run Tryd.prog w = .ok (.agg #[.int .u32 (codes.getD k 0 : Nat), .string (str (nms.getD k []))]) w at hidx
      obtain ⟨hc1, hc2, hc3⟩ := HhX.out k hlt
      have hKk := HhK.out k
      have hAk := HhA.out k hlt Hhno.out
      have hq1 : ((str (nms.getD k [])).toList == (str wd).toList) = decide (nms.getD k [] = wd) := by rw [beq_ba, bytes_str, bytes_str]
      have hbor := u32_or_nat (codes.getD k 0) x hc1 (by omega)
      have hTx := fun W (h : Tab W) => Text_calls (codes.getD k 0 ||| x) (by omega) W h
      by_cases hw : nms.getD k [] = wd
      · rw [decide_eq_true hw] at hq1
        have hR := hAk hw
        rw [hKk] at hR
        have hq2 : ((str (textA (codes.getD k 0 ||| x))).toList == s.toList) = decide (textA (codes.getD k 0 ||| x) = bytes s) := by rw [beq_ba, bytes_str]
        have hwr := u32_keep x hpl
        clear hAk hKk hw hc2 hc3
        generalize str (nms.getD k []) = nk at *
        generalize codes.getD k 0 = ck at *
        generalize ck ||| x = g at *
        have hbor2 : bits .or .u32 (ck : Int) (x : Int) = (g : Int) := hbor
        clear hbor
        have HhTx := Lib.hid hTx
        clear hTx
        by_cases ha : (bc && !ok) = true
        · rw [if_pos (.inl ha)] at hR
          subst hR
          rw [Bool.and_eq_true, Bool.not_eq_true'] at ha
          obtain ⟨rfl, rfl⟩ := ha
          clear hq2
          go_wp2_with fail
          refine (HhP.out _ (HT.out.ext (HX.out.alloc _))).mono ?_
          rintro _ w3 ⟨ev, rfl, hev, hx3⟩
          obtain ⟨y0, -⟩ := blk2 hx3
          have HX3 := Lib.hid ((HX.out.alloc _).trans hx3)
          clear hx3
          rw [if_neg (by decide)] at hev
          obtain ⟨tp, p, rfl⟩ := hev
          go_wp2_with fail
          go_ret2
          exact ⟨rfl, HX3.out⟩
        · have ha2 : bc = false ∨ (bc = true ∧ ok = true) := by cases bc <;> cases ok <;> simp at ha <;> simp
          by_cases hb : textA g = bytes s
          · rw [if_neg (fun h => h.elim ha fun h => h hb)] at hR
            subst hR
            rw [decide_eq_true hb] at hq2
            clear hb ha
            generalize str (textA g) = tx at *
            rcases ha2 with rfl | ⟨rfl, rfl⟩
            · go_wp2_with fail
              refine (HhP.out _ (HT.out.ext (HX.out.alloc _))).mono ?_
              rintro _ w3 ⟨ev, rfl, hev, hx3⟩
              obtain ⟨y0, -⟩ := blk2 hx3
              have HX3 := Lib.hid ((HX.out.alloc _).trans hx3)
              clear hx3
              clear hev
              go_wp2_with fail
              refine (HhTx.out _ (HT.out.ext HX3.out)).mono ?_
              rintro _ w4 ⟨rfl, hx4⟩
              replace y0 := hx4.cell y0
              have HX4 := Lib.hid (HX3.out.trans hx4)
              clear hx4
              go_wp2_with fail
              go_ret2
              exact ⟨rfl, HX4.out⟩
            · go_wp2_with fail
              refine (HhP.out _ (HT.out.ext (HX.out.alloc _))).mono ?_
              rintro _ w3 ⟨ev, rfl, hev, hx3⟩
              obtain ⟨y0, -⟩ := blk2 hx3
              have HX3 := Lib.hid ((HX.out.alloc _).trans hx3)
              clear hx3
              replace hev : ev = .nilIface := hev
              subst hev
              go_wp2_with fail
              refine (HhTx.out _ (HT.out.ext HX3.out)).mono ?_
              rintro _ w4 ⟨rfl, hx4⟩
              replace y0 := hx4.cell y0
              have HX4 := Lib.hid (HX3.out.trans hx4)
              clear hx4
              go_wp2_with fail
              go_ret2
              exact ⟨rfl, HX4.out⟩
          · rw [if_pos (.inr hb)] at hR
            subst hR
            rw [decide_eq_false hb] at hq2
            clear hb ha
            generalize str (textA g) = tx at *
            rcases ha2 with rfl | ⟨rfl, rfl⟩
            · go_wp2_with fail
              refine (HhP.out _ (HT.out.ext (HX.out.alloc _))).mono ?_
              rintro _ w3 ⟨ev, rfl, hev, hx3⟩
              obtain ⟨y0, -⟩ := blk2 hx3
              have HX3 := Lib.hid ((HX.out.alloc _).trans hx3)
              clear hx3
              clear hev
              go_wp2_with fail
              refine (HhTx.out _ (HT.out.ext HX3.out)).mono ?_
              rintro _ w4 ⟨rfl, hx4⟩
              replace y0 := hx4.cell y0
              have HX4 := Lib.hid (HX3.out.trans hx4)
              clear hx4
              go_wp2_with fail
              go_ret2
              exact ⟨rfl, HX4.out⟩
            · go_wp2_with fail
              refine (HhP.out _ (HT.out.ext (HX.out.alloc _))).mono ?_
              rintro _ w3 ⟨ev, rfl, hev, hx3⟩
              obtain ⟨y0, -⟩ := blk2 hx3
              have HX3 := Lib.hid ((HX.out.alloc _).trans hx3)
              clear hx3
              replace hev : ev = .nilIface := hev
              subst hev
              go_wp2_with fail
              refine (HhTx.out _ (HT.out.ext HX3.out)).mono ?_
              rintro _ w4 ⟨rfl, hx4⟩
              replace y0 := hx4.cell y0
              have HX4 := Lib.hid (HX3.out.trans hx4)
              clear hx4
              go_wp2_with fail
              go_ret2
              exact ⟨rfl, HX4.out⟩
      · rw [decide_eq_false hw] at hq1
        have hno2 : ∀ j, j < k + 1 → nms.getD j [] ≠ wd := fun j hj => by
          rcases Nat.lt_or_ge j k with h | h
          · exact Hhno.out j h
          · obtain rfl : j = k := by omega
            exact hw
        have Hhno2 := Lib.hid hno2
        clear hno2
        clear hKk hAk hbor hTx hc2 hc3
        generalize str (nms.getD k []) = nk at *
        generalize codes.getD k 0 = ck at *
        go_wp2_with fail
        go_roundw
        case rel => exact ⟨k + 1, by omega, by go_num, HX.out.alloc _, Hhno2.out⟩
        case measure => simp [intOf]; omega
    · obtain rfl : k = 8 := by omega
      have hR := HhN.out Hhno.out
      subst hR
      go_wp2_with fail
      go_ret2
      exact ⟨rfl, HX.out⟩
end L20
end Go.Proofs.YtjgglocabjpmeaaDoor
