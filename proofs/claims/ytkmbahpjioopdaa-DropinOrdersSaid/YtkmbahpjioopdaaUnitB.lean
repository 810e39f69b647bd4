/- Layer 13: strings.IndexAny and ContainsAny at any text, for a set of ASCII bytes. -/
import Derived.Lib.OthersKept
import Derived.Lib.DecodeN
import Derived.Test.YtkmbahpjioopdaaUnitA
namespace Go.Proofs.Ytkmbahpjioopdaa
open Go.RowKit Go.Shelf V
attribute [local go_sem] Oper.semAt_some Option.isSome_some
namespace L12
theorem get_pos (s : ByteArray) (j : Nat) (h : j < s.size) : s.get! j = s[j]'h := by
  have := get_at s j h
  simpa using this
theorem decode_skip (s : ByteArray) (pos : Nat) (h : pos < s.size) (ha : 128 ≤ (s[pos]'h).toNat) :
    pos + (Utf8.decode s pos).2 ≤ s.size ∧ ∀ (j : Nat) (hj : j < s.size), pos ≤ j → j < pos + (Utf8.decode s pos).2 → 128 ≤ (s[j]'hj).toNat := by
  rw [Lib.decode_at]
  have e0 := get_pos s pos h
  have g1 := fun hh : pos + 1 < s.size => get_pos s (pos + 1) hh
  have g2 := fun hh : pos + 2 < s.size => get_pos s (pos + 2) hh
  have g3 := fun hh : pos + 3 < s.size => get_pos s (pos + 3) hh
  rw [e0]
  have key : ∀ d : Nat, 1 ≤ d → (1 < d → pos + 1 < s.size ∧ 128 ≤ (s.get! (pos + 1)).toNat) → (2 < d → pos + 2 < s.size ∧ 128 ≤ (s.get! (pos + 2)).toNat) → (3 < d → pos + 3 < s.size ∧ 128 ≤ (s.get! (pos + 3)).toNat) → d ≤ 4 →
      pos + d ≤ s.size ∧ ∀ (j : Nat) (hj : j < s.size), pos ≤ j → j < pos + d → 128 ≤ (s[j]'hj).toNat := by
    intro d h0 h1 h2 h3 h4
    refine ⟨?_, ?_⟩
    · by_cases c3 : 3 < d
      · have := (h3 c3).1; omega
      · by_cases c2 : 2 < d
        · have := (h2 c2).1; omega
        · by_cases c1 : 1 < d
          · have := (h1 c1).1; omega
          · omega
    · intro j hj hp hd
      by_cases j0 : j = pos
      · subst j0; exact ha
      by_cases j1 : j = pos + 1
      · subst j1; rw [← g1 hj]; exact (h1 (by omega)).2
      by_cases j2 : j = pos + 2
      · subst j2; rw [← g2 hj]; exact (h2 (by omega)).2
      have j3 : j = pos + 3 := by omega
      subst j3; rw [← g3 hj]; exact (h3 (by omega)).2
  generalize (s.get! (pos + 1)).toNat = b1 at *
  generalize (s.get! (pos + 2)).toNat = b2 at *
  generalize (s.get! (pos + 3)).toNat = b3 at *
  generalize (s[pos]'h).toNat = b0 at *
  unfold Lib.decodeN
  rw [if_neg (by omega)]
  split
  · split
    · exact key 2 (by omega) (fun _ => by omega) (fun hh => by omega) (fun hh => by omega) (by omega)
    · exact key 1 (by omega) (fun hh => by omega) (fun hh => by omega) (fun hh => by omega) (by omega)
  split
  · split
    · exact key 3 (by omega) (fun _ => by omega) (fun hh => by omega) (fun hh => by omega) (by omega)
    · exact key 1 (by omega) (fun hh => by omega) (fun hh => by omega) (fun hh => by omega) (by omega)
  split
  · split
    · exact key 4 (by omega) (fun _ => by omega) (fun hh => by omega) (fun hh => by omega) (by omega)
    · exact key 1 (by omega) (fun hh => by omega) (fun hh => by omega) (fun hh => by omega) (by omega)
  exact key 1 (by omega) (fun hh => by omega) (fun hh => by omega) (fun hh => by omega) (by omega)
theorem ext_iterAt {a W : World} (h : Ext a W) {k : Nat} (hk : a.heap.size ≤ k) (s : ByteArray) (pos : Nat) : Ext a (W.iterAt k s pos) :=
  h.grown (grownBy_putObj' W k (.stringIter s pos)) (fun r e => by cases e; exact hk)
theorem NoAny.skip {s : ByteArray} {chars : List UInt8} {i d : Nat} (h : Lib.NoAny s.data.toList chars i) (hc : asciiL chars) (hd : ∀ (j : Nat) (hj : j < s.size), i ≤ j → j < i + d → 128 ≤ (s[j]'hj).toNat) : Lib.NoAny s.data.toList chars (i + d) := by
  intro j b hj hb
  by_cases hji : j < i
  · exact h j b hji hb
  have hlt : j < s.size := by
    obtain ⟨hh, _⟩ := List.getElem?_eq_some_iff.1 hb
    exact hh
  have hbe : b = s[j]'hlt := by
    have := Lib.data_getElem? s j hlt
    rw [hb] at this
    exact Option.some.inj this
  have h1 := hd j hlt (by omega) hj
  rw [← hbe] at h1
  rw [Bool.eq_false_iff]
  intro hm
  rw [List.contains_iff_mem] at hm
  have := hc b hm
  omega
set_option maxRecDepth 100000 in
set_option maxHeartbeats 2000000 in
theorem idxAny_short (s chars : ByteArray) (h2 : 2 ≤ chars.size) (hcs : chars.size ≤ 1000000) (ha : asciiL (bytes chars)) (h8 : s.size ≤ 8) (w : World) :
    Calls Try.prog 85 #[.string s, .string chars] w fun e w' => e = .returned (.int .i64 (Lib.indexAny (bytes s) (bytes chars))) ∧ Ext w w' := by
  have hemp : chars.toList.isEmpty = false := by
    rw [Lib.toList_data]
    cases h : chars.data.toList with
    | nil => have := Lib.size_eq chars; rw [h, List.length_nil] at this; omega
    | cons _ _ => rfl
  have hn1 : ((chars.size : Int) == 1) = false := beq_eq_false_iff_ne.2 (by omega)
  have h8z : decide ((8 : Int) < (s.size : Int)) = false := decide_eq_false (by omega)
  have hS := fun W => Try.strings_shouldUseASCIISet (s.size : Int) W
  rw [h8z] at hS
  have HhS := Lib.hid hS
  clear hS
  have Hha := Lib.hid ha
  clear ha
  clear h8z
  go_enter Try.func85, Try.ntmps85
  go_wp2_with fail
  refine (HhS.out _).mono ?_
  rintro e w1 ⟨rfl, rfl⟩
  go_wp2_with fail
  go_loopg [9, 10] s.size (fun g _ _ wr => ∃ wx : World, wx = wr ∧ ∃ i : Nat, s.size = i + g ∧ Ext w1 wx ∧ wx.heap[w1.heap.size]? = some (.stringIter s i) ∧ Lib.NoAny s.data.toList chars.data.toList i)
  case atStart => exact ⟨_, rfl, 0, by omega, (Ext.refl w1).alloc _, World.iter_heap w1 s 0, Lib.NoAny.zero _ _⟩
  case round =>
    obtain ⟨wx, rfl, i, hig, hx, hk, hno⟩ := hrel
    have Hhno := Lib.hid hno
    clear hno
    have Hhx := Lib.hid hx
    clear hx
    have hgi : i < s.size → s.size - i = gk := by omega
    have hie' : ¬ i < s.size → i = s.size := by omega
    clear hig
    by_cases hi : i < s.size
    · have hgk := Lib.hid (hgi hi)
      clear hgi hie'
      by_cases hb : (s[i]'hi).toNat < 128
      · have hnx := fun ty => Lib.run_next_ascii_at (P := Try.prog) wx w1.heap.size s i ty hk hi hb
        have hk2 := Lib.iterAt_heap wx w1.heap.size s i (i + 1) hk
        have hx2 := ext_iterAt Hhx.out (Nat.le_refl _) s (i + 1)
        generalize wx.iterAt w1.heap.size s (i + 1) = W2 at hnx hk2 hx2
        have hxl := Lib.data_getElem? s i hi
        generalize s[i]'hi = x at *
        have hI := fun W => Try.strings_IndexRune_ascii chars (x.toNat : Int) W (by omega) (by omega)
        have hback : ((x.toNat : Int)).toNat.toUInt8 = x := by simp
        rw [hback] at hI
        have hcon := Lib.contains_iff_indexByte chars.data.toList x
        generalize Lib.indexByte chars.data.toList x = q at *
        have HhI := Lib.hid hI
        clear hI
        have Hhk2 := Lib.hid hk2
        clear hk2
        have Hhx2 := Lib.hid hx2
        clear hx2
        have Hhxl := Lib.hid hxl
        clear hxl
        cases hin : chars.data.toList.contains x
        · rw [hin] at hcon
          have hlt : ¬ ((0 : Int) ≤ q) := of_decide_eq_false hcon.symm
          clear hcon
          go_wp2_with fail
          refine (HhI.out _).mono ?_
          rintro e w3 ⟨rfl, rfl⟩
          go_wp2_with fail
          go_roundg (s.size - (i + 1))
          case measure => have := hgk.out; omega
          case rel => exact ⟨_, rfl, i + 1, by omega, Hhx2.out, Hhk2.out, Hhno.out.succ Hhxl.out hin⟩
        · rw [hin] at hcon
          have hge : (0 : Int) ≤ q := of_decide_eq_true hcon.symm
          clear hcon
          go_wp2_with fail
          refine (HhI.out _).mono ?_
          rintro e w3 ⟨rfl, rfl⟩
          go_wp2_with fail
          go_ret
          exact ⟨by rw [show Lib.indexAny (bytes s) (bytes chars) = (i : Int) from Lib.indexAny_hit Hhno.out Hhxl.out hin]; rfl, Hhx2.out⟩
      · have hb2 : 128 ≤ (s[i]'hi).toNat := by omega
        have hnx := fun ty => Lib.run_next_any_at (P := Try.prog) wx w1.heap.size s i ty hk hi
        obtain ⟨d1, d2⟩ := decode_high s i hi hb2
        have d3 := decode_le s i
        obtain ⟨d4, d5⟩ := decode_skip s i hi hb2
        have hno2 := NoAny.skip Hhno.out Hha.out d5
        clear d5
        generalize (Utf8.decode s i).1 = r at *
        generalize (Utf8.decode s i).2 = dd at *
        have hk2 := Lib.iterAt_heap wx w1.heap.size s i (i + dd) hk
        have hx2 := ext_iterAt Hhx.out (Nat.le_refl _) s (i + dd)
        generalize wx.iterAt w1.heap.size s (i + dd) = W2 at hnx hk2 hx2
        have hI := fun W => idxRune_high chars hcs Hha.out (r : Int) (by omega) (by omega) W
        have Hhno2 := Lib.hid hno2
        clear hno2
        have HhI := Lib.hid hI
        clear hI
        have Hhk2 := Lib.hid hk2
        clear hk2
        have Hhx2 := Lib.hid hx2
        clear hx2
        go_wp2_with fail
        refine (HhI.out _).mono ?_
        rintro e w3 ⟨rfl, hx3⟩
        have HX3 := Lib.hid hx3
        clear hx3
        go_wp2_with fail
        go_roundg (s.size - (i + dd))
        case measure => have := hgk.out; omega
        case rel => exact ⟨_, rfl, i + dd, by omega, Hhx2.out.trans HX3.out, (HX3.out.block (Array.getElem?_eq_some_iff.1 Hhk2.out).1).trans Hhk2.out, Hhno2.out⟩
    · have hie : i = s.size := hie' hi
      have hnx := fun ty => Lib.run_next_end_at (P := Try.prog) wx w1.heap.size s i ty hk hi
      have Hhk := Lib.hid hk
      clear hk
      have Hhie := Lib.hid hie
      clear hie
      clear hgi hie'
      go_wp2_with fail
      go_ret
      exact ⟨by rw [show Lib.indexAny (bytes s) (bytes chars) = -1 from Lib.indexAny_none (by rw [← Lib.size_eq, ← Hhie.out]; exact Hhno.out)]; rfl, Hhx.out⟩
theorem containsAny_calls (s chars : ByteArray) (h2 : 2 ≤ chars.size) (hcs : chars.size ≤ 1000000) (ha : asciiL (bytes chars)) (hs : s.size ≤ 4000000000) (w : World) :
    Calls Try.prog 74 #[.string s, .string chars] w fun e w' => e = .returned (.bool (Lib.containsAny (bytes s) (bytes chars))) ∧ Ext w w' := by
  have hI : ∀ W, Calls Try.prog 85 #[.string s, .string chars] W fun e w' => e = .returned (.int .i64 (Lib.indexAny (bytes s) (bytes chars))) ∧ Ext W w' := by
    intro W
    by_cases h8 : s.size ≤ 8
    · exact idxAny_short s chars h2 hcs ha h8 W
    · refine (Try.strings_IndexAny_long ((by exact (zero_of_info (P := Try.prog) (v := .agg (Array.replicate 256 (.bool false))) (n := 256) (by kernel_rfl)).1)) s chars W h2 (by omega) (by omega) (by omega) (fun j b hb => ha b (List.mem_of_getElem? hb))).mono ?_
      · rintro e w' ⟨rfl, rfl⟩
        exact ⟨rfl, ((Ext.refl _).alloc _).alloc _⟩
  unfold Lib.containsAny
  generalize Lib.indexAny (bytes s) (bytes chars) = q at *
  by_cases hq : (0 : Int) ≤ q
  all_goals
    have HhI := Lib.hid hI
    clear hI
    go_enter Try.func74, Try.ntmps74
    go_wp2_with fail
    refine (HhI.out _).mono ?_
    rintro e w1 ⟨rfl, hx⟩
    go_wp2_with fail
    go_ret
    exact ⟨by simp [hq], hx⟩
end L12
end Go.Proofs.Ytkmbahpjioopdaa
