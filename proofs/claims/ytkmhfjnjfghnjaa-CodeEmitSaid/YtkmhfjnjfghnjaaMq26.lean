import Derived.Test.YtkmhfjnjfghnjaaMq3
import Derived.Test.YtkmhfjnjfghnjaaMq25
import Derived.Test.YtkmhfjnjfghnjaaMq14
import Derived.Test.YtkmhfjnjfghnjaaMq18
/- Layer 25: the walks of arch.Token, slices.Contains, arch.All in this seat (the texts of layer 8, their imports turned). -/
namespace Go.Proofs.Ytkmhfjnjfghnjaa
open Go.RowKit V
namespace L25A
open L08 L25
def nmE (k : Nat) : ByteArray := ⟨(anames.getD k []).toArray⟩
theorem idx_table (i : Nat) (h : i < 6) (w : World) : (Instr.index 137 (.agg tableV) (.int .i64 (i : Int))).run Try.prog w = .ok (.agg #[.string (nmE i), .int .u32 (toks.getD i 0 : Nat)]) w := by
  rw [run_index_arr (n := 6) (sz := 2) Try.underlying137 Try.underlying124 (by kernel_rfl) _ i h]
  rcases lt6 i h with rfl | rfl | rfl | rfl | rfl | rfl <;> rfl
set_option maxRecDepth 100000 in
theorem field_nm (nm : ByteArray) (tk : Int) (w : World) : (Instr.field 124 (.agg #[.string nm, .int .u32 tk]) 0).run Try.prog w = .ok (.string nm) w := by rfl
set_option maxRecDepth 100000 in
theorem field_tk (nm : ByteArray) (tk : Int) (w : World) : (Instr.field 124 (.agg #[.string nm, .int .u32 tk]) 1).run Try.prog w = .ok (.int .u32 tk) w := by rfl
def tokA (a : Int) : Nat × Int := if 0 ≤ a ∧ a < 6 then (toks.getD a.toNat 0, 0) else (0, 80)
set_option maxRecDepth 100000 in
set_option maxHeartbeats 400000 in
theorem Token_calls (a : Int) (w : World) :
    Calls Try.prog 67 #[.int .i64 a] w fun e w' => e = .returned (.tuple #[.int .u32 ((tokA a).1 : Nat), .int .i64 (tokA a).2]) ∧ Ext w w' := by
  by_cases h0 : a < 0
  · have hA : tokA a = (0, 80) := by unfold tokA; rw [if_neg (by omega)]
    have hd : decide (a < 0) = true := decide_eq_true h0
    rw [hA]
    have HhA := Lib.hid hA
    clear hA
    have Hh0 := Lib.hid h0
    clear h0
    go_enter Try.func67, Try.ntmps67
    go_wp2
    go_ret2
    exact ⟨rfl, Ext.refl _⟩
  have hd : decide (a < 0) = false := decide_eq_false h0
  by_cases h1 : 6 ≤ a
  · have hA : tokA a = (0, 80) := by unfold tokA; rw [if_neg (by omega)]
    have hd1 : decide (6 ≤ a) = true := decide_eq_true h1
    rw [hA]
    have HhA := Lib.hid hA
    clear hA
    have Hh0 := Lib.hid h0
    clear h0
    have Hh1 := Lib.hid h1
    clear h1
    go_enter Try.func67, Try.ntmps67
    go_wp2
    go_ret2
    exact ⟨rfl, Ext.refl _⟩
  have hd1 : decide (6 ≤ a) = false := decide_eq_false h1
  have hA : tokA a = (toks.getD a.toNat 0, 0) := by unfold tokA; rw [if_pos (by omega)]
  obtain ⟨i, rfl⟩ := Int.eq_ofNat_of_zero_le (by omega : 0 ≤ a)
  rw [Int.toNat_natCast] at hA
  have hidx := idx_table i (by omega)
  rw [hA]
  dsimp only
  generalize nmE i = nm at *
  generalize toks.getD i 0 = tk at *
  have hf0 := field_nm nm (tk : Int)
  have hf1 := field_tk nm (tk : Int)
  have HhA := Lib.hid hA
  clear hA
  go_enter Try.func67, Try.ntmps67
  go_wp2_with (go_at_call 97; refine (L08.table_calls _).mono ?_; rintro e w1 ⟨rfl, hx1⟩)
  go_ret2
  exact ⟨rfl, hx1⟩
theorem infoI : (Try.prog.info? 3).map (fun i => (i.zero, i.size, i.bytes)) = some (some (.int .i64 0), 1, 8) := by kernel_rfl
theorem rdI_lit (W : World) (xs : List Int) (t g : Nat) (hg : g = W.heap.size) : Rd (W.alloc (.cells (xs.flatMap encI).toArray t)) 1 encI (.slice (some ⟨g, 0, none⟩) xs.length xs.length) xs := rd_lit encI_len W xs t g hg
/-- the place of the first one that is a number -/
def idxI (a : Int) : List Int → Nat → Int
  | [], _ => -1
  | x :: r, k => if (a == x) = true then (k : Int) else idxI a r (k + 1)
theorem idxI_step {a : Int} {xs : List Int} {k : Nat} (h : k < xs.length) : idxI a (xs.drop k) k = if (a == xs[k]) = true then (k : Int) else idxI a (xs.drop (k + 1)) (k + 1) := by
  rw [List.drop_eq_getElem_cons h]; rfl
theorem idxI_end (a : Int) (xs : List Int) (k : Nat) : idxI a (xs.drop xs.length) k = -1 := by rw [List.drop_length]; rfl
theorem idxI_mem (a : Int) : ∀ (xs : List Int) (k : Nat), decide (0 ≤ idxI a xs k) = xs.contains a
  | [], k => rfl
  | x :: r, k => by
    unfold idxI
    rw [List.contains_cons]
    cases h : a == x
    · rw [if_neg (by simp), idxI_mem a r (k + 1)]; rfl
    · rw [if_pos rfl]; simp
set_option maxRecDepth 100000 in
set_option maxHeartbeats 400000 in
theorem IndexI_calls (v : Value) (xs : List Int) (a : Int) (hl : xs.length ≤ 140737488351232) (w : World) (hv : Rd w 1 encI v xs) :
    Calls Try.prog 96 #[v, .int .i64 a] w fun e w' => e = .returned (.int .i64 (idxI a xs 0)) ∧ Ext w w' := by
  obtain ⟨ad, c, rfl, hac, hca⟩ := rdI_cell hv
  clear hv
  have Hhca := Lib.hid hca
  clear hca
  go_enter Try.func96, Try.ntmps96
  go_wp2
  go_loopw [8] (fun i wr => ∃ k : Nat, k ≤ xs.length ∧ i = .int .i64 k ∧ Ext w wr ∧ idxI a xs 0 = idxI a (xs.drop k) k) (fun i _ => xs.length - (intOf i).toNat)
  case atStart => exact ⟨0, by omega, rfl, Ext.refl _, rfl⟩
  case round =>
    obtain ⟨k, hk, rfl, hx, heq⟩ := hrel
    have HX := Lib.hid hx
    by_cases hlt : k < xs.length
    · obtain ⟨b, o, rfl, h1⟩ := Hhca.out k hlt
      replace h1 := hx.cell h1
      rw [idxI_step hlt] at heq
      clear hx
      generalize xs[k] = x at *
      cases he : a == x
      · rw [he, if_neg (by simp)] at heq
        have Hheq := Lib.hid heq
        clear heq
        go_wp2_with (go_quiet (fail))
        go_roundw
        case rel => exact ⟨k + 1, by omega, by go_num, (by repeat (first | exact HX.out | apply Ext.drewN | apply Ext.alloc | apply Ext.drew)), Hheq.out⟩
        case measure => simp [intOf]; omega
      · rw [he, if_pos rfl] at heq
        have Hheq := Lib.hid heq
        clear heq
        go_wp2_with (go_quiet (fail))
        go_ret
        exact ⟨by rw [Hheq.out]; rfl, (by repeat (first | exact HX.out | apply Ext.drewN | apply Ext.alloc | apply Ext.drew))⟩
    · obtain rfl : k = xs.length := by omega
      rw [idxI_end] at heq
      have Hheq := Lib.hid heq
      clear heq
      clear hx
      go_wp2
      go_ret
      exact ⟨by rw [Hheq.out]; rfl, HX.out⟩
theorem ContainsI_calls (v : Value) (xs : List Int) (a : Int) (hl : xs.length ≤ 140737488351232) (w : World) (hv : Rd w 1 encI v xs) :
    Calls Try.prog 65 #[v, .int .i64 a] w fun e w' => e = .returned (.bool (xs.contains a)) ∧ Ext w w' := by
  have hI := IndexI_calls v xs a hl w hv
  have hm := idxI_mem a xs 0
  rw [← hm]
  generalize idxI a xs 0 = q at *
  obtain ⟨ad, c, rfl, -⟩ := rdI_cell hv
  have Hhm := Lib.hid hm
  clear hm
  have HhI := Lib.hid hI
  clear hI
  go_enter Try.func65, Try.ntmps65
  go_wp2_with (go_at_call 96; refine HhI.out.mono ?_; rintro e w1 ⟨rfl, hx1⟩)
  go_ret
  exact ⟨rfl, hx1⟩
set_option maxRecDepth 100000 in
set_option maxHeartbeats 400000 in
theorem All_calls (w : World) :
    Calls Try.prog 66 #[] w fun e w' => ∃ g c, e = .returned (.slice (some ⟨g, 0, none⟩) 6 c) ∧ Ext w w' ∧ (∃ cur, w'.heap[g]? = some (.cells cur 3 (0, 0))) ∧ ∀ i, i < 6 → w'.cell? ⟨g, i, none⟩ = some (.int .i64 (i : Int)) := by
  go_enter Try.func66, Try.ntmps66
  go_wp2
  go_loopw [1, 3] (fun u i wr => ∃ k : Nat, k ≤ 6 ∧ i = .int .i64 k ∧ Ext w wr ∧ ∃ a c, u = .slice a k c ∧ wr.ownsRow w.heap.size 3 1 (.slice a k c) k (((List.range k).map fun j : Nat => (j : Int)).flatMap encI)) (fun _ i _ => 6 - (intOf i).toNat)
  case atStart => exact ⟨0, by omega, rfl, Ext.refl _, none, 0, rfl, World.ownsRow_nil _ _ _ _⟩
  case round =>
    obtain ⟨k, hk, rfl, hx, a, c, rfl, hown⟩ := hrel
    have HX := Lib.hid hx
    have HO := Lib.hid hown
    clear hx
    by_cases hlt : k < 6
    · have hlr : ((List.range k).map fun j : Nat => (j : Int)).length = k := by simp
      have hl2 : ((List.range k).map fun j : Nat => (j : Int)).length + [(k : Int)].length = k + 1 := by simp
      have hr2 : (((List.range k).map fun j : Nat => (j : Int)) ++ [(k : Int)]) = ((List.range (k + 1)).map fun j : Nat => (j : Int)) := by rw [List.range_succ]; simp
      have Hhlr := Lib.hid hlr
      clear hlr
      have Hhr2 := Lib.hid hr2
      clear hr2
      clear hown
      go_wp2_with (at_builtin; refine wpList_app_rd rfl (.tmp 6) (.tmp 8) _ rfl Try.underlying61 infoI rfl (by decide) encI_len encI_one w _ _ ((List.range k).map fun j : Nat => (j : Int)) [(k : Int)] rfl rfl (by rw [Hhlr.out]; exact World.ownsRow.alloc HO.out _) (rdI_lit _ [(k : Int)] _ _ rfl) (by rw [hl2]; omega) (by decide) (by repeat (first | exact HX.out | apply Ext.alloc)) ?_; intro a2 c2 w2 ho2 hx2; rw [hl2, Hhr2.out] at ho2; rw [hl2])
      go_roundw
      case rel => exact ⟨k + 1, by omega, by go_num, hx2, a2, c2, rfl, ho2⟩
      case measure => simp [intOf]; omega
    · obtain rfl : k = 6 := by omega
      clear hown
      go_wp2
      go_ret
      have hrd := rd_of_own (n := 1) (enc := encI) (xs := (List.range 6).map fun j : Nat => (j : Int)) encI_len (by simpa using HO.out)
      obtain ⟨g, c', e, -, h4⟩ := rdI_cell hrd
      simp only [Value.slice.injEq] at e
      obtain ⟨rfl, -, rfl⟩ := e
      obtain ⟨b, o, rfl, -⟩ := h4 0 (by simp)
      have hb0 : o = 0 := by
        rcases HO.out.2 with ⟨hv, _⟩ | ⟨g, cap, cur, hv, _⟩
        · cases hv
        · simp only [Value.slice.injEq, Option.some.injEq, Addr.mk.injEq] at hv; exact hv.1.2.1
      subst hb0
      refine ⟨b, c, rfl, HX.out, L21.own_typed HO.out b rfl, fun i hi => ?_⟩
      obtain ⟨b', o', e', h5⟩ := h4 i (by simpa using hi)
      obtain ⟨rfl, rfl⟩ : b = b' ∧ 0 = o' := by simpa using e'
      rw [Nat.zero_add] at h5
      simpa using h5
end L25A
end Go.Proofs.Ytkmhfjnjfghnjaa

/- Layer 25: plain: what Guard writes down, by which architectures are asked for. -/
namespace Go.Proofs.Ytkmhfjnjfghnjaa
open Go.RowKit V
namespace L25G
open L25 (Sy)
open L08 (toks)
/-- is an architecture asked for in the chain? m: is it in the list? -/
def inCh (m : Nat → Bool) (a : Nat) : Bool := m a && ((a != 0 && a != 2) || ((m 0 && m 2) && a == 0))
def tokN (a : Nat) : Nat := toks.getD a 0
def chain (m : Nat → Bool) (k : Nat) : List Nat := ((List.range k).filter (inCh m)).map tokN
def lastA (m : Nat → Bool) : Nat → Int
  | 0 => -1
  | k + 1 => if (m k && ((k == 0 || k == 2) && !(m 0 && m 2))) = true then (k : Int) else lastA m k
theorem chain_succ (m : Nat → Bool) (k : Nat) : chain m (k + 1) = chain m k ++ if inCh m k = true then [tokN k] else [] := by
  unfold chain
  rw [List.range_succ, List.filter_append, List.map_append]
  congr 1
  cases h : inCh m k <;> simp [h]
theorem chain_len (m : Nat → Bool) (k : Nat) : (chain m k).length ≤ k := by
  unfold chain
  rw [List.length_map]
  exact Nat.le_trans (List.length_filter_le _ _) (by simp)
/-- the row ahead of the end -/
def head_ (ks : List Nat) : List Sy := ⟨32, 4, 0, 0⟩ :: ks.map fun t => ⟨21, t, 0, 0⟩
theorem head_app (ks : List Nat) (t : Nat) : head_ (ks ++ [t]) = head_ ks ++ [⟨21, t, 0, 0⟩] := by simp [head_]
theorem head_len (ks : List Nat) : (head_ ks).length = ks.length + 1 := by simp [head_]
end L25G
end Go.Proofs.Ytkmhfjnjfghnjaa

