import Derived.Test.YtkmhfjnjfghnjaaMq2
/- Layers 1 and 3: the walks of the reference's Put, Get, Print. -/
namespace Go.Proofs.Ytkmhfjnjfghnjaa
open Go.RowKit V
namespace L25
def encO (n : Nat) : List Value := [.int .u8 (n : Int)]
theorem encO_len (n : Nat) : (encO n).length = 1 := rfl
theorem encO_one (s : Nat) : ∀ u ∈ encO s, u.oneCell' = true := by intro u hu; simp [encO] at hu; subst hu; rfl
theorem infoO : (Try.prog.info? 5).map (fun i => (i.zero, i.size, i.bytes)) = some (some (.int .u8 0), 1, 1) := by kernel_rfl
theorem rdO_cell {w : World} {v : Value} {xs : List Nat} (h : Rd w 1 encO v xs) : ∃ a c, v = .slice a xs.length c ∧ xs.length ≤ c ∧ ∀ i, (hi : i < xs.length) → ∃ b o, a = some ⟨b, o, none⟩ ∧ w.cell? ⟨b, o + i, none⟩ = some (.int .u8 (xs[i] : Int)) := by
  obtain ⟨a, c, h1, h2, h3, h4⟩ := h
  refine ⟨a, c, h1, h2, fun i hi => ?_⟩
  obtain ⟨b, o, e, k⟩ := h4 i hi
  exact ⟨b, o, e, by have := k 0 (by simp [encO]); simpa [encO] using this⟩
def dv (x : Nat) : Nat → Nat
  | 0 => x
  | k + 1 => dv x k / 256
def pk (x : Nat) : Nat → List Nat
  | 0 => []
  | k + 1 => pk x k ++ [dv x k % 256]
theorem pk_len (x : Nat) : ∀ k, (pk x k).length = k
  | 0 => rfl
  | k + 1 => by simp [pk, pk_len x k]
def pkn (x n k : Nat) : List Nat := pk x k ++ List.replicate (n - k) 0
theorem pkn_len (x : Nat) {n k : Nat} (h : k ≤ n) : (pkn x n k).length = n := by simp [pkn, pk_len]; omega
theorem pkn_set (x : Nat) {n k : Nat} (h : k < n) : (pkn x n k).set k (dv x k % 256) = pkn x n (k + 1) := by
  unfold pkn
  rw [List.set_append, if_neg (by rw [pk_len]; omega), pk_len, Nat.sub_self, show n - k = (n - (k + 1)) + 1 by omega, List.replicate_succ, List.set_cons_zero]
  simp [pk]
theorem pkn_end (x n : Nat) : pkn x n n = pk x n := by simp [pkn]
theorem dv_bd {x : Nat} (hx : x < 18446744073709551616) : ∀ k, dv x k < 18446744073709551616
  | 0 => hx
  | k + 1 => by have := dv_bd hx k; simp only [dv]; omega
theorem made_byte (n : Nat) : (madeCells (Value.int .u8 0).cells (n * 1)).toList = (List.replicate n 0).flatMap encO := by
  rw [Nat.mul_one]
  apply List.ext_getElem?
  intro i
  rw [show ((List.replicate n 0).flatMap encO) = List.replicate n (Value.int .u8 0) by
    induction n with
    | zero => rfl
    | succ n ih => rw [List.replicate_succ, List.flatMap_cons, ih]; rfl]
  unfold madeCells
  by_cases h : i < n
  · simp [h, Value.cells, Nat.mod_one]
  · simp [h]
theorem cell_own {w : World} {base g n c : Nat} {xs : List Nat} (h : w.ownsRow base 5 1 (.slice (some ⟨g, 0, none⟩) n c) n (xs.flatMap encO)) (hl : xs.length = n) (k : Nat) (hk : k < n) : w.cell? ⟨g, k, none⟩ = some (.int .u8 (xs[k]'(by omega) : Nat)) := by
  subst hl
  obtain ⟨a, c', e, -, h3⟩ := rdO_cell (rd_of_own encO_len h)
  obtain ⟨b, o, e2, h4⟩ := h3 k hk
  obtain ⟨rfl, -, -⟩ := Value.slice.inj e
  simp only [Option.some.injEq, Addr.mk.injEq] at e2
  obtain ⟨rfl, rfl, -⟩ := e2
  rw [Nat.zero_add] at h4
  exact h4
set_option maxRecDepth 100000 in
set_option maxHeartbeats 400000 in
theorem Put_calls (x n : Nat) (hx : x < 18446744073709551616) (h0 : 0 < n) (hn : n ≤ 8) (w : World) :
    Calls Try.prog 109 #[.int .u64 (x : Int), .int .i64 (n : Int)] w fun e w' => ∃ g, e = .returned (.slice (some ⟨g, 0, none⟩) n n) ∧
      w'.ownsRow w.heap.size 5 1 (.slice (some ⟨g, 0, none⟩) n n) n ((pk x n).flatMap encO) ∧ Ext w w' := by
  obtain ⟨i0, hi, hz0, hz1, hz2⟩ := info_parts infoO
  go_enter Try.func109, Try.ntmps109
  go_wp2_with (at_make; refine wpList_make_full _ rfl _ _ 131 rfl w.heap.size 5 i0 (.int .u8 0) 1 Try.underlying131 hi hz0 hz1 _ _ _ _ n rfl rfl (by omega) (by omega) (by rw [hz2]; omega) (by unfold maxLen; omega) (Nat.le_refl _) ?_; intro w1 hown1 hg1; have hE1 := Lib.hid (Ext.grown (Ext.refl w) hg1 (by intro k hk; cases hk)); rw [made_byte] at hown1; have HO1 := Lib.hid hown1; clear hown1 hg1)
  go_loopw [0, 6] (fun xv i wr => ∃ k : Nat, k ≤ n ∧ i = .int .i64 k ∧ xv = .int .u64 (dv x k : Nat) ∧ Ext w wr ∧ wr.ownsRow w.heap.size 5 1 (.slice (some ⟨w.heap.size, 0, none⟩) n n) n ((pkn x n k).flatMap encO)) (fun _ i _ => n - (intOf i).toNat)
  case atStart => exact ⟨0, by omega, rfl, rfl, hE1.out, by have := HO1.out; simpa [pkn, pk] using this⟩
  case round =>
    obtain ⟨k, hk, rfl, rfl, hx1, ho⟩ := hrel
    have HX := Lib.hid hx1
    by_cases hlt : k < n
    · have hln := pkn_len x (n := n) (k := k) (by omega)
      have hoo : wr.ownsRow w.heap.size 5 1 (.slice (some ⟨w.heap.size, 0, none⟩) (pkn x n k).length n) (pkn x n k).length ((pkn x n k).flatMap encO) := by rw [hln]; exact ho
      obtain ⟨g, c, e, -, hgl, hfz⟩ := own_parts hoo (by omega)
      simp only [Value.slice.injEq, Option.some.injEq, Addr.mk.injEq] at e
      obtain ⟨⟨rfl, -⟩, -, -⟩ := e
      have hf := hfz k
      have hst := own_store encO_len hoo k 0 (.int .u8 (dv x k % 256 : Nat)) (dv x k % 256) (by omega) (by omega) rfl
      rw [pkn_set x hlt, Nat.mul_one, Nat.add_zero, hln] at hst
      have hcell := cell_own ho (pkn_len x (by omega)) k hlt
      have hdb := dv_bd hx k
      have hdv : dv x (k + 1) = dv x k / 256 := rfl
      generalize dv x k = y at *
      have hw1 : IntKind.u8.wrap ((y : Int) % 256) = ((y % 256 : Nat) : Int) := by simp [IntKind.wrap, IntKind.signed, IntKind.bits]
      have Hhst := Lib.hid hst
      clear hst
      have Hho := Lib.hid ho
      clear ho
      have Hhoo := Lib.hid hoo
      clear hoo
      have Hhfz := Lib.hid hfz
      clear hfz
      have Hhln := Lib.hid hln
      clear hln
      have Hhdv := Lib.hid hdv
      clear hdv
      clear hx1
      go_wp2_with fail
      refine ⟨⟨k + 1, by omega, by go_num, by rw [Hhdv.out]; simp, HX.out.setCell (by simp only; omega) _, Hhst.out.1⟩, by simp [intOf]; omega⟩
    · obtain rfl : k = n := by omega
      rw [pkn_end] at ho
      have Hho := Lib.hid ho
      clear ho
      clear hx1
      go_wp2_with fail
      go_ret
      exact ⟨_, rfl, Hho.out, HX.out⟩
end L25
end Go.Proofs.Ytkmhfjnjfghnjaa

