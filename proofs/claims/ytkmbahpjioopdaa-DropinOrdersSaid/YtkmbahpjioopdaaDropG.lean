/- Layer 14: the iterator over the map's values. -/
import Derived.Sort.MapsRangeIn
import Derived.Sort.KeysCollected
import Derived.RangeFuncMany
import Derived.RangeFuncLeaves
import Derived.RegionIn
import Derived.Test.YtkmbahpjioopdaaDropF
namespace Go.Proofs.Ytkmbahpjioopdaa
open Go.RowKit Go.Maps Go.Sort Go.Shelf V
attribute [local go_sem] Oper.semAt_some Option.isSome_some
namespace L12
/-- a file's cells: its name, Dir, the slice of its bytes -/
structure FR where
  nm : List UInt8
  dir : Int
  a : Option Addr
  n : Nat
  c : Nat
instance : Inhabited FR := ⟨⟨[], 0, none, 0, 0⟩⟩
def encR (r : FR) : List Value := [.string (str r.nm), .int .i64 r.dir, .slice r.a r.n r.c]
def rV (r : FR) : Value := .agg #[.string (str r.nm), .int .i64 r.dir, .slice r.a r.n r.c]
def PF.r (p : PF) : FR := ⟨p.nm, p.dir, p.a, p.bs.length, p.c⟩
/-- how a file reads: it is held as it is -/
def RF (v : Value) : Option (DataW Value × List MemPlace) :=
  match v with
  | .agg ⟨[.string _, .int .i64 _, .slice _ _ _]⟩ => some (.held v, [])
  | _ => none
theorem RF_rV (r : FR) : RF (rV r) = some (.held (rV r), []) := rfl
theorem RF_inv {v : Value} {y : DataW Value × List MemPlace} (h : RF v = some y) : ∃ r : FR, v = rV r ∧ y = (.held (rV r), []) := by
  unfold RF at h
  split at h
  · rename_i s d a n c
    refine ⟨⟨s.data.toList, d, a, n, c⟩, ?_, ?_⟩
    · simp [rV]
    · simp only [Option.some.injEq] at h
      rw [← h]
      simp [rV]
  · cases h
/-- all have come: the keys, each once, each with its value -/
def AllR (D0 : DataW Value) (xs : List FR) : Prop := ∃ ps : List (List UInt8 × FR), (ps.map (·.1)).Nodup ∧ (∀ x, x ∈ ps.map (·.1) ↔ has D0 (.string x) = true) ∧ (∀ p ∈ ps, ∀ zd, D0.atKey (.string p.1) zd = .held (rV p.2)) ∧ xs = ps.map (·.2) ∧ ps.length ≤ Maps.size D0
set_option maxRecDepth 100000 in
set_option maxHeartbeats 2000000 in
theorem vals1_in (l Bm b nn : Nat) (D0 : DataW Value) (J Jx : List FR → World → Prop)
    (hY : ∀ pre x W, J pre W → pre.length < Maps.size D0 → YieldAt Fence.wide (3 - 1) Try.prog l #[rV x] W fun e W' =>
      (e = .returned (.bool true) ∧ J (pre ++ [x]) W' ∧ KeepsWalks W W') ∨ (e = .returned (.bool false) ∧ Jx (pre ++ [x]) W'))
    (W : World) (hJ : AbidesFrom W.heap.size J) (hm : W.cell? ⟨Bm, 0, none⟩ = some (.map (some b))) (hown : W.ownsMap Try.prog 9 RF b nn D0) (h0 : J [] W) :
    CallsIn Fence.wide 3 Try.prog 40 #[.func (.yield l) #[] #[], .pointer (some ⟨Bm, 0, none⟩)] W fun e W' => (∃ v, e = .returned v) ∧
      ((∃ xs, AllR D0 xs ∧ J xs W') ∨ (∃ pre, True ∧ Jx pre W')) := by
  refine callsIn_of_wp Try.func40 rfl trivial ?_ rfl
  simp only [Try.ntmps40, List.size_toArray, List.length_cons, List.length_nil, Nat.reduceAdd, Nat.reduceSub, Array.replicate_succ, Array.replicate_zero, List.push_toArray, List.append_toArray, List.nil_append, List.cons_append]
  gi_wp2_with (first
    | (gi_at_range; refine wpListIn_range_own _ rfl _ 51 rfl 9 24 (string_keyed Try.underlying9) Try.underlying51 _ b nn _ rfl hown ?_; intro w0 hrg0 hg0 hs0)
    | gi_in)
  go_frame
  gi_loopw [4] (fun _ wr => ∃ (left : Lit → Bool) (cnt : Nat) (ps : List (List UInt8 × FR)), wr.ranges Try.prog 9 RF b W.heap.size nn D0 left cnt ∧ ps.length + cnt ≤ Maps.size D0 ∧ Collected D0 left (ps.map (·.1)) ∧ (∀ p ∈ ps, ∀ zd, D0.atKey (.string p.1) zd = .held (rV p.2)) ∧ J (ps.map (·.2)) wr)
    (fun _ wr => wr.rangeLeft b W.heap.size)
  case atStart =>
    exact ⟨_, _, [], hrg0, by simp, Collected.start D0, by simp, hJ [] W w0 none h0 hg0 (fun r e => by cases e)⟩
  case round =>
    obtain ⟨left, cnt, ps, hrg, hcs, hC, hV, hJs⟩ := hrel
    gi_wp2_with (first
      | (gi_at_next; refine wpListIn_next_ranges _ rfl _ rfl 9 (string_keyed Try.underlying9) RF encStr rV (fun key kl hk => by obtain ⟨x, hx, _⟩ := Maps.keyOf_str Try.underlying9 hk; exact ⟨x, hx⟩) (fun v y hv => by obtain ⟨c, rfl, _⟩ := RF_inv hv; exact ⟨c, rfl⟩) b W.heap.size nn _ _ _ rfl hrg ?_ ?_)
      | gi_in)
    · intro hc0 hl0
      gi_wp2
      go_end0
      exact ⟨⟨_, rfl⟩, .inl ⟨_, ⟨ps, hC.1, fun x => by rw [hC.2 x, hl0]; simp, hV, rfl, by omega⟩, hJs⟩⟩
    · intro x c kl yd yp w2 cnt2 hkey hlk hv hat hrg2 hlt hg2 hs2 hen
      obtain ⟨x', ex, rfl, _⟩ := Maps.keyOf_str Try.underlying9 hkey
      obtain rfl : x = x' := encStr_inj ex
      obtain ⟨c', ec, ez⟩ := RF_inv hv
      obtain rfl : yd = .held (rV c) := by rw [ec]; exact (Prod.mk.inj ez).1
      have hJ2 : J (ps.map (·.2)) w2 := hJ _ wr w2 (some W.heap.size) hJs hg2 (fun r e => by cases e; exact ⟨Nat.le_refl _, hrg.iter_walk⟩)
      have hJ3 : J (ps.map (·.2)) (w2.alloc (.cells #[.string (str c.nm), .int .i64 c.dir, .slice c.a c.n c.c] 24)) := hJ _ w2 _ none hJ2 (World.grownBy_alloc w2 _ none) (fun r e => by cases e)
      have hrg3 := hrg2.alloc (.cells #[.string (str c.nm), .int .i64 c.dir, .slice c.a c.n c.c] 24)
      obtain ⟨fn, tmps, assign, body, hy, hR⟩ := hY (ps.map (·.2)) c _ hJ3 (by simp; omega)
      have HR := Lib.hid hR
      clear hs2 hR
      unfold rV at hen hy
      gi_wp2
      refine HR.out.mono ?_
      have hC2 : Collected D0 (fun z => left z && !z.sameKey (.string x)) ((ps ++ [(x, c)]).map (·.1)) := by simpa using hC.step hlk hat
      have hV2 : ∀ p ∈ ps ++ [(x, c)], ∀ zd, D0.atKey (.string p.1) zd = .held (rV p.2) := fun p hp => (List.mem_append.1 hp).elim (hV p) (fun e => by simp at e; subst e; exact hat)
      rintro e W3 (⟨rfl, hJ4, hk3⟩ | ⟨rfl, hJx3⟩)
      · gi_wp2
        have hrg4 := hrg3.of_walks hk3
        go_roundw
        case rel => exact ⟨_, cnt2, ps ++ [(x, c)], hrg4, by simp; omega, hC2, hV2, by simpa using hJ4⟩
        case measure => rw [hrg4.left_eq, hrg.left_eq]; exact hlt
      · gi_wp2
        refine bodyPost_ret (results_none rfl _ _ _) rfl ?_
        exact ⟨⟨_, rfl⟩, .inr ⟨_, trivial, hJx3⟩⟩
theorem vals_stops (Bm b nn : Nat) (D0 : DataW Value) (w : World) (hBm : Bm < w.heap.size) (hm : w.cell? ⟨Bm, 0, none⟩ = some (.map (some b))) (hown : w.ownsMap Try.prog 9 RF b nn D0) :
    SeqStopsK Fence.wide 3 Try.prog 40 #[.pointer (some ⟨Bm, 0, none⟩)] (fun x : FR => #[rV x]) KeepsWalks (AllR D0) (fun _ => True) (Maps.size D0) w := fun l J Jx W hW hJ _ hY h0 => by
  have hown' : W.ownsMap Try.prog 9 RF b nn D0 := by
    have hbl := hown.lt
    obtain ⟨es, clock, hb, Ft, hs, hD⟩ := hown
    exact ⟨es, clock, (hW.block b hbl).trans hb, Ft, hs, hD⟩
  exact vals1_in l Bm b nn D0 J Jx hY W hJ ((hW.cell (p := ⟨Bm, 0, none⟩) hBm).trans hm) hown' h0
set_option maxHeartbeats 1000000 in
theorem Values_calls (mb : Option Nat) (w : World) :
    Calls Try.prog 25 #[.map mb] w fun e w' => e = .returned (.func (.func 40) #[] #[.pointer (some ⟨w.heap.size, 0, none⟩)]) ∧ w' = w.alloc (.cells #[.map mb] 51) := by
  go_enter Try.func25, Try.ntmps25
  go_wp2_with fail
  go_ret
  exact ⟨rfl, rfl⟩
end L12
end Go.Proofs.Ytkmbahpjioopdaa
