/- Layer 24: the walk of Build. -/
import Derived.Test.YtaclndhenhjjaaaTreeE
namespace Go.Proofs.Ytaclndhenhjjaaa
open Go.RowKit V
namespace L24
open L23
theorem grow_calls (Bt Bg base : Nat) (hBt : Bt < base) (hBg : Bg < base) (hne : Bg ≠ Bt) : ∀ (m : Nat) (l : List Span) (v u : Value) (out : List Node) (w : World), l.length ≤ m → 0 < l.length → l.length ≤ 1000 → out.length + 2 * l.length ≤ 100000 → base ≤ w.heap.size →
    Boxed w Bt 44 u → Boxed w Bg 64 (growF Bt Bg) → OwnN w base u out → (∀ s ∈ l, OkS s) → (∀ W, Keep (Kp base Bt) w W → Rd W 3 encS v l) →
    Calls Try.prog 38 #[v, .pointer (some ⟨Bt, 0, none⟩), .pointer (some ⟨Bg, 0, none⟩)] w (GrowPost base Bt (out ++ tre l out.length) w) := by
  intro m
  induction m with
  | zero => intro l v u out w h1 h2; omega
  | succ m ih =>
    intro l v u out w h1 h2 h3 h4 h5 bt bg ho hok hR
    by_cases h : l.length = 1
    · exact grow_one Bt Bg base hBt l v u out w h (by omega) h5 bt ho (hR w (Keep.refl _ _))
    · exact grow_more Bt Bg base hBt hBg hne l v u out w (by omega) h3 h4 h5 bt bg ho hok hR (fun l' v u out w a1 a2 a3 a4 a5 a6 a7 a8 a9 => ih l' v u out w (by omega) a2 (by omega) a3 a4 a5 a6 a7 a8 a9)
theorem rd_kept {α : Type} {w W : World} {n : Nat} {enc : α → List Value} {v : Value} {xs : List α} (h : Rd w n enc v xs) (hk : ∀ k, k < w.heap.size → W.heap[k]? = w.heap[k]?) : Rd W n enc v xs := by
  obtain ⟨a, c, h1, h2, h3, h4⟩ := h
  refine ⟨a, c, h1, h2, h3, fun i hi => ?_⟩
  obtain ⟨b, o, e, hat⟩ := h4 i hi
  refine ⟨b, o, e, fun j hj => ?_⟩
  have := hat j hj
  rw [World.cell?_of_block (w := w) (hk b (World.block_lt_of_cell? _ _ this))]
  exact this
set_option maxRecDepth 100000 in
set_option maxHeartbeats 1000000 in
theorem Build_calls (v : Value) (l : List Span) (hl : l.length ≤ 1000) (hok : ∀ s ∈ l, OkS s) (w : World) (hv : Rd w 3 encS v l) :
    Calls Try.prog 25 #[v] w fun e w' => ∃ u, e = .returned (.tuple #[u, .int .i64 (buildA l).2]) ∧ Ext w w' ∧ OwnN w' w.heap.size u (buildA l).1 := by
  have hWh := Whole_calls v l (by omega) hok w hv
  cases hw : whole l
  case false =>
    have hA : buildA l = ([], 240) := by unfold buildA; rw [hw]; rfl
    rw [hA]
    rw [hw] at hWh
    have HhWh := Lib.hid hWh
    clear hWh
    have Hhw := Lib.hid hw
    clear hw
    have HhA := Lib.hid hA
    clear hA
    go_enter Try.func25, Try.ntmps25
    go_wp2_with (go_at_call 19; refine HhWh.out.mono ?_; rintro e w1 ⟨rfl, hx1⟩)
    go_ret2
    exact ⟨_, rfl, hx1, World.ownsRow_nil _ _ _ _⟩
  case true =>
    have hA : buildA l = (tre l 0, 0) := by unfold buildA; rw [hw]; rfl
    have hp := whole_pos hw
    rw [hA]
    rw [hw] at hWh
    have HhWh := Lib.hid hWh
    clear hWh
    have Hhw := Lib.hid hw
    clear hw
    have HhA := Lib.hid hA
    clear hA
    go_enter Try.func25, Try.ntmps25
    go_wp2_with (go_at_call 19; refine HhWh.out.mono ?_; rintro e w1 ⟨rfl, hx1⟩)
    have b1 := Boxed.new w1 44 (.slice none 0 0)
    have b2 := Boxed.new (w1.alloc (.cells #[.slice none 0 0] 44)) 64 (growF w1.heap.size (w1.heap.size + 1))
    rw [World.size_alloc] at b2
    replace b1 := b1.alloc (.cells #[growF w1.heap.size (w1.heap.size + 1)] 64)
    have hE0 : Ext w1 ((w1.alloc (.cells #[.slice none 0 0] 44)).alloc (.cells #[growF w1.heap.size (w1.heap.size + 1)] 64)) := ((Ext.refl w1).alloc _).alloc _
    have hsz0 : ((w1.alloc (.cells #[.slice none 0 0] 44)).alloc (.cells #[growF w1.heap.size (w1.heap.size + 1)] 64)).heap.size = w1.heap.size + 2 := by simp
    unfold growF at b1 b2 hE0 hsz0
    generalize ((w1.alloc (.cells #[.slice none 0 0] 44)).alloc _) = W0 at *
    have hv1 := hv.ext hx1
    refine (grow_calls w1.heap.size (w1.heap.size + 1) (w1.heap.size + 2) (by omega) (by omega) (by omega) l.length l v (.slice none 0 0) [] W0 (Nat.le_refl _) hp hl (by simp; omega) (by omega) b1 b2 (World.ownsRow_nil _ _ _ _) hok
      (fun W hW => rd_kept hv1 (fun k hk => (hW.block k ⟨by omega, by omega⟩).trans (hE0.block hk)))).mono ?_
    rintro e w2 ⟨rfl, u, bu, hu, hk⟩
    have cu := bu.cell
    have HX2 := Lib.hid (hx1.trans (Below.trans hE0 (hk.below (fun k hk => ⟨by omega, by omega⟩))))
    have HU := Lib.hid (hu.base (base' := w.heap.size) (by have := hx1.size; omega))
    clear hk hu bu hE0 b1 b2 hsz0
    go_wp2_with fail
    go_ret2
    exact ⟨_, rfl, HX2.out, by simpa using HU.out⟩
end L24
end Go.Proofs.Ytaclndhenhjjaaa
