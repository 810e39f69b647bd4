/- Layer 7: the walk of the reference's table of codes. (Printed by wip/tools/mkasml.py.) -/
import Derived.Test.YtbpmokffhmiacaaGreatDoorAsmK
namespace Go.Proofs.YtbpmokffhmiacaaGreatDoor
open Go.RowKit Go.Shelf Go.Sort V
attribute [local go_sem] Oper.semAt_some
namespace L07
def encEn (e : En) : List Value := [.int .u16 (e.c : Int), .string (str e.nm), .int .u8 (e.cl : Int)]
theorem encEn_len (e : En) : (encEn e).length = 3 := rfl
theorem encEn_one (e : En) : ∀ u ∈ encEn e, u.oneCell' = true := by intro u hu; simp [encEn] at hu; rcases hu with rfl | rfl | rfl <;> rfl
def numsN : List (List UInt8) := [[97, 100, 100], [115, 117, 98], [109, 117, 108], [100, 105, 118], [111, 114], [97, 110, 100], [108, 115, 104], [114, 115, 104]]
def jmpsN : List (List UInt8) := [[106, 101, 113], [106, 103, 116], [106, 103, 101], [106, 115, 101, 116]]
theorem tabR_nums : ∀ k, k < 8 → tabR.take (15 + 2 * k + 2) = tabR.take (15 + 2 * k) ++ [⟨16 * k + 4, numsN[k]?.getD [], 3⟩] ++ [⟨16 * k + 12, numsN[k]?.getD [] ++ [120], 3⟩] := by decide +kernel
theorem tabR_xor : tabR.take 33 = tabR.take 31 ++ [⟨164, [120, 111, 114], 3⟩] ++ [⟨172, [120, 111, 114, 120], 3⟩] := by decide +kernel
theorem tabR_jmps : ∀ k, k < 4 → tabR.take (33 + 2 * k + 2) = tabR.take (33 + 2 * k) ++ [⟨16 * k + 21, jmpsN[k]?.getD [], 4⟩] ++ [⟨16 * k + 29, jmpsN[k]?.getD [] ++ [120], 4⟩] := by decide +kernel
theorem tabR_len : tabR.length = 41 := by decide +kernel
theorem take_len (n : Nat) (h : n ≤ 41) : (tabR.take n).length = n := by rw [List.length_take, tabR_len]; omega
theorem nums_len : ∀ k, k < 8 → (numsN[k]?.getD []).length ≤ 4 := by decide +kernel
theorem jmps_len : ∀ k, k < 4 → (jmpsN[k]?.getD []).length ≤ 4 := by decide +kernel
def baseV : Array Value := #[.int .u16 32, .string ⟨#[108, 100, 97, 98, 115]⟩, .int .u8 1, .int .u16 128, .string ⟨#[108, 100, 108, 101, 110]⟩, .int .u8 1, .int .u16 0, .string ⟨#[108, 100, 105]⟩, .int .u8 1, .int .u16 96, .string ⟨#[108, 100, 109]⟩, .int .u8 1, .int .u16 129, .string ⟨#[108, 100, 120, 108, 101, 110]⟩, .int .u8 1, .int .u16 1, .string ⟨#[108, 100, 120, 105]⟩, .int .u8 1, .int .u16 97, .string ⟨#[108, 100, 120, 109]⟩, .int .u8 1, .int .u16 2, .string ⟨#[115, 116]⟩, .int .u8 2, .int .u16 3, .string ⟨#[115, 116, 120]⟩, .int .u8 2, .int .u16 132, .string ⟨#[110, 101, 103]⟩, .int .u8 3, .int .u16 5, .string ⟨#[106, 97]⟩, .int .u8 4, .int .u16 6, .string ⟨#[114, 101, 116]⟩, .int .u8 5, .int .u16 22, .string ⟨#[114, 101, 116, 97]⟩, .int .u8 5, .int .u16 7, .string ⟨#[116, 97, 120]⟩, .int .u8 6, .int .u16 135, .string ⟨#[116, 120, 97]⟩, .int .u8 6]
theorem baseV_eq : baseV = ((tabR.take 15).flatMap encEn).toArray := rfl
/-- the table's own row, a row of names beside it -/
structure RA (w : World) (B : Nat) (V : Array Value) (W : World) : Prop where
  ext : Ext w W
  nm : W.heap[B]? = some (.cells V 9 (0, 0))
structure RB (w : World) (B : Nat) (V : Array Value) (l : List En) (v : Value) (W : World) : Prop extends RA w B V W where
  own : W.ownsRow w.heap.size 49 3 v l.length (l.flatMap encEn)
theorem RB.alloc {w : World} {B : Nat} {V : Array Value} {l : List En} {v : Value} {W : World} (h : RB w B V l v W) (o : Obj) : RB w B V l v (W.alloc o) :=
  ⟨⟨h.ext.alloc o, (Below.heap_alloc _ _ _ (Array.getElem?_eq_some_iff.1 h.nm).1).trans h.nm⟩, World.ownsRow.alloc h.own o⟩
theorem RB.app {w : World} {B : Nat} {V : Array Value} {l : List En} {v v5 : Value} {W W5 : World} {e : En} {k : Nat} (h : RB w B V l v W) (hg : W.grownBy W5 v.ownBlock) (hk : k = l.length + 1)
    (ho : W5.ownsRow w.heap.size 49 3 v5 k ((l ++ [e]).flatMap encEn)) : RB w B V (l ++ [e]) v5 W5 := by
  subst hk
  refine ⟨⟨h.ext.grown hg (fun k e => (h.own.lt k e).1), (hg.block _ (Array.getElem?_eq_some_iff.1 h.nm).1 (fun e => own_not h.own h.nm (by decide) e.symm)).trans h.nm⟩, ?_⟩
  rw [List.length_append]; exact ho
theorem infoEn : (Tryz.prog.info? 49).map (fun i => (i.zero, i.size, i.bytes)) = some (some (.agg #[.int .u16 0, .string ⟨#[]⟩, .int .u8 0]), 3, 32) := by kernel_rfl
set_option maxRecDepth 100000 in
set_option maxHeartbeats 8000000 in
theorem All_calls (w : World) : Calls Tryz.prog 35 #[] w fun e w' => ∃ v, e = .returned v ∧ Ext w w' ∧ Rd w' 3 encEn v tabR := by
  go_enter Tryz.func35, Tryz.ntmps35
  go_wp2_with fail
  have h0 : RB w (w.heap.size + 1) #[.string ⟨#[97, 100, 100]⟩, .string ⟨#[115, 117, 98]⟩, .string ⟨#[109, 117, 108]⟩, .string ⟨#[100, 105, 118]⟩, .string ⟨#[111, 114]⟩, .string ⟨#[97, 110, 100]⟩, .string ⟨#[108, 115, 104]⟩, .string ⟨#[114, 115, 104]⟩] (tabR.take 15) (.slice (some ⟨w.heap.size, 0, none⟩) 15 15) ((w.alloc (.cells baseV 49)).alloc (.cells #[.string ⟨#[97, 100, 100]⟩, .string ⟨#[115, 117, 98]⟩, .string ⟨#[109, 117, 108]⟩, .string ⟨#[100, 105, 118]⟩, .string ⟨#[111, 114]⟩, .string ⟨#[97, 110, 100]⟩, .string ⟨#[108, 115, 104]⟩, .string ⟨#[114, 115, 104]⟩] 9)) := by
    refine ⟨⟨((Ext.refl w).alloc _).alloc _, ?_⟩, World.ownsRow.alloc (own_lit encEn_len w (tabR.take 15) 49 _ _ rfl (Nat.le_refl _) (by rw [take_len 15 (by omega)]; simp [maxLen])) _⟩
    have := heap_alloc_new (w.alloc (.cells baseV 49)) (.cells #[.string ⟨#[97, 100, 100]⟩, .string ⟨#[115, 117, 98]⟩, .string ⟨#[109, 117, 108]⟩, .string ⟨#[100, 105, 118]⟩, .string ⟨#[111, 114]⟩, .string ⟨#[97, 110, 100]⟩, .string ⟨#[108, 115, 104]⟩, .string ⟨#[114, 115, 104]⟩] 9)
    rw [World.size_alloc] at this; exact this
  unfold baseV at h0
  go_loopw [1, 3] (fun v i wr => ∃ (k : Nat) (a : Option Addr) (c : Nat) (l : List En), v = .slice a l.length c ∧ i = .int .i64 (k : Int) ∧ k ≤ 8 ∧ l = tabR.take (15 + 2 * k) ∧ RB w (w.heap.size + 1) #[.string ⟨#[97, 100, 100]⟩, .string ⟨#[115, 117, 98]⟩, .string ⟨#[109, 117, 108]⟩, .string ⟨#[100, 105, 118]⟩, .string ⟨#[111, 114]⟩, .string ⟨#[97, 110, 100]⟩, .string ⟨#[108, 115, 104]⟩, .string ⟨#[114, 115, 104]⟩] l (.slice a l.length c) wr) (fun _ i _ => 8 - (intOf i).toNat)
  case atStart => exact ⟨0, _, _, tabR.take 15, rfl, rfl, by omega, rfl, h0⟩
  case round =>
    obtain ⟨k, a, c, l, rfl, rfl, hk, hlE, hA⟩ := hrel
    by_cases hlt : k < 8
    · have htab := tabR_nums k hlt
      rw [← hlE] at htab
      have hnl := nums_len k hlt
      have hcell : wr.cell? ⟨w.heap.size + 1, k, none⟩ = some (.string (str (numsN[k]?.getD []))) := by
        have h1 := hA.nm
        have h2 : ∀ k, k < 8 → (#[.string ⟨#[97, 100, 100]⟩, .string ⟨#[115, 117, 98]⟩, .string ⟨#[109, 117, 108]⟩, .string ⟨#[100, 105, 118]⟩, .string ⟨#[111, 114]⟩, .string ⟨#[97, 110, 100]⟩, .string ⟨#[108, 115, 104]⟩, .string ⟨#[114, 115, 104]⟩] : Array Value)[k]? = some (.string (str (numsN[k]?.getD []))) := by
          intro k hk
          match k, hk with
          | 0, _ => rfl
          | 1, _ => rfl
          | 2, _ => rfl
          | 3, _ => rfl
          | 4, _ => rfl
          | 5, _ => rfl
          | 6, _ => rfl
          | 7, _ => rfl
          | j + 8, h => exact absurd h (by omega)
        simp only [World.cell?, h1]
        exact h2 k hlt
      have hll : l.length ≤ 41 := by rw [hlE, List.length_take, tabR_len]; omega
      generalize numsN[k]?.getD [] = nm at *
      obtain ⟨m, hm⟩ : ∃ m : Nat, 16 * k = m := ⟨_, rfl⟩
      rw [hm] at htab
      have hm9 : m ≤ 200 := by omega
      have hwm : IntKind.i64.wrap (16 * (k : Int)) = (m : Int) := by rw [IntWalk.i64_in _ (by omega)]; omega
      obtain ⟨c1, hc1⟩ : ∃ c1 : Nat, m + 4 = c1 := ⟨_, rfl⟩
      obtain ⟨c2, hc2⟩ : ∃ c2 : Nat, m + 12 = c2 := ⟨_, rfl⟩
      rw [hc1, hc2] at htab
      have hw1 : IntKind.i64.wrap ((m : Int) + 4) = (c1 : Int) := by rw [IntWalk.i64_in _ (by omega)]; omega
      have hw2 : IntKind.i64.wrap ((m : Int) + 12) = (c2 : Int) := by rw [IntWalk.i64_in _ (by omega)]; omega
      have hv1 : IntKind.u16.wrap (c1 : Int) = (c1 : Int) := by simp [IntKind.wrap, IntKind.signed, IntKind.bits]; omega
      have hv2 : IntKind.u16.wrap (c2 : Int) = (c2 : Int) := by simp [IntKind.wrap, IntKind.signed, IntKind.bits]; omega
      have hcat : str nm ++ (⟨#[120]⟩ : ByteArray) = str (nm ++ [120]) := by rw [show (⟨#[120]⟩ : ByteArray) = str [120] from rfl, str_app]
      have hsl : (str nm).size ≤ 4 := by rw [str_size]; exact hnl
      have hcell2 : ∀ W', RA w (w.heap.size + 1) #[.string ⟨#[97, 100, 100]⟩, .string ⟨#[115, 117, 98]⟩, .string ⟨#[109, 117, 108]⟩, .string ⟨#[100, 105, 118]⟩, .string ⟨#[111, 114]⟩, .string ⟨#[97, 110, 100]⟩, .string ⟨#[108, 115, 104]⟩, .string ⟨#[114, 115, 104]⟩] W' → W'.cell? ⟨w.heap.size + 1, k, none⟩ = some (.string (str nm)) := fun W' h => by
        rw [← hcell]; simp only [World.cell?, h.nm, hA.nm]
      obtain ⟨n1, hn1⟩ : ∃ n1, l.length + [(⟨c1, nm, 3⟩ : En)].length = n1 := ⟨_, rfl⟩
      obtain ⟨n2, hn2⟩ : ∃ n2, (l ++ [(⟨c1, nm, 3⟩ : En)]).length + [(⟨c2, nm ++ [120], 3⟩ : En)].length = n2 := ⟨_, rfl⟩
      have hn3 : n2 = (l ++ [(⟨c1, nm, 3⟩ : En)] ++ [(⟨c2, nm ++ [120], 3⟩ : En)]).length := by rw [← hn2]; exact List.length_append.symm
      have HA := Lib.hid hA
      have HTB := Lib.hid (show l ++ [(⟨c1, nm, 3⟩ : En)] ++ [⟨c2, nm ++ [120], 3⟩] = tabR.take (15 + 2 * (k + 1)) from by rw [← htab, show 15 + 2 * (k + 1) = 15 + 2 * k + 2 from by omega])
      have Hhn1 := Lib.hid hn1
      clear hn1
      have Hhn2 := Lib.hid hn2
      clear hn2
      have Hhn3 := Lib.hid hn3
      clear hn3
      have Hhcell2 := Lib.hid hcell2
      clear hcell2
      clear hm hc1 hc2 htab hlE hA hnl
      go_wp2_with (first
        | (at_builtin; refine wpList_app_g rfl (.tmp 29) (.tmp 39) 75 rfl Tryz.underlying75 infoEn rfl (by decide) encEn_len encEn_one w.heap.size (.slice a l.length c) _ l [⟨c1, nm, 3⟩] rfl rfl (HA.out.alloc _).own (rd_lit encEn_len wr [(⟨c1, nm, 3⟩ : En)] 49 _ rfl) (by simp; omega) (by decide) (Nat.le_trans HA.out.ext.size (by simp)) ?_; intro au cu w1 ho hg; rw [Hhn1.out] at ho ⊢; have hA1 := (HA.out.alloc _).app hg Hhn1.out.symm ho; have hcell := Hhcell2.out _ hA1.toRA; have HA1 := Lib.hid hA1; clear ho hg hA1)
        | (at_builtin; refine wpList_app_g rfl (.tmp 41) (.tmp 52) 75 rfl Tryz.underlying75 infoEn rfl (by decide) encEn_len encEn_one w.heap.size (.slice au n1 cu) _ (l ++ [⟨c1, nm, 3⟩]) [⟨c2, nm ++ [120], 3⟩] rfl rfl (HA1.out.alloc _).own (rd_lit encEn_len w1 [(⟨c2, nm ++ [120], 3⟩ : En)] 49 _ rfl) (by simp; omega) (by decide) (Nat.le_trans HA1.out.ext.size (by simp)) ?_; intro au2 cu2 w2 ho hg; rw [Hhn2.out] at ho ⊢; have HA2 := Lib.hid ((HA1.out.alloc _).app hg Hhn2.out.symm ho); clear ho hg))
      go_roundw
      case rel => exact ⟨k + 1, au2, cu2, _, by rw [Hhn3.out], by go_num, by omega, HTB.out, by rw [← Hhn3.out]; exact HA2.out⟩
      case measure => simp [intOf]; omega
    · obtain rfl : k = 8 := by omega
      have hA0 := hA
      replace hlE : l = tabR.take 31 := hlE
      have hll : l.length = 31 := by rw [hlE]; exact take_len 31 (by omega)
      obtain ⟨n1, hn1⟩ : ∃ n1, l.length + [(⟨164, [120, 111, 114], 3⟩ : En)].length = n1 := ⟨_, rfl⟩
      obtain ⟨n2, hn2⟩ : ∃ n2, (l ++ [(⟨164, [120, 111, 114], 3⟩ : En)]).length + [(⟨172, [120, 111, 114, 120], 3⟩ : En)].length = n2 := ⟨_, rfl⟩
      have hn3 : n2 = (l ++ [(⟨164, [120, 111, 114], 3⟩ : En)] ++ [(⟨172, [120, 111, 114, 120], 3⟩ : En)]).length := by rw [← hn2]; exact List.length_append.symm
      have hlE2 : l ++ [(⟨164, [120, 111, 114], 3⟩ : En)] ++ [(⟨172, [120, 111, 114, 120], 3⟩ : En)] = tabR.take 33 := by rw [hlE]; exact tabR_xor.symm
      have HA := Lib.hid hA
      have Hhn1 := Lib.hid hn1
      clear hn1
      have Hhn2 := Lib.hid hn2
      clear hn2
      have Hhn3 := Lib.hid hn3
      clear hn3
      have HhlE2 := Lib.hid hlE2
      clear hlE2
      clear hlE hA hA0
      go_wp2_with (first
        | (at_builtin; refine wpList_app_g rfl (.tmp 54) (.tmp 56) 75 rfl Tryz.underlying75 infoEn rfl (by decide) encEn_len encEn_one w.heap.size (.slice a l.length c) _ l [⟨164, [120, 111, 114], 3⟩] rfl rfl (HA.out.alloc _).own (rd_lit encEn_len wr [(⟨164, [120, 111, 114], 3⟩ : En)] 49 _ rfl) (by simp; omega) (by decide) (Nat.le_trans HA.out.ext.size (by simp)) ?_; intro au cu w1 ho hg; rw [Hhn1.out] at ho ⊢; have HA1 := Lib.hid ((HA.out.alloc _).app hg Hhn1.out.symm ho); clear ho hg)
        | (at_builtin; refine wpList_app_g rfl (.tmp 58) (.tmp 60) 75 rfl Tryz.underlying75 infoEn rfl (by decide) encEn_len encEn_one w.heap.size (.slice au n1 cu) _ (l ++ [⟨164, [120, 111, 114], 3⟩]) [⟨172, [120, 111, 114, 120], 3⟩] rfl rfl (HA1.out.alloc _).own (rd_lit encEn_len w1 [(⟨172, [120, 111, 114, 120], 3⟩ : En)] 49 _ rfl) (by simp; omega) (by decide) (Nat.le_trans HA1.out.ext.size (by simp)) ?_; intro au2 cu2 w2 ho hg; rw [Hhn2.out] at ho ⊢; have HA2 := Lib.hid ((HA1.out.alloc _).app hg Hhn2.out.symm ho); clear ho hg))
      have h33 := HA2.out
      rw [HhlE2.out] at h33
      have hn33 : n2 = 33 := by rw [Hhn3.out, HhlE2.out]; exact take_len 33 (by omega)
      subst hn33
      obtain ⟨w3, hw3⟩ : ∃ w3, w2.alloc (.cells #[.string ⟨#[106, 101, 113]⟩, .string ⟨#[106, 103, 116]⟩, .string ⟨#[106, 103, 101]⟩, .string ⟨#[106, 115, 101, 116]⟩] 9) = w3 := ⟨_, rfl⟩
      have h3 : RB w w2.heap.size #[.string ⟨#[106, 101, 113]⟩, .string ⟨#[106, 103, 116]⟩, .string ⟨#[106, 103, 101]⟩, .string ⟨#[106, 115, 101, 116]⟩] (tabR.take 33) (.slice au2 33 cu2) w3 := by
        rw [← hw3]
        exact ⟨⟨h33.ext.alloc _, heap_alloc_new _ _⟩, World.ownsRow.alloc h33.own _⟩
      obtain ⟨B2, hB2⟩ : ∃ B2, w2.heap.size = B2 := ⟨_, rfl⟩
      rw [hw3]
      rw [hB2] at h3 ⊢
      clear hw3 hB2 h33
      clear HA HA1 HA2
      go_loopw [1, 5] (fun v i wr => ∃ (k : Nat) (a : Option Addr) (c : Nat) (l : List En), v = .slice a l.length c ∧ i = .int .i64 (k : Int) ∧ k ≤ 4 ∧ l = tabR.take (33 + 2 * k) ∧ RB w B2 #[.string ⟨#[106, 101, 113]⟩, .string ⟨#[106, 103, 116]⟩, .string ⟨#[106, 103, 101]⟩, .string ⟨#[106, 115, 101, 116]⟩] l (.slice a l.length c) wr) (fun _ i _ => 4 - (intOf i).toNat)
      case atStart => exact ⟨0, _, _, tabR.take 33, by rw [take_len 33 (by omega)], rfl, by omega, rfl, by rw [take_len 33 (by omega)]; exact h3⟩
      case round =>
        clear hll hk
        obtain ⟨k, a, c, l, rfl, rfl, hk, hlE, hA⟩ := hrel
        by_cases hlt : k < 4
        · have htab := tabR_jmps k hlt
          rw [← hlE] at htab
          have hnl := jmps_len k hlt
          have hcell : wr.cell? ⟨B2, k, none⟩ = some (.string (str (jmpsN[k]?.getD []))) := by
            have h1 := hA.nm
            have h2 : ∀ k, k < 4 → (#[.string ⟨#[106, 101, 113]⟩, .string ⟨#[106, 103, 116]⟩, .string ⟨#[106, 103, 101]⟩, .string ⟨#[106, 115, 101, 116]⟩] : Array Value)[k]? = some (.string (str (jmpsN[k]?.getD []))) := by
              intro k hk
              match k, hk with
              | 0, _ => rfl
              | 1, _ => rfl
              | 2, _ => rfl
              | 3, _ => rfl
              | j + 4, h => exact absurd h (by omega)
            simp only [World.cell?, h1]
            exact h2 k hlt
          have hll : l.length ≤ 41 := by rw [hlE, List.length_take, tabR_len]; omega
          generalize jmpsN[k]?.getD [] = nm at *
          obtain ⟨m, hm⟩ : ∃ m : Nat, 16 * k = m := ⟨_, rfl⟩
          rw [hm] at htab
          have hm9 : m ≤ 200 := by omega
          have hwm : IntKind.i64.wrap (16 * (k : Int)) = (m : Int) := by rw [IntWalk.i64_in _ (by omega)]; omega
          obtain ⟨c1, hc1⟩ : ∃ c1 : Nat, m + 21 = c1 := ⟨_, rfl⟩
          obtain ⟨c2, hc2⟩ : ∃ c2 : Nat, m + 29 = c2 := ⟨_, rfl⟩
          rw [hc1, hc2] at htab
          have hw1 : IntKind.i64.wrap ((m : Int) + 21) = (c1 : Int) := by rw [IntWalk.i64_in _ (by omega)]; omega
          have hw2 : IntKind.i64.wrap ((m : Int) + 29) = (c2 : Int) := by rw [IntWalk.i64_in _ (by omega)]; omega
          have hv1 : IntKind.u16.wrap (c1 : Int) = (c1 : Int) := by simp [IntKind.wrap, IntKind.signed, IntKind.bits]; omega
          have hv2 : IntKind.u16.wrap (c2 : Int) = (c2 : Int) := by simp [IntKind.wrap, IntKind.signed, IntKind.bits]; omega
          have hcat : str nm ++ (⟨#[120]⟩ : ByteArray) = str (nm ++ [120]) := by rw [show (⟨#[120]⟩ : ByteArray) = str [120] from rfl, str_app]
          have hsl : (str nm).size ≤ 4 := by rw [str_size]; exact hnl
          have hcell2 : ∀ W', RA w (B2) #[.string ⟨#[106, 101, 113]⟩, .string ⟨#[106, 103, 116]⟩, .string ⟨#[106, 103, 101]⟩, .string ⟨#[106, 115, 101, 116]⟩] W' → W'.cell? ⟨B2, k, none⟩ = some (.string (str nm)) := fun W' h => by
            rw [← hcell]; simp only [World.cell?, h.nm, hA.nm]
          obtain ⟨n1, hn1⟩ : ∃ n1, l.length + [(⟨c1, nm, 4⟩ : En)].length = n1 := ⟨_, rfl⟩
          obtain ⟨n2, hn2⟩ : ∃ n2, (l ++ [(⟨c1, nm, 4⟩ : En)]).length + [(⟨c2, nm ++ [120], 4⟩ : En)].length = n2 := ⟨_, rfl⟩
          have hn3 : n2 = (l ++ [(⟨c1, nm, 4⟩ : En)] ++ [(⟨c2, nm ++ [120], 4⟩ : En)]).length := by rw [← hn2]; exact List.length_append.symm
          have HA := Lib.hid hA
          have HTB := Lib.hid (show l ++ [(⟨c1, nm, 4⟩ : En)] ++ [⟨c2, nm ++ [120], 4⟩] = tabR.take (33 + 2 * (k + 1)) from by rw [← htab, show 33 + 2 * (k + 1) = 33 + 2 * k + 2 from by omega])
          have Hhn1 := Lib.hid hn1
          clear hn1
          have Hhn2 := Lib.hid hn2
          clear hn2
          have Hhn3 := Lib.hid hn3
          clear hn3
          have Hhcell2 := Lib.hid hcell2
          clear hcell2
          clear hm hc1 hc2 htab hlE hA hnl
          go_wp2_with (first
            | (at_builtin; refine wpList_app_g rfl (.tmp 69) (.tmp 79) 75 rfl Tryz.underlying75 infoEn rfl (by decide) encEn_len encEn_one w.heap.size (.slice a l.length c) _ l [⟨c1, nm, 4⟩] rfl rfl (HA.out.alloc _).own (rd_lit encEn_len wr [(⟨c1, nm, 4⟩ : En)] 49 _ rfl) (by simp; omega) (by decide) (Nat.le_trans HA.out.ext.size (by simp)) ?_; intro au cu w1 ho hg; rw [Hhn1.out] at ho ⊢; have hA1 := (HA.out.alloc _).app hg Hhn1.out.symm ho; have hcell := Hhcell2.out _ hA1.toRA; have HA1 := Lib.hid hA1; clear ho hg hA1)
            | (at_builtin; refine wpList_app_g rfl (.tmp 81) (.tmp 92) 75 rfl Tryz.underlying75 infoEn rfl (by decide) encEn_len encEn_one w.heap.size (.slice au n1 cu) _ (l ++ [⟨c1, nm, 4⟩]) [⟨c2, nm ++ [120], 4⟩] rfl rfl (HA1.out.alloc _).own (rd_lit encEn_len w1 [(⟨c2, nm ++ [120], 4⟩ : En)] 49 _ rfl) (by simp; omega) (by decide) (Nat.le_trans HA1.out.ext.size (by simp)) ?_; intro au2 cu2 w2 ho hg; rw [Hhn2.out] at ho ⊢; have HA2 := Lib.hid ((HA1.out.alloc _).app hg Hhn2.out.symm ho); clear ho hg))
          go_roundw
          case rel => exact ⟨k + 1, au2, cu2, _, by rw [Hhn3.out], by go_num, by omega, HTB.out, by rw [← Hhn3.out]; exact HA2.out⟩
          case measure => simp [intOf]; omega
        · obtain rfl : k = 4 := by omega
          have HA := Lib.hid hA
          replace hlE : l = tabR := hlE.trans (List.take_of_length_le (by rw [tabR_len]; omega))
          have HhlE := Lib.hid hlE
          clear hlE
          clear hA
          go_wp2_with fail
          go_ret
          exact ⟨_, rfl, HA.out.ext, by rw [← HhlE.out]; exact rd_of_own encEn_len HA.out.own⟩
end L07
end Go.Proofs.YtbpmokffhmiacaaGreatDoor
