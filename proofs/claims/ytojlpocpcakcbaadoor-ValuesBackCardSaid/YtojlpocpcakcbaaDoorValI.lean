/- Layer 15: the walk of the law ValuesBack (unfinished). -/
import Derived.Laws.StructEq
import Derived.Deep.DeepCutAuto
import Derived.Test.YtojlpocpcakcbaaDoorValE
import Derived.Test.YtojlpocpcakcbaaDoorValH
namespace Go.Proofs.YtojlpocpcakcbaaDoor
open Go.RowKit Go.Shelf Go.Sort V
attribute [local go_sem] Oper.semAt_some
namespace L10
theorem hgEn : Tryd.prog.eqGuardType Tryd.prog.depth 48 = false := by kernel_rfl
theorem run_equalEn (nv : ByteArray) (a : Nat) (b : Bool) (w : World) : (Op.equalIn 10000 48 (.agg #[.string nv, .int .u32 (a : Int), .bool b]) (.agg #[.string nv, .int .u32 (a : Int), .bool b])).run Tryd.prog w = .ok true w := by
  simp [go_sem]
theorem run_neqEn (nv : ByteArray) (a : Nat) (b : Bool) (w : World) : (binOp .neq 48 (.agg #[.string nv, .int .u32 (a : Int), .bool b]) (.agg #[.string nv, .int .u32 (a : Int), .bool b])).run Tryd.prog w = .ok (.bool false) w := by
  rw [run_neq_struct, run_equalEn]; rfl
theorem run_eqEn (nv : ByteArray) (a : Nat) (b : Bool) (w : World) : (binOp .eql 48 (.agg #[.string nv, .int .u32 (a : Int), .bool b]) (.agg #[.string nv, .int .u32 (a : Int), .bool b])).run Tryd.prog w = .ok (.bool true) w := by
  rw [run_eql_struct, run_equalEn]; rfl
theorem textL_len (x : En) : (textL x).length ≤ x.1.length + 2000 := by
  unfold textL
  split
  · omega
  split
  · simp
  split
  · have := enL_len (x.2.1 % 65536)
    simp; omega
  · simp
theorem no_snoc {s : ByteArray} {k : Nat} (hlt : k < s.size) (hc : (((s[k]'hlt).toNat : Int) == 58) = false) (h : ∀ j, j < k → s.data[j]? ≠ some 58) : ∀ j, j < k + 1 → s.data[j]? ≠ some 58 := by
  intro j hj hs
  rcases Nat.lt_or_ge j k with hl | hl
  · exact h j hl hs
  · obtain rfl : j = k := by omega
    have he : s.data[j]? = some (s[j]'hlt) := Array.getElem?_eq_getElem hlt
    rw [he, Option.some.injEq] at hs
    rw [hs] at hc
    exact absurd hc (by decide)
theorem mod_e (er e : Nat) (h : (er : Int) % 4096 = (e : Int)) : Int.tmod (er : Int) 4096 = (e : Int) := by
  rw [Int.tmod_eq_emod_of_nonneg (by omega)]; exact h
set_option maxRecDepth 100000 in
set_option maxHeartbeats 8000000 in
theorem ValuesBack_calls (s nm : ByteArray) (er : Nat) (has kill : Bool) (w : World) (ht : Tab w) :
    Calls Tryd.prog 8 #[.string s, .string nm, .int .u32 (er : Int), .bool has, .bool kill] w fun e w' => e = .returned (.bool true) ∧ Ext w w' := by
  have hA := fun W => awake15_calls W
  have HT := Lib.hid ht
  clear ht
  have HhA := Lib.hid hA
  clear hA
  by_cases h1 : 200 < s.size
  · have g1 : decide (200 < s.size) = true := decide_eq_true h1
    have g2 : decide ((200 : Int) < (s.size : Int)) = true := decide_eq_true (by omega)
    go_enter Tryd.func8, Tryd.ntmps8
    go_wp2_with fail
    refine (HhA.out _).mono ?_
    rintro e w1 ⟨rfl, hx1⟩
    go_wp2_with fail
    go_ret
    exact ⟨rfl, hx1⟩
  have g1 : decide (200 < s.size) = false := decide_eq_false h1
  have g2 : decide ((200 : Int) < (s.size : Int)) = false := decide_eq_false (by omega)
  by_cases h2 : 200 < nm.size
  · have g3 : decide (200 < nm.size) = true := decide_eq_true h2
    have g4 : decide ((200 : Int) < (nm.size : Int)) = true := decide_eq_true (by omega)
    go_enter Tryd.func8, Tryd.ntmps8
    go_wp2_with fail
    refine (HhA.out _).mono ?_
    rintro e w1 ⟨rfl, hx1⟩
    go_wp2_with fail
    go_ret
    exact ⟨rfl, hx1⟩
  have g3 : decide (200 < nm.size) = false := decide_eq_false h2
  have g4 : decide ((200 : Int) < (nm.size : Int)) = false := decide_eq_false (by omega)
  have hR := fun W => Read_calls s (by omega) W
  have hgd := read_good (bytes s)
  have hrl : (readL (bytes s)).1.1.length ≤ 200 := by
    have h := hd1_len 58 (bytes s)
    rw [bytes_len] at h
    unfold readL
    split
    · exact Nat.zero_le _
    split
    · show (hd1 58 (bytes s)).length ≤ 200; omega
    split
    · show (hd1 58 (bytes s)).length ≤ 200; omega
    split
    · show (hd1 58 (bytes s)).length ≤ 200; omega
    · exact Nat.zero_le _
  have hra : (readL (bytes s)).1.2.1 < 4294967296 := by
    unfold readL
    split
    · show 0 < 4294967296; omega
    split
    · show 0 < 4294967296; omega
    split
    · show 2147483648 < 4294967296; omega
    split
    · rename_i hh
      rcases errnoL_ok (tl1 58 (bytes s)) with ⟨-, h4⟩ | h4
      · show 327680 ||| _ < 4294967296
        rw [or_five _ h4]; omega
      · rw [h4] at hh; cases hh
    · show 0 < 4294967296; omega
  have hT1 := fun W (h : Tab W) => Text_calls (readL (bytes s)).1 (by omega) hra W h
  have hl1 := textL_len (readL (bytes s)).1
  have hR1 := fun W => Read_calls (str (textL (readL (bytes s)).1)) (by rw [str_size]; omega) W
  rw [bytes_str] at hR1
  have hrt := read_text (readL (bytes s)).1
  obtain ⟨e, he⟩ : ∃ e, e = er % 4096 := ⟨_, rfl⟩
  have he4 : e ≤ 4095 := by omega
  have hmd : (er : Int) % 4096 = (e : Int) := by rw [he]; simp
  clear he
  have hbo := u32_or_nat 327680 e (by omega) (by omega)
  have hbo2 : bits .or .u32 327680 (e : Int) = ((327680 ||| e : Nat) : Int) := hbo
  have hga : 327680 ||| e < 4294967296 := by rw [or_five e he4]; omega
  obtain ⟨g, hg⟩ : ∃ g, g = 327680 ||| e := ⟨_, rfl⟩
  rw [← hg] at hbo hbo2 hga
  clear hbo
  have Hhbo2 := Lib.hid hbo2
  clear hbo2
  have hEN := fun W (h : Tab W) => ErrnoName_calls e (by omega) W h
  obtain ⟨y, hy⟩ : ∃ y : En, y = (bytes nm, if has = true then (if kill = true then 2147483648 else g) else 0, has) := ⟨_, rfl⟩
  have hya : y.2.1 < 4294967296 := by
    rw [hy]
    show (if has = true then (if kill = true then 2147483648 else g) else 0) < 4294967296
    split
    · split
      · omega
      · exact hga
    · omega
  have hy1 : y.1.length ≤ 200 := by rw [hy]; show (bytes nm).length ≤ 200; rw [bytes_len]; omega
  have hTy := fun W (h : Tab W) => Text_calls y (by omega) hya W h
  have hl2 := textL_len y
  have hRy := fun W => Read_calls (str (textL y)) (by rw [str_size]; omega) W
  rw [bytes_str] at hRy
  have hyb : (bytes nm).contains 58 = false → nm.size ≠ 0 → readL (textL y) = (y, 0) := fun hc h0 => read_text y (by
    rw [hy]
    refine ⟨⟨fun h => h0 (by have := congrArg List.length h; rw [bytes_len] at this; exact this), hc⟩, ?_⟩
    cases has
    · exact .inl ⟨rfl, rfl⟩
    · cases kill
      · exact .inr ⟨rfl, .inr ⟨e, he4, hg⟩⟩
      · exact .inr ⟨rfl, .inl rfl⟩)
  have hyz : nm.size = 0 → readL (textL y) = (([], 0, false), 161) := fun h0 => by
    rw [hy, List.eq_nil_of_length_eq_zero (show (bytes nm).length = 0 from h0)]
    exact read_empty _ _
  have hcat : has = true → kill = false → nm ++ (⟨#[58]⟩ : ByteArray) ++ str (enL e) = str (textL y) := fun ha hk => by
    subst ha hk
    have ht : textL y = bytes nm ++ 58 :: enL e := by
      rw [hy]
      unfold textL
      dsimp only
      have hor := or_five e he4
      rw [← hg] at hor
      rw [hor, if_neg (by simp)]
      rw [if_neg (by simp; omega), if_pos (by simp; omega)]
      simp
      congr 1
      omega
    rw [ht, show nm = str (bytes nm) from (str_bytes nm).symm, bytes_str, show (⟨#[58]⟩ : ByteArray) = str [58] from rfl, str_app, str_app]
    simp
  clear hg
  have hnb : ∀ k, k < nm.size → (bytes nm)[k]? = nm.data[k]? := fun k _ => by unfold bytes; simp
  have hnc : (∀ k, k < nm.size → nm.data[k]? ≠ some 58) → (bytes nm).contains 58 = false := fun h => by
    rw [← Bool.not_eq_true, List.contains_iff_mem]
    intro hm
    obtain ⟨k, hk, he⟩ := List.mem_iff_getElem.1 hm
    refine h k (by have := bytes_len nm; omega) ?_
    rw [← hnb k (by have := bytes_len nm; omega), List.getElem?_eq_getElem hk, he]
  obtain ⟨R, hRR⟩ : ∃ R, R = readL (bytes s) := ⟨_, rfl⟩
  rw [← hRR] at hR hgd hrl hra hT1 hl1 hR1 hrt
  obtain ⟨⟨rn, ra, rb⟩, q⟩ := R
  dsimp only at hgd hrt hR hT1 hR1
  clear hRR
  have HhR := Lib.hid hR
  clear hR
  have HhT1 := Lib.hid hT1
  clear hT1
  have HhR1 := Lib.hid hR1
  clear hR1
  have Hhrt := Lib.hid hrt
  clear hrt
  have Hhgd := Lib.hid hgd
  clear hgd
  have Hhnc := Lib.hid hnc
  clear hnc
  have Hhyb := Lib.hid hyb
  clear hyb
  have Hhyz := Lib.hid hyz
  clear hyz
  have Hhcat := Lib.hid hcat
  clear hcat
  have HhTy := Lib.hid hTy
  clear hTy
  have HhRy := Lib.hid hRy
  clear hRy
  have HhEN := Lib.hid hEN
  clear hEN
  by_cases hq : q = 0
  · subst hq
    have hrt0 := Hhrt.out (Hhgd.out rfl)
    have hR1 := HhR1.out
    rw [hrt0] at hR1
    clear hrt0
    have hnq := fun W => run_neqEn (str rn) ra rb W
    unfold enV at *
    dsimp only at *
    generalize str (textL (rn, ra, rb)) = tx at *
    generalize str rn = rv at *
    have HhR1 := Lib.hid hR1
    clear hR1
    go_enter Tryd.func8, Tryd.ntmps8
    go_wp2_with fail
    refine (HhR.out _).mono ?_
    rintro _ w1 ⟨rfl, hx1⟩
    go_wp2_with fail
    refine (HhT1.out _ (HT.out.ext (hx1.alloc _))).mono ?_
    rintro _ w2 ⟨rfl, hx2⟩
    obtain ⟨x0, x1, x2, -, -, -, -⟩ := blk3 hx2
    have HX2 := Lib.hid ((hx1.alloc _).trans hx2)
    clear hx2 hx1
    go_wp2_with fail
    refine (HhR1.out _).mono ?_
    rintro _ w3 ⟨rfl, hx3⟩
    go_upto_region 6 with fail
    obtain ⟨W5, hW5⟩ : ∃ W5, W5 = w3.alloc (.cells #[.string rv, .int .u32 (ra : Int), .bool rb] 48) := ⟨_, rfl⟩
    obtain ⟨z0, z1, z2, -, -, -, -⟩ := blk3 (Ext.refl (w3.alloc (.cells #[.string rv, .int .u32 (ra : Int), .bool rb] 48)))
    have hx25 : Ext w2 W5 := by rw [hW5]; exact hx3.alloc _
    rw [← hW5] at z0 z1 z2 ⊢
    have HX1 := Lib.hid (HX2.out.trans hx25)
    replace x0 := hx25.cell x0
    replace x1 := hx25.cell x1
    replace x2 := hx25.cell x2
    clear hx3 hx25 hW5
    go_wp2_with fail
    clear x0 x1 x2 z0 z1 z2 hnq
    go_loopw [15] (fun ui wr => ∃ k : Nat, k ≤ nm.size ∧ ui = .int .i64 k ∧ Ext w wr ∧ ∀ j, j < k → nm.data[j]? ≠ some 58) (fun ui _ => nm.size - (intOf ui).toNat)
    case atStart => exact ⟨0, by omega, rfl, HX1.out, by omega⟩
    case round =>
      obtain ⟨k, hk, rfl, hx, hno⟩ := hrel
      have HX := Lib.hid hx
      have Hhno := Lib.hid hno
      clear hno
      clear hx
      by_cases hlt : k < nm.size
      · have hix : (0 : Int) ≤ (k : Int) ∧ (k : Int) < (nm.size : Int) := by omega
        by_cases hc : (((nm[k]'hlt).toNat : Int) == 58) = true
        · go_wp2_with fail
          refine (HhA.out _).mono ?_
          rintro _ w2 ⟨rfl, hx2⟩
          go_wp2_with fail
          go_ret
          exact ⟨rfl, HX.out.trans hx2⟩
        · have hc' : (((nm[k]'hlt).toNat : Int) == 58) = false := by simpa using hc
          have HC := Lib.hid (no_snoc hlt hc' Hhno.out)
          clear hc
          go_wp2_with fail
          go_roundw
          case rel => exact ⟨k + 1, by omega, by go_num, HX.out, HC.out⟩
          case measure => simp [intOf]; omega
      · obtain rfl : k = nm.size := by omega
        have hcn := Hhnc.out Hhno.out
        have hRy := HhRy.out
        have hTy := HhTy.out
        have hcat := Hhcat.out
        have hEN := HhEN.out
        have hyb := Hhyb.out hcn
        have hyz := Hhyz.out
        have hyv : enV y = .agg #[.string nm, .int .u32 ((if has = true then (if kill = true then 2147483648 else g) else 0 : Nat) : Int), .bool has] := by rw [hy]; unfold enV; rw [str_bytes]
        unfold enV at hyv
        obtain ⟨A, hAA⟩ : ∃ A : Nat, A = (if has = true then (if kill = true then 2147483648 else g) else 0) := ⟨_, rfl⟩
        rw [← hAA] at hyv
        rw [hyv] at hTy
        clear hl1 hra hrl
        by_cases h0 : nm.size = 0
        · rw [hyz h0] at hRy
          dsimp only at hRy
          have hne : nm = ByteArray.empty := ByteArray.ext (Array.eq_empty_of_size_eq_zero h0)
          subst hne
          generalize str (textL y) = ty at *
          clear hcat hyb hyz hcn hyv hy hl2 hya hy1
          cases has
          · obtain rfl : A = 0 := hAA
            have HhRy := Lib.hid hRy
            clear hRy
            have HhTy := Lib.hid hTy
            clear hTy
            go_wp2_with fail
            refine (HhTy.out _ (HT.out.ext (HX.out.alloc _))).mono ?_
            rintro _ w3 ⟨rfl, hx3⟩
            have HX3 := Lib.hid ((HX.out.alloc _).trans hx3)
            clear hx3
            go_wp2_with fail
            refine (HhRy.out _).mono ?_
            rintro _ w4 ⟨rfl, hx4⟩
            have HX4 := Lib.hid ((HX3.out.trans hx4).alloc (.cells #[.string (str []), .int .u32 ((0 : Nat) : Int), .bool false] 48))
            clear hx4
            go_wp2_with fail
            refine (HhA.out _).mono ?_
            rintro _ w5 ⟨rfl, hx5⟩
            go_wp2_with fail
            go_ret
            exact ⟨rfl, HX4.out.trans hx5⟩
          · cases kill
            · obtain rfl : g = A := hAA.symm
              clear hAA
              go_wp2_with fail
              rw [Hhbo2.out]
              have HhRy := Lib.hid hRy
              clear hRy
              have HhTy := Lib.hid hTy
              clear hTy
              go_wp2_with fail
              refine (HhTy.out _ (HT.out.ext (HX.out.alloc _))).mono ?_
              rintro _ w3 ⟨rfl, hx3⟩
              have HX3 := Lib.hid ((HX.out.alloc _).trans hx3)
              clear hx3
              go_wp2_with fail
              refine (HhRy.out _).mono ?_
              rintro _ w4 ⟨rfl, hx4⟩
              have HX4 := Lib.hid ((HX3.out.trans hx4).alloc (.cells #[.string (str []), .int .u32 ((0 : Nat) : Int), .bool false] 48))
              clear hx4
              go_wp2_with fail
              refine (HhA.out _).mono ?_
              rintro _ w5 ⟨rfl, hx5⟩
              go_wp2_with fail
              go_ret
              exact ⟨rfl, HX4.out.trans hx5⟩
            · obtain rfl : A = 2147483648 := hAA
              have HhRy := Lib.hid hRy
              clear hRy
              have HhTy := Lib.hid hTy
              clear hTy
              go_wp2_with fail
              refine (HhTy.out _ (HT.out.ext (HX.out.alloc _))).mono ?_
              rintro _ w3 ⟨rfl, hx3⟩
              have HX3 := Lib.hid ((HX.out.alloc _).trans hx3)
              clear hx3
              go_wp2_with fail
              refine (HhRy.out _).mono ?_
              rintro _ w4 ⟨rfl, hx4⟩
              have HX4 := Lib.hid ((HX3.out.trans hx4).alloc (.cells #[.string (str []), .int .u32 ((0 : Nat) : Int), .bool false] 48))
              clear hx4
              go_wp2_with fail
              refine (HhA.out _).mono ?_
              rintro _ w5 ⟨rfl, hx5⟩
              go_wp2_with fail
              go_ret
              exact ⟨rfl, HX4.out.trans hx5⟩
        · rw [hyb h0, hyv] at hRy
          generalize str (textL y) = ty at *
          clear hyb hyz hcn hyv hy hl2 hya hy1
          have hemp : nm.toList.isEmpty = false := by
            rw [Lib.toList_data, List.isEmpty_eq_false_iff]
            exact fun h => h0 (by have := congrArg List.length h; simpa using this)
          cases has
          · obtain rfl : A = 0 := hAA
            clear hcat
            rw [show ((0 : Nat) : Int) = 0 from rfl] at hRy hTy
            have HhRy := Lib.hid hRy
            clear hRy
            have HhTy := Lib.hid hTy
            clear hTy
            have heq := fun W => run_eqEn nm 0 false W
            rw [show ((0 : Nat) : Int) = 0 from rfl] at heq
            go_wp2_with fail
            refine (HhTy.out _ (HT.out.ext (HX.out.alloc _))).mono ?_
            rintro _ w3 ⟨rfl, hx3⟩
            obtain ⟨y0, y1, y2, -, -, -, -⟩ := blk3 hx3
            have HX3 := Lib.hid ((HX.out.alloc _).trans hx3)
            clear hx3
            go_wp2_with fail
            refine (HhRy.out _).mono ?_
            rintro _ w4 ⟨rfl, hx4⟩
            go_upto_region 21 with fail
            obtain ⟨W5, hW5⟩ : ∃ W5, W5 = w4.alloc (.cells #[.string nm, .int .u32 0, .bool false] 48) := ⟨_, rfl⟩
            obtain ⟨z0, z1, z2, -, -, -, -⟩ := blk3 (Ext.refl (w4.alloc (.cells #[.string nm, .int .u32 0, .bool false] 48)))
            have hx35 : Ext w3 W5 := by rw [hW5]; exact hx4.alloc _
            rw [← hW5] at z0 z1 z2 ⊢
            have HX5 := Lib.hid (HX3.out.trans hx35)
            have HT5 := Lib.hid (HT.out.ext HX5.out)
            replace y0 := hx35.cell y0
            replace y1 := hx35.cell y1
            replace y2 := hx35.cell y2
            clear hx35 hx4 hW5
            go_wp2_with fail
            refine (HhA.out _).mono ?_
            rintro _ w8 ⟨rfl, hx8⟩
            go_wp2_with fail
            go_ret
            exact ⟨rfl, HX5.out.trans hx8⟩
          · cases kill
            · obtain rfl : g = A := hAA.symm
              clear hAA
              have hca := hcat rfl rfl
              clear hcat
              go_wp2_with fail
              rw [Hhbo2.out]
              have HhRy := Lib.hid hRy
              clear hRy
              have HhTy := Lib.hid hTy
              clear hTy
              have heq := fun W => run_eqEn nm g true W
              have hme := mod_e er e hmd
              have hl3 := enL_len e
              rw [← str_size] at hl3
              have HhEN := Lib.hid hEN
              clear hEN
              generalize str (enL e) = te at *
              go_wp2_with fail
              refine (HhTy.out _ (HT.out.ext (HX.out.alloc _))).mono ?_
              rintro _ w3 ⟨rfl, hx3⟩
              obtain ⟨y0, y1, y2, -, -, -, -⟩ := blk3 hx3
              have HX3 := Lib.hid ((HX.out.alloc _).trans hx3)
              clear hx3
              go_wp2_with fail
              refine (HhRy.out _).mono ?_
              rintro _ w4 ⟨rfl, hx4⟩
              go_upto_region 21 with fail
              obtain ⟨W5, hW5⟩ : ∃ W5, W5 = w4.alloc (.cells #[.string nm, .int .u32 (g : Int), .bool true] 48) := ⟨_, rfl⟩
              obtain ⟨z0, z1, z2, -, -, -, -⟩ := blk3 (Ext.refl (w4.alloc (.cells #[.string nm, .int .u32 (g : Int), .bool true] 48)))
              have hx35 : Ext w3 W5 := by rw [hW5]; exact hx4.alloc _
              rw [← hW5] at z0 z1 z2 ⊢
              have HX5 := Lib.hid (HX3.out.trans hx35)
              have HT5 := Lib.hid (HT.out.ext HX5.out)
              replace y0 := hx35.cell y0
              replace y1 := hx35.cell y1
              replace y2 := hx35.cell y2
              clear hx35 hx4 hW5
              go_wp2_with fail
              refine (HhTy.out _ (HT.out.ext HX5.out)).mono ?_
              rintro _ w6 ⟨rfl, hx6⟩
              have HX6 := Lib.hid (HX5.out.trans hx6)
              clear hx6
              go_wp2_with fail
              refine (HhEN.out _ (HT.out.ext HX6.out)).mono ?_
              rintro _ w7 ⟨rfl, hx7⟩
              have HX7 := Lib.hid (HX6.out.trans hx7)
              clear hx7
              go_wp2_with fail
              refine (HhA.out _).mono ?_
              rintro _ w8 ⟨rfl, hx8⟩
              go_wp2_with fail
              go_ret
              exact ⟨rfl, HX7.out.trans hx8⟩
            · obtain rfl : A = 2147483648 := hAA
              clear hcat
              rw [show ((2147483648 : Nat) : Int) = 2147483648 from rfl] at hRy hTy
              have HhRy := Lib.hid hRy
              clear hRy
              have HhTy := Lib.hid hTy
              clear hTy
              have heq := fun W => run_eqEn nm 2147483648 true W
              rw [show ((2147483648 : Nat) : Int) = 2147483648 from rfl] at heq
              go_wp2_with fail
              refine (HhTy.out _ (HT.out.ext (HX.out.alloc _))).mono ?_
              rintro _ w3 ⟨rfl, hx3⟩
              obtain ⟨y0, y1, y2, -, -, -, -⟩ := blk3 hx3
              have HX3 := Lib.hid ((HX.out.alloc _).trans hx3)
              clear hx3
              go_wp2_with fail
              refine (HhRy.out _).mono ?_
              rintro _ w4 ⟨rfl, hx4⟩
              go_upto_region 21 with fail
              obtain ⟨W5, hW5⟩ : ∃ W5, W5 = w4.alloc (.cells #[.string nm, .int .u32 2147483648, .bool true] 48) := ⟨_, rfl⟩
              obtain ⟨z0, z1, z2, -, -, -, -⟩ := blk3 (Ext.refl (w4.alloc (.cells #[.string nm, .int .u32 2147483648, .bool true] 48)))
              have hx35 : Ext w3 W5 := by rw [hW5]; exact hx4.alloc _
              rw [← hW5] at z0 z1 z2 ⊢
              have HX5 := Lib.hid (HX3.out.trans hx35)
              have HT5 := Lib.hid (HT.out.ext HX5.out)
              replace y0 := hx35.cell y0
              replace y1 := hx35.cell y1
              replace y2 := hx35.cell y2
              clear hx35 hx4 hW5
              go_wp2_with fail
              refine (HhA.out _).mono ?_
              rintro _ w8 ⟨rfl, hx8⟩
              go_wp2_with fail
              go_ret
              exact ⟨rfl, HX5.out.trans hx8⟩
  have hqq : (q == 0) = false := by simpa using hq
  unfold enV at *
  dsimp only at *
  go_enter Tryd.func8, Tryd.ntmps8
  go_wp2_with fail
  refine (HhR.out _).mono ?_
  rintro _ w1 ⟨rfl, hx1⟩
  have HX1 := Lib.hid (((Ext.refl w).trans hx1).alloc (.cells #[.string (str rn), .int .u32 (ra : Int), .bool rb] 48))
  clear hx1
  go_wp2_with fail
  go_loopw [15] (fun ui wr => ∃ k : Nat, k ≤ nm.size ∧ ui = .int .i64 k ∧ Ext w wr ∧ ∀ j, j < k → nm.data[j]? ≠ some 58) (fun ui _ => nm.size - (intOf ui).toNat)
  case atStart => exact ⟨0, by omega, rfl, HX1.out, by omega⟩
  case round =>
    obtain ⟨k, hk, rfl, hx, hno⟩ := hrel
    have HX := Lib.hid hx
    have Hhno := Lib.hid hno
    clear hno
    clear hx
    by_cases hlt : k < nm.size
    · have hix : (0 : Int) ≤ (k : Int) ∧ (k : Int) < (nm.size : Int) := by omega
      by_cases hc : (((nm[k]'hlt).toNat : Int) == 58) = true
      · go_wp2_with fail
        refine (HhA.out _).mono ?_
        rintro _ w2 ⟨rfl, hx2⟩
        go_wp2_with fail
        go_ret
        exact ⟨rfl, HX.out.trans hx2⟩
      · have hc' : (((nm[k]'hlt).toNat : Int) == 58) = false := by simpa using hc
        have HC := Lib.hid (no_snoc hlt hc' Hhno.out)
        clear hc
        go_wp2_with fail
        go_roundw
        case rel => exact ⟨k + 1, by omega, by go_num, HX.out, HC.out⟩
        case measure => simp [intOf]; omega
    · obtain rfl : k = nm.size := by omega
      have hcn := Hhnc.out Hhno.out
      have hRy := HhRy.out
      have hTy := HhTy.out
      have hcat := Hhcat.out
      have hEN := HhEN.out
      have hyb := Hhyb.out hcn
      have hyz := Hhyz.out
      have hyv : enV y = .agg #[.string nm, .int .u32 ((if has = true then (if kill = true then 2147483648 else g) else 0 : Nat) : Int), .bool has] := by rw [hy]; unfold enV; rw [str_bytes]
      unfold enV at hyv
      obtain ⟨A, hAA⟩ : ∃ A : Nat, A = (if has = true then (if kill = true then 2147483648 else g) else 0) := ⟨_, rfl⟩
      rw [← hAA] at hyv
      rw [hyv] at hTy
      clear hl1 hra hrl
      by_cases h0 : nm.size = 0
      · rw [hyz h0] at hRy
        dsimp only at hRy
        have hne : nm = ByteArray.empty := ByteArray.ext (Array.eq_empty_of_size_eq_zero h0)
        subst hne
        generalize str (textL y) = ty at *
        clear hcat hyb hyz hcn hyv hy hl2 hya hy1
        cases has
        · obtain rfl : A = 0 := hAA
          have HhRy := Lib.hid hRy
          clear hRy
          have HhTy := Lib.hid hTy
          clear hTy
          go_wp2_with fail
          refine (HhTy.out _ (HT.out.ext (HX.out.alloc _))).mono ?_
          rintro _ w3 ⟨rfl, hx3⟩
          have HX3 := Lib.hid ((HX.out.alloc _).trans hx3)
          clear hx3
          go_wp2_with fail
          refine (HhRy.out _).mono ?_
          rintro _ w4 ⟨rfl, hx4⟩
          have HX4 := Lib.hid ((HX3.out.trans hx4).alloc (.cells #[.string (str []), .int .u32 ((0 : Nat) : Int), .bool false] 48))
          clear hx4
          go_wp2_with fail
          refine (HhA.out _).mono ?_
          rintro _ w5 ⟨rfl, hx5⟩
          go_wp2_with fail
          go_ret
          exact ⟨rfl, HX4.out.trans hx5⟩
        · cases kill
          · obtain rfl : g = A := hAA.symm
            clear hAA
            go_wp2_with fail
            rw [Hhbo2.out]
            have HhRy := Lib.hid hRy
            clear hRy
            have HhTy := Lib.hid hTy
            clear hTy
            go_wp2_with fail
            refine (HhTy.out _ (HT.out.ext (HX.out.alloc _))).mono ?_
            rintro _ w3 ⟨rfl, hx3⟩
            have HX3 := Lib.hid ((HX.out.alloc _).trans hx3)
            clear hx3
            go_wp2_with fail
            refine (HhRy.out _).mono ?_
            rintro _ w4 ⟨rfl, hx4⟩
            have HX4 := Lib.hid ((HX3.out.trans hx4).alloc (.cells #[.string (str []), .int .u32 ((0 : Nat) : Int), .bool false] 48))
            clear hx4
            go_wp2_with fail
            refine (HhA.out _).mono ?_
            rintro _ w5 ⟨rfl, hx5⟩
            go_wp2_with fail
            go_ret
            exact ⟨rfl, HX4.out.trans hx5⟩
          · obtain rfl : A = 2147483648 := hAA
            have HhRy := Lib.hid hRy
            clear hRy
            have HhTy := Lib.hid hTy
            clear hTy
            go_wp2_with fail
            refine (HhTy.out _ (HT.out.ext (HX.out.alloc _))).mono ?_
            rintro _ w3 ⟨rfl, hx3⟩
            have HX3 := Lib.hid ((HX.out.alloc _).trans hx3)
            clear hx3
            go_wp2_with fail
            refine (HhRy.out _).mono ?_
            rintro _ w4 ⟨rfl, hx4⟩
            have HX4 := Lib.hid ((HX3.out.trans hx4).alloc (.cells #[.string (str []), .int .u32 ((0 : Nat) : Int), .bool false] 48))
            clear hx4
            go_wp2_with fail
            refine (HhA.out _).mono ?_
            rintro _ w5 ⟨rfl, hx5⟩
            go_wp2_with fail
            go_ret
            exact ⟨rfl, HX4.out.trans hx5⟩
      · rw [hyb h0, hyv] at hRy
        generalize str (textL y) = ty at *
        clear hyb hyz hcn hyv hy hl2 hya hy1
        have hemp : nm.toList.isEmpty = false := by
          rw [Lib.toList_data, List.isEmpty_eq_false_iff]
          exact fun h => h0 (by have := congrArg List.length h; simpa using this)
        cases has
        · obtain rfl : A = 0 := hAA
          clear hcat
          rw [show ((0 : Nat) : Int) = 0 from rfl] at hRy hTy
          have HhRy := Lib.hid hRy
          clear hRy
          have HhTy := Lib.hid hTy
          clear hTy
          have heq := fun W => run_eqEn nm 0 false W
          rw [show ((0 : Nat) : Int) = 0 from rfl] at heq
          go_wp2_with fail
          refine (HhTy.out _ (HT.out.ext (HX.out.alloc _))).mono ?_
          rintro _ w3 ⟨rfl, hx3⟩
          obtain ⟨y0, y1, y2, -, -, -, -⟩ := blk3 hx3
          have HX3 := Lib.hid ((HX.out.alloc _).trans hx3)
          clear hx3
          go_wp2_with fail
          refine (HhRy.out _).mono ?_
          rintro _ w4 ⟨rfl, hx4⟩
          go_upto_region 21 with fail
          obtain ⟨W5, hW5⟩ : ∃ W5, W5 = w4.alloc (.cells #[.string nm, .int .u32 0, .bool false] 48) := ⟨_, rfl⟩
          obtain ⟨z0, z1, z2, -, -, -, -⟩ := blk3 (Ext.refl (w4.alloc (.cells #[.string nm, .int .u32 0, .bool false] 48)))
          have hx35 : Ext w3 W5 := by rw [hW5]; exact hx4.alloc _
          rw [← hW5] at z0 z1 z2 ⊢
          have HX5 := Lib.hid (HX3.out.trans hx35)
          have HT5 := Lib.hid (HT.out.ext HX5.out)
          replace y0 := hx35.cell y0
          replace y1 := hx35.cell y1
          replace y2 := hx35.cell y2
          clear hx35 hx4 hW5
          go_wp2_with fail
          refine (HhA.out _).mono ?_
          rintro _ w8 ⟨rfl, hx8⟩
          go_wp2_with fail
          go_ret
          exact ⟨rfl, HX5.out.trans hx8⟩
        · cases kill
          · obtain rfl : g = A := hAA.symm
            clear hAA
            have hca := hcat rfl rfl
            clear hcat
            go_wp2_with fail
            rw [Hhbo2.out]
            have HhRy := Lib.hid hRy
            clear hRy
            have HhTy := Lib.hid hTy
            clear hTy
            have heq := fun W => run_eqEn nm g true W
            have hme := mod_e er e hmd
            have hl3 := enL_len e
            rw [← str_size] at hl3
            have HhEN := Lib.hid hEN
            clear hEN
            generalize str (enL e) = te at *
            go_wp2_with fail
            refine (HhTy.out _ (HT.out.ext (HX.out.alloc _))).mono ?_
            rintro _ w3 ⟨rfl, hx3⟩
            obtain ⟨y0, y1, y2, -, -, -, -⟩ := blk3 hx3
            have HX3 := Lib.hid ((HX.out.alloc _).trans hx3)
            clear hx3
            go_wp2_with fail
            refine (HhRy.out _).mono ?_
            rintro _ w4 ⟨rfl, hx4⟩
            go_upto_region 21 with fail
            obtain ⟨W5, hW5⟩ : ∃ W5, W5 = w4.alloc (.cells #[.string nm, .int .u32 (g : Int), .bool true] 48) := ⟨_, rfl⟩
            obtain ⟨z0, z1, z2, -, -, -, -⟩ := blk3 (Ext.refl (w4.alloc (.cells #[.string nm, .int .u32 (g : Int), .bool true] 48)))
            have hx35 : Ext w3 W5 := by rw [hW5]; exact hx4.alloc _
            rw [← hW5] at z0 z1 z2 ⊢
            have HX5 := Lib.hid (HX3.out.trans hx35)
            have HT5 := Lib.hid (HT.out.ext HX5.out)
            replace y0 := hx35.cell y0
            replace y1 := hx35.cell y1
            replace y2 := hx35.cell y2
            clear hx35 hx4 hW5
            go_wp2_with fail
            refine (HhTy.out _ (HT.out.ext HX5.out)).mono ?_
            rintro _ w6 ⟨rfl, hx6⟩
            have HX6 := Lib.hid (HX5.out.trans hx6)
            clear hx6
            go_wp2_with fail
            refine (HhEN.out _ (HT.out.ext HX6.out)).mono ?_
            rintro _ w7 ⟨rfl, hx7⟩
            have HX7 := Lib.hid (HX6.out.trans hx7)
            clear hx7
            go_wp2_with fail
            refine (HhA.out _).mono ?_
            rintro _ w8 ⟨rfl, hx8⟩
            go_wp2_with fail
            go_ret
            exact ⟨rfl, HX7.out.trans hx8⟩
          · obtain rfl : A = 2147483648 := hAA
            clear hcat
            rw [show ((2147483648 : Nat) : Int) = 2147483648 from rfl] at hRy hTy
            have HhRy := Lib.hid hRy
            clear hRy
            have HhTy := Lib.hid hTy
            clear hTy
            have heq := fun W => run_eqEn nm 2147483648 true W
            rw [show ((2147483648 : Nat) : Int) = 2147483648 from rfl] at heq
            go_wp2_with fail
            refine (HhTy.out _ (HT.out.ext (HX.out.alloc _))).mono ?_
            rintro _ w3 ⟨rfl, hx3⟩
            obtain ⟨y0, y1, y2, -, -, -, -⟩ := blk3 hx3
            have HX3 := Lib.hid ((HX.out.alloc _).trans hx3)
            clear hx3
            go_wp2_with fail
            refine (HhRy.out _).mono ?_
            rintro _ w4 ⟨rfl, hx4⟩
            go_upto_region 21 with fail
            obtain ⟨W5, hW5⟩ : ∃ W5, W5 = w4.alloc (.cells #[.string nm, .int .u32 2147483648, .bool true] 48) := ⟨_, rfl⟩
            obtain ⟨z0, z1, z2, -, -, -, -⟩ := blk3 (Ext.refl (w4.alloc (.cells #[.string nm, .int .u32 2147483648, .bool true] 48)))
            have hx35 : Ext w3 W5 := by rw [hW5]; exact hx4.alloc _
            rw [← hW5] at z0 z1 z2 ⊢
            have HX5 := Lib.hid (HX3.out.trans hx35)
            have HT5 := Lib.hid (HT.out.ext HX5.out)
            replace y0 := hx35.cell y0
            replace y1 := hx35.cell y1
            replace y2 := hx35.cell y2
            clear hx35 hx4 hW5
            go_wp2_with fail
            refine (HhA.out _).mono ?_
            rintro _ w8 ⟨rfl, hx8⟩
            go_wp2_with fail
            go_ret
            exact ⟨rfl, HX5.out.trans hx8⟩
end L10
end Go.Proofs.YtojlpocpcakcbaaDoor
