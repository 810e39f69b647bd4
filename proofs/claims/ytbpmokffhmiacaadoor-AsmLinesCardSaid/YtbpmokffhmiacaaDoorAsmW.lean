/- Layer 7: the walks of the reference's Text, Copy, Same; the law AsmText. -/
import Derived.Test.YtbpmokffhmiacaaDoorAsmV
import Derived.Test.YtbpmokffhmiacaaDoorAsmT
import Derived.Test.YtbpmokffhmiacaaDoorAsmR
namespace Go.Proofs.YtbpmokffhmiacaaDoor
open Go.RowKit Go.Shelf Go.Sort V
attribute [local go_sem] Oper.semAt_some
namespace L07
def sameI (s t : In) : Bool := (s.c == t.c) && ((s.jt == t.jt) && ((s.jf == t.jf) && (s.k == t.k)))
theorem sameI_refl (s : In) : sameI s s = true := by simp [sameI]
theorem hgI : Tryd.prog.eqGuardType Tryd.prog.depth 25 = false := by kernel_rfl
theorem run_equalI (s t : In) (w : World) : (Op.equalIn 10000 25 (inV s) (inV t)).run Tryd.prog w = .ok (sameI s t) w := by
  unfold inV
  simp [go_sem]
  by_cases h1 : s.c = t.c <;> by_cases h2 : s.jt = t.jt <;> by_cases h3 : s.jf = t.jf <;> by_cases h4 : s.k = t.k <;> simp [sameI, h1, h2, h3, h4, Int.ofNat_inj]
theorem run_neqI (s t : In) (w : World) : (binOp .neq 25 (.agg #[.int .u16 (s.c : Int), .int .u8 (s.jt : Int), .int .u8 (s.jf : Int), .int .u32 (s.k : Int)])
    (.agg #[.int .u16 (t.c : Int), .int .u8 (t.jt : Int), .int .u8 (t.jf : Int), .int .u32 (t.k : Int)])).run Tryd.prog w = .ok (.bool (!sameI s t)) w := by
  have h := run_equalI s t w
  unfold inV at h
  rw [run_neq_struct, h]; rfl
theorem infoN : (Tryd.prog.info? 25).map (fun i => (i.zero, i.size, i.bytes)) = some (some (.agg #[.int .u16 0, .int .u8 0, .int .u8 0, .int .u32 0]), 4, 8) := by kernel_rfl
set_option maxRecDepth 100000 in
set_option maxHeartbeats 2000000 in
theorem rSame_calls (u v : Value) (xs : List In) (hl : xs.length ≤ 1000000) (w : World) (hu : Rd w 4 encN u xs) (hv : Rd w 4 encN v xs) :
    Calls Tryd.prog 14 #[u, v] w fun e w' => e = .returned (.bool true) ∧ Ext w w' := by
  obtain ⟨a, c, rfl, hac, hca⟩ := rdI_cell hu
  obtain ⟨b, d, rfl, hbd, hcb⟩ := rdI_cell hv
  clear hu hv
  go_enter Tryd.func14, Tryd.ntmps14
  go_wp2
  go_loopw [5] (fun i wr => ∃ k : Nat, k ≤ xs.length ∧ i = .int .i64 k ∧ Ext w wr) (fun i _ => xs.length - (intOf i).toNat)
  case atStart => exact ⟨0, by omega, rfl, Ext.refl _⟩
  case round =>
    obtain ⟨k, hk, rfl, hx⟩ := hrel
    have HX := Lib.hid hx
    by_cases hlt : k < xs.length
    · obtain ⟨b1, o1, rfl, h1, h2, h3, h4⟩ := hca k hlt
      obtain ⟨b2, o2, rfl, g1, g2, g3, g4⟩ := hcb k hlt
      replace h1 := hx.cell h1; replace h2 := hx.cell h2; replace h3 := hx.cell h3; replace h4 := hx.cell h4
      replace g1 := hx.cell g1; replace g2 := hx.cell g2; replace g3 := hx.cell g3; replace g4 := hx.cell g4
      clear hca hcb hx
      generalize xs[k] = s at *
      have hq := run_neqI s s
      rw [sameI_refl] at hq
      have hg := hgI
      go_wp2_with (go_quiet (fail))
      go_roundw
      case rel => exact ⟨k + 1, by omega, by go_num, (by repeat (first | exact HX.out | apply Ext.drewN | apply Ext.alloc | apply Ext.drew))⟩
      case measure => simp [intOf]; omega
    · clear hca hcb hx
      go_wp2
      go_ret
      exact ⟨rfl, HX.out⟩
set_option maxRecDepth 100000 in
set_option maxHeartbeats 2000000 in
theorem rCopy_calls (v : Value) (xs : List In) (hl : xs.length ≤ 1000000) (w : World) (hv : Rd w 4 encN v xs) :
    Calls Tryd.prog 10 #[v] w fun e w' => ∃ u, e = .returned u ∧ Rd w' 4 encN u xs ∧ Ext w w' := by
  have HV := Lib.hid hv
  have hl0 : ([] : List In).length + xs.length = xs.length := by simp
  have HL := Lib.hid hl0
  clear hv hl0
  go_enter Tryd.func10, Tryd.ntmps10
  go_wp2_with (at_builtin; refine wpList_app_rd rfl (.tmp 4) (.tmp 5) _ rfl Tryd.underlying28 infoN rfl (by decide) encN_len encN_one w _ _ [] xs rfl rfl ⟨rfl, .inl ⟨rfl, rfl⟩⟩ HV.out (by rw [HL.out]; omega) (by decide) (Ext.refl _) ?_; intro au1 cu1 w1 ho1 hx1; rw [HL.out] at ho1 ⊢; have HO1 := Lib.hid (rd_of_own (n := 4) (enc := encN) (xs := xs) encN_len ho1); have HX1 := Lib.hid hx1; clear ho1 hx1)
  go_ret
  exact ⟨_, rfl, HO1.out, HX1.out⟩
set_option maxRecDepth 100000 in
set_option maxHeartbeats 8000000 in
theorem rText_calls (P : List In) (v : Value) (hP : ∀ i ∈ P, OkN i) (hl : P.length ≤ 4096) (hpl : P.all plainI = true) (w : World) (hv : Rd w 4 encN v P) :
    Calls Tryd.prog 15 #[v] w fun e w' => e = .returned (.string (str (textL P))) ∧ Ext w w' := by
  have hLd := fun n (hn : n ≤ P.length) W (hx : Ext w W) => rled_calls P v hP (by omega) n hn W (hv.ext hx)
  obtain ⟨a, c, rfl, -, hca⟩ := rdI_cell hv
  have HP := Lib.hid hP
  have HPL := Lib.hid hpl
  have HhLd := Lib.hid hLd
  clear hLd
  clear hv hP hpl
  go_enter Tryd.func15, Tryd.ntmps15
  go_wp2_with fail
  go_loopw [3, 4] (fun t i wr => ∃ k : Nat, k ≤ P.length ∧ i = .int .i64 k ∧ t = .string (str (textK P k)) ∧ Ext w wr) (fun _ i _ => P.length - (intOf i).toNat)
  case atStart => exact ⟨0, by omega, rfl, rfl, Ext.refl _⟩
  case round =>
    obtain ⟨k, hk, rfl, rfl, hx⟩ := hrel
    by_cases hlt : k < P.length
    · obtain ⟨pb, po, rfl, h1, h2, h3, h4⟩ := hca k hlt
      replace h1 := hx.cell h1; replace h2 := hx.cell h2; replace h3 := hx.cell h3; replace h4 := hx.cell h4
      have hsz := textK_len HP.out k (by omega)
      have hsc := textK_succ P k
      rw [piece_at hlt] at hsc
      have hli := line_len (i := P[k]) (HP.out _ (List.getElem_mem hlt)) (p := k) (by omega)
      have hLc := fun W => rLine_calls P[k] (HP.out _ (List.getElem_mem hlt)) (k : Int) (by omega) W
      rw [line_plain HPL.out hlt] at hLc
      have hD := fun W => rdigits_calls k (by omega) W
      have hLed := fun W (hx : Ext w W) => HhLd.out k (by omega) W hx
      have hhe : headL P k = if ledB P k = true then 76 :: (dec k ++ [58, 10]) else [] := rfl
      have hd18 := dec_20 k (by omega)
      unfold inV at hLc
      have HX := Lib.hid hx
      clear hca hx
      generalize P[k] = i at *
      generalize headL P k = hd at *
      generalize textK P k = tx at *
      generalize lineL i k = li at *
      rw [← str_size] at hsz hli hd18
      cases hled : ledB P k
      · rw [hled] at hLed hhe
        have hhe2 : hd = [] := hhe
        subst hhe2
        have hcat : str tx ++ str li ++ (⟨#[10]⟩ : ByteArray) = str (textK P (k + 1)) := by rw [show (⟨#[10]⟩ : ByteArray) = str [10] from rfl, hsc, str_app, str_app]; simp
        have Hhcat := Lib.hid hcat
        clear hcat
        have Hhsc := Lib.hid hsc
        clear hsc
        have HhLc := Lib.hid hLc
        clear hLc
        have HhLed := Lib.hid hLed
        clear hLed
        generalize str tx = sx at *
        generalize str li = sl at *
        clear hhe hled hD hd18
        go_wp2_with (first
          | (go_at_call 34; refine (HhLed.out _ HX.out).mono ?_; rintro e w3 ⟨rfl, hx3⟩; replace h1 := hx3.cell h1; replace h2 := hx3.cell h2; replace h3 := hx3.cell h3; replace h4 := hx3.cell h4; have HX3 := Lib.hid (HX.out.trans hx3); clear hx3)
          | (go_at_call 9; refine (HhLc.out _).mono ?_; rintro e w5 ⟨rfl, hx5⟩; have HX5 := Lib.hid (HX3.out.trans hx5); clear hx5))
        go_roundw
        case rel => exact ⟨k + 1, by omega, by go_num, by rw [Hhcat.out], HX5.out⟩
        case measure => simp [intOf]; omega
      · rw [hled] at hLed
        rw [hled, if_pos rfl] at hhe
        have hcat : str tx ++ (⟨#[76]⟩ : ByteArray) ++ str (dec k) ++ (⟨#[58, 10]⟩ : ByteArray) ++ str li ++ (⟨#[10]⟩ : ByteArray) = str (textK P (k + 1)) := by
          rw [show (⟨#[10]⟩ : ByteArray) = str [10] from rfl, show (⟨#[76]⟩ : ByteArray) = str [76] from rfl, show (⟨#[58, 10]⟩ : ByteArray) = str [58, 10] from rfl, hsc, hhe]
          simp only [str_app]; simp
        have Hhcat := Lib.hid hcat
        clear hcat
        have Hhsc := Lib.hid hsc
        clear hsc
        have HhLc := Lib.hid hLc
        clear hLc
        have HhLed := Lib.hid hLed
        clear hLed
        have HhD := Lib.hid hD
        clear hD
        generalize str tx = sx at *
        generalize str li = sl at *
        generalize str (dec k) = sd at *
        clear hhe hled
        go_wp2_with (first
          | (go_at_call 34; refine (HhLed.out _ HX.out).mono ?_; rintro e w3 ⟨rfl, hx3⟩; replace h1 := hx3.cell h1; replace h2 := hx3.cell h2; replace h3 := hx3.cell h3; replace h4 := hx3.cell h4; have HX3 := Lib.hid (HX.out.trans hx3); clear hx3)
          | (go_at_call 30; refine (HhD.out _).mono ?_; rintro e w4 ⟨rfl, hx4⟩; replace h1 := hx4.cell h1; replace h2 := hx4.cell h2; replace h3 := hx4.cell h3; replace h4 := hx4.cell h4; have HX4 := Lib.hid (HX3.out.trans hx4); clear hx4)
          | (go_at_call 9; refine (HhLc.out _).mono ?_; rintro e w5 ⟨rfl, hx5⟩; have HX5 := Lib.hid (HX4.out.trans hx5); clear hx5))
        go_roundw
        case rel => exact ⟨k + 1, by omega, by go_num, by rw [Hhcat.out], HX5.out⟩
        case measure => simp [intOf]; omega
    · have hkk : k = P.length := by omega
      have HX := Lib.hid hx
      have Hhkk := Lib.hid hkk
      clear hkk
      clear hca hx
      go_wp2_with fail
      go_ret
      exact ⟨by rw [Hhkk.out]; rfl, HX.out⟩
end L07
end Go.Proofs.YtbpmokffhmiacaaDoor
