/- Layer 7: the walk of the reference's Text. -/
import Derived.Test.YtbpmokffhmiacaaGreatDoorAsmV
import Derived.Test.YtbpmokffhmiacaaGreatDoorAsmT
namespace Go.Proofs.YtbpmokffhmiacaaGreatDoor
open Go.RowKit Go.Shelf Go.Sort V
attribute [local go_sem] Oper.semAt_some
namespace L07
set_option maxRecDepth 100000 in
set_option maxHeartbeats 8000000 in
theorem rText_calls (P : List In) (v : Value) (hP : ∀ i ∈ P, OkN i) (hl : P.length ≤ 4096) (hpl : P.all plainI = true) (w : World) (hv : Rd w 4 encN v P) :
    Calls Tryz.prog 5 #[v] w fun e w' => e = .returned (.string (str (textL P))) ∧ Ext w w' := by
  have hLd := fun n (hn : n ≤ P.length) W (hx : Ext w W) => rled_calls P v hP (by omega) n hn W (hv.ext hx)
  obtain ⟨a, c, rfl, -, hca⟩ := rdI_cell hv
  have HP := Lib.hid hP
  have HPL := Lib.hid hpl
  have HhLd := Lib.hid hLd
  clear hLd
  clear hv hP hpl
  go_enter Tryz.func5, Tryz.ntmps5
  go_wp2_with fail
  go_loopw [3, 4] (fun t i wr => ∃ k : Nat, k ≤ P.length ∧ i = .int .i64 k ∧ t = .string (str (textK P k)) ∧ Ext w wr) (fun _ i _ => P.length - (intOf i).toNat)
  case atStart => exact ⟨0, by omega, rfl, rfl, Ext.refl _⟩
  case round =>
    obtain ⟨k, hk, rfl, rfl, hx⟩ := hrel
    by_cases hlt : k < P.length
    · obtain ⟨pb, po, rfl, h1, h2, h3, h4⟩ := hca k hlt
      replace h1 := hx.cell h1; replace h2 := hx.cell h2; replace h3 := hx.cell h3; replace h4 := hx.cell h4
      have hsz := textK_len HP.out k (by omega)
      have hsc := textK_succ P k
      rw [piece_at hlt] at hsc
      have hli := line_len (i := P[k]) (HP.out _ (List.getElem_mem hlt)) (p := k) (by omega)
      have hLc := fun W => rLine_calls P[k] (HP.out _ (List.getElem_mem hlt)) (k : Int) (by omega) W
      rw [line_plain HPL.out hlt] at hLc
      have hD := fun W => rdigits_calls k (by omega) W
      have hLed := fun W (hx : Ext w W) => HhLd.out k (by omega) W hx
      have hhe : headL P k = if ledB P k = true then 76 :: (dec k ++ [58, 10]) else [] := rfl
      have hd18 := dec_20 k (by omega)
      unfold inV at hLc
      have HX := Lib.hid hx
      clear hca hx
      generalize P[k] = i at *
      generalize headL P k = hd at *
      generalize textK P k = tx at *
      generalize lineL i k = li at *
      rw [← str_size] at hsz hli hd18
      cases hled : ledB P k
      · rw [hled] at hLed hhe
        have hhe2 : hd = [] := hhe
        subst hhe2
        have hcat : str tx ++ str li ++ (⟨#[10]⟩ : ByteArray) = str (textK P (k + 1)) := by rw [show (⟨#[10]⟩ : ByteArray) = str [10] from rfl, hsc, str_app, str_app]; simp
        have Hhcat := Lib.hid hcat
        clear hcat
        have Hhsc := Lib.hid hsc
        clear hsc
        have HhLc := Lib.hid hLc
        clear hLc
        have HhLed := Lib.hid hLed
        clear hLed
        generalize str tx = sx at *
        generalize str li = sl at *
        clear hhe hled hD hd18
        go_wp2_with (first
          | (go_at_call 9; refine (HhLed.out _ HX.out).mono ?_; rintro e w3 ⟨rfl, hx3⟩; replace h1 := hx3.cell h1; replace h2 := hx3.cell h2; replace h3 := hx3.cell h3; replace h4 := hx3.cell h4; have HX3 := Lib.hid (HX.out.trans hx3); clear hx3)
          | (go_at_call 11; refine (HhLc.out _).mono ?_; rintro e w5 ⟨rfl, hx5⟩; have HX5 := Lib.hid (HX3.out.trans hx5); clear hx5))
        go_roundw
        case rel => exact ⟨k + 1, by omega, by go_num, by rw [Hhcat.out], HX5.out⟩
        case measure => simp [intOf]; omega
      · rw [hled] at hLed
        rw [hled, if_pos rfl] at hhe
        have hcat : str tx ++ (⟨#[76]⟩ : ByteArray) ++ str (dec k) ++ (⟨#[58, 10]⟩ : ByteArray) ++ str li ++ (⟨#[10]⟩ : ByteArray) = str (textK P (k + 1)) := by
          rw [show (⟨#[10]⟩ : ByteArray) = str [10] from rfl, show (⟨#[76]⟩ : ByteArray) = str [76] from rfl, show (⟨#[58, 10]⟩ : ByteArray) = str [58, 10] from rfl, hsc, hhe]
          simp only [str_app]; simp
        have Hhcat := Lib.hid hcat
        clear hcat
        have Hhsc := Lib.hid hsc
        clear hsc
        have HhLc := Lib.hid hLc
        clear hLc
        have HhLed := Lib.hid hLed
        clear hLed
        have HhD := Lib.hid hD
        clear hD
        generalize str tx = sx at *
        generalize str li = sl at *
        generalize str (dec k) = sd at *
        clear hhe hled
        go_wp2_with (first
          | (go_at_call 9; refine (HhLed.out _ HX.out).mono ?_; rintro e w3 ⟨rfl, hx3⟩; replace h1 := hx3.cell h1; replace h2 := hx3.cell h2; replace h3 := hx3.cell h3; replace h4 := hx3.cell h4; have HX3 := Lib.hid (HX.out.trans hx3); clear hx3)
          | (go_at_call 10; refine (HhD.out _).mono ?_; rintro e w4 ⟨rfl, hx4⟩; replace h1 := hx4.cell h1; replace h2 := hx4.cell h2; replace h3 := hx4.cell h3; replace h4 := hx4.cell h4; have HX4 := Lib.hid (HX3.out.trans hx4); clear hx4)
          | (go_at_call 11; refine (HhLc.out _).mono ?_; rintro e w5 ⟨rfl, hx5⟩; have HX5 := Lib.hid (HX4.out.trans hx5); clear hx5))
        go_roundw
        case rel => exact ⟨k + 1, by omega, by go_num, by rw [Hhcat.out], HX5.out⟩
        case measure => simp [intOf]; omega
    · have hkk : k = P.length := by omega
      have HX := Lib.hid hx
      have Hhkk := Lib.hid hkk
      clear hkk
      clear hca hx
      go_wp2_with fail
      go_ret
      exact ⟨by rw [Hhkk.out]; rfl, HX.out⟩
end L07
end Go.Proofs.YtbpmokffhmiacaaGreatDoor
