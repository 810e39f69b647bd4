/- Layer 13: the walk of the law UnitWritten. -/
import Derived.StillTailTactics
import Derived.Deep.DeepCutAuto
import Derived.Test.YteheegkdcphapaaLineK
import Derived.Test.YteheegkdcphapaaUnitQ
import Derived.Test.YteheegkdcphapaaUnitX
namespace Go.Proofs.Yteheegkdcphapaa
open Go.RowKit Go.Shelf V
attribute [local go_sem] Oper.semAt_some Option.isSome_some
namespace L12
/-- an assignment of the input: file, line, section, key, value -/
abbrev AsI := ByteArray × Int × List UInt8 × List UInt8 × List UInt8
def encAI (x : AsI) : List Value := [.string x.1, .int .i64 x.2.1, .string (str x.2.2.1), .string (str x.2.2.2.1), .string (str x.2.2.2.2)]
def OkAI (x : AsI) : Prop := x.2.2.1.length ≤ maxLen ∧ x.2.2.2.1.length ≤ maxLen ∧ x.2.2.2.2.length ≤ maxLen
theorem rdAI_cell {w : World} {v : Value} {xs : List AsI} (h : Rd w 5 encAI v xs) : ∃ a c, v = .slice a xs.length c ∧ xs.length ≤ c ∧ ∀ i, (hi : i < xs.length) → ∃ b o, a = some ⟨b, o, none⟩ ∧ w.cell? ⟨b, o + i * 5, none⟩ = some (.string (xs[i]).1) ∧ w.cell? ⟨b, o + i * 5 + 1, none⟩ = some (.int .i64 (xs[i]).2.1) ∧ w.cell? ⟨b, o + i * 5 + 2, none⟩ = some (.string (str (xs[i]).2.2.1)) ∧ w.cell? ⟨b, o + i * 5 + 3, none⟩ = some (.string (str (xs[i]).2.2.2.1)) ∧ w.cell? ⟨b, o + i * 5 + 4, none⟩ = some (.string (str (xs[i]).2.2.2.2)) := by
  obtain ⟨a, c, h1, h2, h3, h4⟩ := h
  refine ⟨a, c, h1, h2, fun i hi => ?_⟩
  obtain ⟨b, o, e, k⟩ := h4 i hi
  have k0 := k 0 (by simp [encAI])
  have k1 := k 1 (by simp [encAI])
  have k2 := k 2 (by simp [encAI])
  have k3 := k 3 (by simp [encAI])
  have k4 := k 4 (by simp [encAI])
  exact ⟨b, o, e, by simpa [encAI] using k0, by simpa [encAI] using k1, by simpa [encAI] using k2, by simpa [encAI] using k3, by simpa [encAI] using k4⟩
set_option maxRecDepth 100000 in
set_option maxHeartbeats 4000000 in
theorem UnitWritten_calls (v : Value) (xs : List AsI) (hxm : xs.length ≤ maxLen) (hok : ∀ x ∈ xs, OkAI x) (blanks : Bool) (w : World) (hv : Rd w 5 encAI v xs) :
    Calls Try.prog 10 #[v, .bool blanks] w fun e w' => e = .returned (.bool true) ∧ Ext w w' := by
  have hA := fun W => awake13_calls W
  obtain ⟨ax, cx, rfl, hacx, hcx⟩ := rdAI_cell hv
  unfold maxLen at hxm
  clear hv
  have HhA := Lib.hid hA
  clear hA
  have Hhcx := Lib.hid hcx
  clear hcx
  have Hhok := Lib.hid hok
  clear hok
  by_cases hl : 40 < xs.length
  · have h1 : decide (40 < xs.length) = true := decide_eq_true hl
    have h2 : decide ((40 : Int) < (xs.length : Int)) = true := decide_eq_true (by omega)
    have Hhl := Lib.hid hl
    clear hl
    go_enter Try.func10, Try.ntmps10
    go_wp2_with fail
    refine (HhA.out _).mono ?_
    rintro e w1 ⟨rfl, hx1⟩
    go_wp2_with fail
    go_ret
    exact ⟨rfl, hx1⟩
  have h1 : decide (40 < xs.length) = false := decide_eq_false hl
  have h2 : decide ((40 : Int) < (xs.length : Int)) = false := decide_eq_false (by omega)
  have hxl : xs.length ≤ 40 := by omega
  go_enter Try.func10, Try.ntmps10
  go_wp2_with fail
  clear h1 h2 hl
  go_loopw [5, 6, 7, 8] (fun us un ua ui wr => ∃ (i nn : Nat) (S : List UInt8) (al : List As) (aa : Option Addr) (ca : Nat), i ≤ xs.length ∧ ui = .int .i64 (i : Int) ∧ un = .int .i64 (nn : Int) ∧ us = .string (str S) ∧ ua = .slice aa al.length ca ∧ al.length ≤ i ∧ nn ≤ 2 * i ∧ S.length ≤ 200 * i ∧ PW S nn al ∧
    wr.ownsRow w.heap.size 61 5 (.slice aa al.length ca) al.length (al.flatMap (encAs ⟨#[102]⟩)) ∧ Ext w wr) (fun _ _ _ ui _ => xs.length - (intOf ui).toNat)
  case atStart => exact ⟨0, 0, [], [], none, 0, Nat.zero_le _, rfl, rfl, rfl, rfl, Nat.zero_le _, Nat.zero_le _, Nat.zero_le _, PW.start, World.ownsRow_nil _ _ _ _, Ext.refl _⟩
  case round =>
    obtain ⟨i, nn, S, al, aa, ca, hi, rfl, rfl, rfl, rfl, hal, hnn, hSl, hPW, ho, hx⟩ := hrel
    have HO := Lib.hid ho
    have HX := Lib.hid hx
    have HP := Lib.hid hPW
    by_cases hlt : i < xs.length
    · obtain ⟨b, o, rfl, d0, d1, d2, d3, d4⟩ := Hhcx.out i hlt
      replace d0 := hx.cell d0
      replace d1 := hx.cell d1
      replace d2 := hx.cell d2
      replace d3 := hx.cell d3
      replace d4 := hx.cell d4
      obtain ⟨k1, k2, k3⟩ := Hhok.out _ (List.getElem_mem hlt)
      clear hx ho hPW
      generalize xs[i] = x at *
      obtain ⟨fn, ln, sec, key, val⟩ := x
      dsimp only at d0 d1 d2 d3 d4 k1 k2 k3
      have hW1 := fun W => word_calls (str sec) (by rw [str_size]; exact k1) true W
      have hW2 := fun W => word_calls (str key) (by rw [str_size]; exact k2) false W
      have hV := fun W => value_calls (str val) (by rw [str_size]; exact k3) W
      rw [bytes_strX] at hW1 hW2 hV
      have HhW1 := Lib.hid hW1
      clear hW1
      have HhW2 := Lib.hid hW2
      clear hW2
      have HhV := Lib.hid hV
      clear hV
      obtain ⟨W1, hW1'⟩ : ∃ W1, W1 = wr.alloc (.cells #[.string fn, .int .i64 ln, .string (str sec), .string (str key), .string (str val)] 61) := ⟨_, rfl⟩
      have g2 : W1.cell? ⟨wr.heap.size, 2, none⟩ = some (.string (str sec)) := by rw [hW1']; exact cells_new wr [.string fn, .int .i64 ln, .string (str sec), .string (str key), .string (str val)] _ 2 _ rfl
      have g3 : W1.cell? ⟨wr.heap.size, 3, none⟩ = some (.string (str key)) := by rw [hW1']; exact cells_new wr [.string fn, .int .i64 ln, .string (str sec), .string (str key), .string (str val)] _ 3 _ rfl
      have g4 : W1.cell? ⟨wr.heap.size, 4, none⟩ = some (.string (str val)) := by rw [hW1']; exact cells_new wr [.string fn, .int .i64 ln, .string (str sec), .string (str key), .string (str val)] _ 4 _ rfl
      have HX1 : Hid (Ext w W1) := Lib.hid (by rw [hW1']; exact HX.out.alloc _)
      have HO1 : Hid (W1.ownsRow w.heap.size 61 5 (.slice aa al.length ca) al.length (al.flatMap (encAs ⟨#[102]⟩))) := Lib.hid (by rw [hW1']; exact World.ownsRow.alloc HO.out _)
      have HW := Lib.hid hW1'
      clear hW1'
      go_upto_region 9 with fail
      rw [← HW.out]
      clear HW d0 d1 d2 d3 d4
      have hB := World.block_lt_of_cell? _ _ g2
      generalize wr.heap.size = B at *
      go_wp2_with fail
      refine (HhW1.out _).mono ?_
      rintro e w5 ⟨b1, rfl, hb1, rfl⟩
      cases b1
      case false =>
        go_wp2_with fail
        refine (HhA.out _).mono ?_
        rintro e w8 ⟨rfl, hx8⟩
        go_wp2_with fail
        go_ret
        exact ⟨rfl, HX1.out.trans hx8⟩
      case true =>
        go_wp2_with fail
        refine (HhW2.out _).mono ?_
        rintro e w5 ⟨b2, rfl, hb2, rfl⟩
        cases b2
        case false =>
          go_wp2_with fail
          refine (HhA.out _).mono ?_
          rintro e w8 ⟨rfl, hx8⟩
          go_wp2_with fail
          go_ret
          exact ⟨rfl, HX1.out.trans hx8⟩
        case true =>
          go_wp2_with fail
          refine (HhV.out _).mono ?_
          rintro e w5 ⟨b3, rfl, hb3, rfl⟩
          cases b3
          case false =>
            go_wp2_with fail
            refine (HhA.out _).mono ?_
            rintro e w8 ⟨rfl, hx8⟩
            go_wp2_with fail
            go_ret
            exact ⟨rfl, HX1.out.trans hx8⟩
          case true =>
            have p1 := hb1 (by simp)
            have p2 := hb2 (by simp)
            have p3 := hb3 (by simp)
            have l1 : sec.length ≤ 60 := p1.2.1
            have l2 : key.length ≤ 60 := p2.2.1
            have l3 : val.length ≤ 60 := p3.1
            have lS : S.length ≤ 8000 := by omega
            have hstep := HP.out.step p1 p2 p3 blanks
            clear hb1 hb2 hb3 k1 k2 k3
            have Hp1 := Lib.hid p1
            clear p1
            have Hp2 := Lib.hid p2
            clear p2
            have Hp3 := Lib.hid p3
            clear p3
            have Hhstep := Lib.hid hstep
            clear hstep
            cases blanks
            case true =>
              have hstr : str S ++ (⟨#[91]⟩ : ByteArray) ++ str sec ++ (⟨#[93, 10]⟩ : ByteArray) ++ str key ++ (⟨#[32, 9, 61, 32]⟩ : ByteArray) ++ str val ++ (⟨#[10]⟩ : ByteArray) = str (S ++ [91] ++ sec ++ [93, 10] ++ key ++ eqB true ++ val ++ [10]) := by
                rw [← str_app, ← str_app, ← str_app, ← str_app, ← str_app, ← str_app, ← str_app]; rfl
              have hlen : (S ++ [91] ++ sec ++ [93, 10] ++ key ++ eqB true ++ val ++ [10]).length ≤ 200 * (i + 1) := by
                simp [eqB]; omega
              have Hhstr := Lib.hid hstr
              clear hstr
              have Hhlen := Lib.hid hlen
              clear hlen
              go_wp2_with (at_builtin
                           refine wpList_app_rd rfl (.tmp 64) (.tmp 73) _ rfl Try.underlying50 infoAs rfl (by decide) (encAs_len ⟨#[102]⟩) (encAs_one ⟨#[102]⟩) w _ _ al [(nn + 2, sec, key, val)] rfl rfl (World.ownsRow.alloc HO1.out _) (rd_lit (encAs_len ⟨#[102]⟩) W1 [(nn + 2, sec, key, val)] _ _ rfl) (by simp; omega) (by decide) (HX1.out.alloc _) ?_
                           intro au5 cu5 w5 ho5 hx5
                           have HO5 := Lib.hid ho5
                           have HX5 := Lib.hid hx5
                           clear ho5 hx5)
              go_roundw
              case rel => exact ⟨i + 1, nn + 2, _, al ++ [(nn + 2, sec, key, val)], au5, cu5, by omega, by go_num, by go_num, by rw [Hhstr.out], by simp, by simp; omega, by omega, Hhlen.out, Hhstep.out, by simpa using HO5.out, HX5.out⟩
              case measure => simp [intOf]; omega
            case false =>
              have hstr : str S ++ (⟨#[91]⟩ : ByteArray) ++ str sec ++ (⟨#[93, 10]⟩ : ByteArray) ++ str key ++ (⟨#[61]⟩ : ByteArray) ++ str val ++ (⟨#[10]⟩ : ByteArray) = str (S ++ [91] ++ sec ++ [93, 10] ++ key ++ eqB false ++ val ++ [10]) := by
                rw [← str_app, ← str_app, ← str_app, ← str_app, ← str_app, ← str_app, ← str_app]; rfl
              have hlen : (S ++ [91] ++ sec ++ [93, 10] ++ key ++ eqB false ++ val ++ [10]).length ≤ 200 * (i + 1) := by
                simp [eqB]; omega
              have Hhstr := Lib.hid hstr
              clear hstr
              have Hhlen := Lib.hid hlen
              clear hlen
              go_wp2_with (at_builtin
                           refine wpList_app_rd rfl (.tmp 64) (.tmp 73) _ rfl Try.underlying50 infoAs rfl (by decide) (encAs_len ⟨#[102]⟩) (encAs_one ⟨#[102]⟩) w _ _ al [(nn + 2, sec, key, val)] rfl rfl (World.ownsRow.alloc HO1.out _) (rd_lit (encAs_len ⟨#[102]⟩) W1 [(nn + 2, sec, key, val)] _ _ rfl) (by simp; omega) (by decide) (HX1.out.alloc _) ?_
                           intro au5 cu5 w5 ho5 hx5
                           have HO5 := Lib.hid ho5
                           have HX5 := Lib.hid hx5
                           clear ho5 hx5)
              go_roundw
              case rel => exact ⟨i + 1, nn + 2, _, al ++ [(nn + 2, sec, key, val)], au5, cu5, by omega, by go_num, by go_num, by rw [Hhstr.out], by simp, by simp; omega, by omega, Hhlen.out, Hhstep.out, by simpa using HO5.out, HX5.out⟩
              case measure => simp [intOf]; omega
    · obtain rfl : i = xs.length := by omega
      clear hx ho hPW
      have hpar := HP.out.parse (by omega) (by omega)
      obtain ⟨s, hs⟩ : ∃ s, s = str S := ⟨_, rfl⟩
      have hbs : bytes s = S := by rw [hs, bytes_strX]
      have hss : s.size ≤ 10000 := by rw [← bytes_len, hbs]; omega
      rw [← hs]
      have hcv := fun W => conv_str W s
      have hPc := fun u W (h : Rd W 1 encB u S) => Parse_calls ⟨#[102]⟩ 0 u S (by omega) W h
      rw [hpar] at hPc
      have hSa := fun u v W (h : Rd W 5 (encAs ⟨#[102]⟩) u al) (h2 : Rd W 5 (encAs ⟨#[102]⟩) v al) => sameAs_calls ⟨#[102]⟩ u v al al (by omega) (by omega) W h h2
      rw [decide_eq_true rfl] at hSa
      unfold fileV at hPc
      have HhPc := Lib.hid hPc
      clear hPc
      have HhSa := Lib.hid hSa
      clear hSa
      have Hhpar := Lib.hid hpar
      clear hpar
      have Hhs := Lib.hid hs
      clear hs
      go_wp2_with fail
      have hrd : Rd ((wr.alloc (.cells (bytesRow s (grownCap wr s.size 0 5)) 5 ((bytesRow s (grownCap wr s.size 0 5)).size, (bytesRow s (grownCap wr s.size 0 5)).size + 1))).drew) 1 encB (.slice (some ⟨wr.heap.size, 0, none⟩) s.size (grownCap wr s.size 0 5)) S := by
        have h := rd_bytes wr s (grownCap wr s.size 0 5) (grownCap_ge _ _ _ _) ((bytesRow s (grownCap wr s.size 0 5)).size, (bytesRow s (grownCap wr s.size 0 5)).size + 1)
        rw [hbs] at h
        exact h.ext ((Ext.refl _).drew)
      refine (HhPc.out _ _ hrd).mono ?_
      rintro e w3 ⟨ua, un, rfl, hx3, ho1, ho2⟩
      obtain ⟨a1, c1, rfl⟩ := own_form ho1
      obtain ⟨a2, c2, rfl⟩ := own_form ho2
      have HXa : Hid (Ext wr w3) := Lib.hid ((((Ext.refl wr).alloc _).drew).trans hx3)
      have HR1 := Lib.hid (rd_of_own (encAs_len _) ho1)
      dsimp only [List.length_nil] at *
      clear hx3 hrd hcv ho1 ho2
      go_wp2_with fail
      refine (HhSa.out _ _ _ HR1.out (rd_of_own (encAs_len _) (own_ext HO.out HXa.out))).mono ?_
      rintro e w4 ⟨rfl, hx4⟩
      have HX4 := Lib.hid ((HX.out.trans HXa.out).trans hx4)
      clear hx4
      go_wp2_with fail
      refine (HhA.out _).mono ?_
      rintro e w11 ⟨rfl, hx11⟩
      go_wp2_with fail
      go_ret
      exact ⟨rfl, HX4.out.trans hx11⟩
end L12
end Go.Proofs.Yteheegkdcphapaa
