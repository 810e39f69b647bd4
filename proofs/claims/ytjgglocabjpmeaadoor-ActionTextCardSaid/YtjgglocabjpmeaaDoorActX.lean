/- Layer 20: the walk of the law ActionText. (Printed by wip/tools/mkactx.py.) -/
import Derived.Test.YtjgglocabjpmeaaDoorActU
namespace Go.Proofs.YtjgglocabjpmeaaDoor
open Go.RowKit Go.Shelf Go.Sort V
attribute [local go_sem] Oper.semAt_some
namespace L20
theorem textA_len (a : Nat) : (textA a).length ≤ 40 := by
  have h1 := nm_len (a / 65536)
  have h2 := dec_len (a % 65536) (by omega)
  unfold textA
  split
  · simp
  split
  · simp; omega
  · omega
set_option maxRecDepth 100000 in
set_option maxHeartbeats 4000000 in
theorem ActionText_calls (a : Nat) (ha : a < 4294967296) (s : ByteArray) (w : World) (ht : Tab w) :
    Calls Tryd.prog 3 #[.int .u32 (a : Int), .string s] w fun e w' => e = .returned (.bool true) ∧ Ext w w' := by
  by_cases h1 : 100 < s.size
  · have g1 : decide (100 < s.size) = true := decide_eq_true h1
    have g2 : decide ((100 : Int) < (s.size : Int)) = true := decide_eq_true (by omega)
    go_enter Tryd.func3, Tryd.ntmps3
    go_wp2_with fail
    go_ret
    exact ⟨rfl, Ext.refl _⟩
  have g1 : decide (100 < s.size) = false := decide_eq_false h1
  have g2 : decide ((100 : Int) < (s.size : Int)) = false := decide_eq_false (by omega)
  have hT := fun W (h : Tab W) => Text_calls a ha W h
  have hrT := fun W => rText_calls a ha W
  have hl := textA_len a
  have hP := fun W (h : Tab W) => Parse_calls (str (textA a)) (by rw [str_size]; omega) W h
  rw [bytes_str] at hP
  have hK := fun W => refKnown_calls a ha W
  have hQ := fun W (h : Tab W) => Parse_calls s (by omega) W h
  obtain ⟨hy, hok⟩ := parA_ok (bytes s)
  have hrY := fun W => rText_calls (parA (bytes s)).1 hy W
  have hpt := parA_text a
  have hno := textA_no a
  obtain ⟨R, hR⟩ : ∃ R, R = parA (bytes s) := ⟨_, rfl⟩
  rw [← hR] at hQ hy hok hrY
  clear hR hl
  obtain ⟨y, f⟩ := R
  dsimp only at hQ hy hok hrY
  have HT := Lib.hid ht
  clear ht
  cases hk : kn a
  · rw [hk] at hK
    rw [hno hk, parA_nil] at hP
    rw [hno hk] at hT hrT
    clear hno hpt hk
    generalize str [] = tx at *
    have HX0 := Lib.hid (Ext.refl w)
    rcases hok with ⟨h0, h2⟩ | h0
    · obtain rfl : f = 0 := h0
      have h2 : str (textA y) = s := by rw [show textA y = bytes s from h2, str_bytes]
      rw [h2] at hrY
      clear h2
      have HhT := Lib.hid hT
      clear hT
      have HhrT := Lib.hid hrT
      clear hrT
      have HhP := Lib.hid hP
      clear hP
      have HhK := Lib.hid hK
      clear hK
      have HhQ := Lib.hid hQ
      clear hQ
      have HhrY := Lib.hid hrY
      clear hrY
      go_enter Tryd.func3, Tryd.ntmps3
      go_wp2_with fail
      refine (HhT.out _ (HT.out.ext HX0.out)).mono ?_
      rintro _ w1 ⟨rfl, hx⟩
      have HX1 := Lib.hid (HX0.out.trans hx)
      clear hx
      go_wp2_with fail
      refine (HhrT.out _).mono ?_
      rintro _ w2 ⟨rfl, hx⟩
      have HX2 := Lib.hid (HX1.out.trans hx)
      clear hx
      go_wp2_with fail
      refine (HhP.out _ (HT.out.ext HX2.out)).mono ?_
      rintro _ w3 ⟨rfl, hx⟩
      have HX3 := Lib.hid (HX2.out.trans hx)
      clear hx
      go_wp2_with fail
      refine (HhK.out _).mono ?_
      rintro _ w4 ⟨rfl, hx⟩
      have HX4 := Lib.hid (HX3.out.trans hx)
      clear hx
      go_wp2_with fail
      refine (HhQ.out _ (HT.out.ext HX4.out)).mono ?_
      rintro _ w5 ⟨rfl, hx⟩
      have HX5 := Lib.hid (HX4.out.trans hx)
      clear hx
      go_wp2_with fail
      refine (HhrY.out _).mono ?_
      rintro _ w6 ⟨rfl, hx⟩
      have HX6 := Lib.hid (HX5.out.trans hx)
      clear hx
      go_wp2_with fail
      go_ret
      exact ⟨rfl, HX6.out⟩
    · obtain ⟨rfl, rfl⟩ := Prod.mk.inj h0
      clear hrY h0
      have HhT := Lib.hid hT
      clear hT
      have HhrT := Lib.hid hrT
      clear hrT
      have HhP := Lib.hid hP
      clear hP
      have HhK := Lib.hid hK
      clear hK
      have HhQ := Lib.hid hQ
      clear hQ
      go_enter Tryd.func3, Tryd.ntmps3
      go_wp2_with fail
      refine (HhT.out _ (HT.out.ext HX0.out)).mono ?_
      rintro _ w1 ⟨rfl, hx⟩
      have HX1 := Lib.hid (HX0.out.trans hx)
      clear hx
      go_wp2_with fail
      refine (HhrT.out _).mono ?_
      rintro _ w2 ⟨rfl, hx⟩
      have HX2 := Lib.hid (HX1.out.trans hx)
      clear hx
      go_wp2_with fail
      refine (HhP.out _ (HT.out.ext HX2.out)).mono ?_
      rintro _ w3 ⟨rfl, hx⟩
      have HX3 := Lib.hid (HX2.out.trans hx)
      clear hx
      go_wp2_with fail
      refine (HhK.out _).mono ?_
      rintro _ w4 ⟨rfl, hx⟩
      have HX4 := Lib.hid (HX3.out.trans hx)
      clear hx
      go_wp2_with fail
      refine (HhQ.out _ (HT.out.ext HX4.out)).mono ?_
      rintro _ w5 ⟨rfl, hx⟩
      have HX5 := Lib.hid (HX4.out.trans hx)
      clear hx
      go_wp2_with fail
      go_ret
      exact ⟨rfl, HX5.out⟩
  · rw [hk] at hK
    rw [hpt hk] at hP
    clear hno hpt hk
    generalize str (textA a) = tx at *
    have HX0 := Lib.hid (Ext.refl w)
    rcases hok with ⟨h0, h2⟩ | h0
    · obtain rfl : f = 0 := h0
      have h2 : str (textA y) = s := by rw [show textA y = bytes s from h2, str_bytes]
      rw [h2] at hrY
      clear h2
      have HhT := Lib.hid hT
      clear hT
      have HhrT := Lib.hid hrT
      clear hrT
      have HhP := Lib.hid hP
      clear hP
      have HhK := Lib.hid hK
      clear hK
      have HhQ := Lib.hid hQ
      clear hQ
      have HhrY := Lib.hid hrY
      clear hrY
      go_enter Tryd.func3, Tryd.ntmps3
      go_wp2_with fail
      refine (HhT.out _ (HT.out.ext HX0.out)).mono ?_
      rintro _ w1 ⟨rfl, hx⟩
      have HX1 := Lib.hid (HX0.out.trans hx)
      clear hx
      go_wp2_with fail
      refine (HhrT.out _).mono ?_
      rintro _ w2 ⟨rfl, hx⟩
      have HX2 := Lib.hid (HX1.out.trans hx)
      clear hx
      go_wp2_with fail
      refine (HhP.out _ (HT.out.ext HX2.out)).mono ?_
      rintro _ w3 ⟨rfl, hx⟩
      have HX3 := Lib.hid (HX2.out.trans hx)
      clear hx
      go_wp2_with fail
      refine (HhK.out _).mono ?_
      rintro _ w4 ⟨rfl, hx⟩
      have HX4 := Lib.hid (HX3.out.trans hx)
      clear hx
      go_wp2_with fail
      refine (HhQ.out _ (HT.out.ext HX4.out)).mono ?_
      rintro _ w5 ⟨rfl, hx⟩
      have HX5 := Lib.hid (HX4.out.trans hx)
      clear hx
      go_wp2_with fail
      refine (HhrY.out _).mono ?_
      rintro _ w6 ⟨rfl, hx⟩
      have HX6 := Lib.hid (HX5.out.trans hx)
      clear hx
      go_wp2_with fail
      go_ret
      exact ⟨rfl, HX6.out⟩
    · obtain ⟨rfl, rfl⟩ := Prod.mk.inj h0
      clear hrY h0
      have HhT := Lib.hid hT
      clear hT
      have HhrT := Lib.hid hrT
      clear hrT
      have HhP := Lib.hid hP
      clear hP
      have HhK := Lib.hid hK
      clear hK
      have HhQ := Lib.hid hQ
      clear hQ
      go_enter Tryd.func3, Tryd.ntmps3
      go_wp2_with fail
      refine (HhT.out _ (HT.out.ext HX0.out)).mono ?_
      rintro _ w1 ⟨rfl, hx⟩
      have HX1 := Lib.hid (HX0.out.trans hx)
      clear hx
      go_wp2_with fail
      refine (HhrT.out _).mono ?_
      rintro _ w2 ⟨rfl, hx⟩
      have HX2 := Lib.hid (HX1.out.trans hx)
      clear hx
      go_wp2_with fail
      refine (HhP.out _ (HT.out.ext HX2.out)).mono ?_
      rintro _ w3 ⟨rfl, hx⟩
      have HX3 := Lib.hid (HX2.out.trans hx)
      clear hx
      go_wp2_with fail
      refine (HhK.out _).mono ?_
      rintro _ w4 ⟨rfl, hx⟩
      have HX4 := Lib.hid (HX3.out.trans hx)
      clear hx
      go_wp2_with fail
      refine (HhQ.out _ (HT.out.ext HX4.out)).mono ?_
      rintro _ w5 ⟨rfl, hx⟩
      have HX5 := Lib.hid (HX4.out.trans hx)
      clear hx
      go_wp2_with fail
      go_ret
      exact ⟨rfl, HX5.out⟩
end L20
end Go.Proofs.YtjgglocabjpmeaaDoor
