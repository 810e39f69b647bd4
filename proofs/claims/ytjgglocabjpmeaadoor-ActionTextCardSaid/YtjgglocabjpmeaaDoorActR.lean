/- Layer 20: the walks of Text, and of the reference's digits and Text. -/
import Derived.Test.YtjgglocabjpmeaaDoorKept
import Derived.Test.YtjgglocabjpmeaaDoorActQ
namespace Go.Proofs.YtjgglocabjpmeaaDoor
open Go.RowKit Go.Shelf Go.Sort V
attribute [local go_sem] Oper.semAt_some
namespace L20
/-- the table and the errors that strconv reads -/
def Tab (W : World) : Prop := Lib.TabIs Tryd.prog W "internal/strconv.uint64pow10" .u64 Lib.pow10Tab ∧ (∃ tp p, W.var? Tryd.prog "strconv.ErrSyntax" = some #[.iface tp p]) ∧ ∃ tp p, W.var? Tryd.prog "strconv.ErrRange" = some #[.iface tp p]
theorem Tab.ext {w w' : World} (h : Tab w) (hx : Ext w w') : Tab w' :=
  ⟨Go.Joins.tab_stays (g := 3) (by kernel_rfl) h.1 hx (Nat.le_refl _), h.2.1.imp fun _ h => h.imp fun _ h => Go.Joins.var_stays (g := 1) (by kernel_rfl) h hx (Nat.le_refl _),
    h.2.2.imp fun _ h => h.imp fun _ h => Go.Joins.var_stays (g := 2) (by kernel_rfl) h hx (Nat.le_refl _)⟩
/-- an answer's text -/
def textA (a : Nat) : List UInt8 := if nm (a / 65536) = [] then [] else if a % 65536 ≠ 0 ∨ a / 65536 = 5 then nm (a / 65536) ++ 32 :: Lib.decDigits (a % 65536) else nm (a / 65536)
theorem nm_len (k : Nat) : (nm k).length ≤ 10 := by unfold nm; (repeat' split) <;> simp
set_option maxRecDepth 100000 in
set_option maxHeartbeats 2000000 in
theorem Text_calls (a : Nat) (h : a < 4294967296) (w : World) (ht : Tab w) : Calls Tryd.prog 8 #[.int .u32 (a : Int)] w fun e w' => e = .returned (.string (str (textA a))) ∧ Ext w w' := by
  have hN := fun W => name_calls a h W
  change ∀ W, Calls Tryd.prog 16 #[.int .u32 (a : Int)] W fun e w' => e = .returned (.string (str (nm (a / 65536)))) ∧ Ext W w' at hN
  have hD := fun W => Data_calls a h W
  have hO := fun W => Only_calls a h W
  have hI := fun W (h : Lib.TabIs Tryd.prog W "internal/strconv.uint64pow10" .u64 Lib.pow10Tab) => Tryd.strconv_Itoa ((a % 65536 : Nat) : Int) (by omega) (by omega) W h
  rw [show (⟨(Lib.itoa ((a % 65536 : Nat) : Int)).toArray⟩ : ByteArray) = str (Lib.decDigits (a % 65536)) from by unfold Lib.itoa; rw [if_neg (by omega)]; rfl] at hI
  have hE : textA a = if nm (a / 65536) = [] then [] else if a % 65536 ≠ 0 ∨ a / 65536 = 5 then nm (a / 65536) ++ 32 :: Lib.decDigits (a % 65536) else nm (a / 65536) := rfl
  have hsb := str_emp (nm (a / 65536))
  have hl1 := nm_len (a / 65536)
  have hl2 := dec_len (a % 65536) (by omega)
  rw [← str_size] at hl1 hl2
  have hd : a % 65536 < 65536 := Nat.mod_lt _ (by omega)
  have hcat : str (nm (a / 65536)) ++ ((⟨#[32]⟩ : ByteArray) ++ str (Lib.decDigits (a % 65536))) = str (nm (a / 65536) ++ 32 :: Lib.decDigits (a % 65536)) := by
    rw [show (⟨#[32]⟩ : ByteArray) = str [32] from rfl, str_app, str_app]; simp
  rw [hE]
  clear hE
  have HT := Lib.hid ht
  clear ht
  generalize a % 65536 = d at *
  generalize hq : a / 65536 = q at *
  generalize nm q = L at *
  generalize Lib.decDigits d = D at *
  have hw : IntKind.i64.wrap (d : Int) = (d : Int) := IntWalk.i64_in _ (by omega)
  have HhN := Lib.hid hN
  clear hN
  have HhD := Lib.hid hD
  clear hD
  have HhO := Lib.hid hO
  clear hO
  have HhI := Lib.hid hI
  clear hI
  by_cases hL : L = []
  · subst hL
    rw [if_pos rfl]
    have hsb : (str []).toList.isEmpty = true := by rw [hsb]; rfl
    clear hcat
    generalize str [] = ls at *
    go_enter Tryd.func8, Tryd.ntmps8
    go_wp2_with fail
    refine (HhN.out _).mono ?_
    rintro e w1 ⟨rfl, hx1⟩
    have HX1 := Lib.hid hx1
    clear hx1
    go_wp2_with fail
    go_ret
    exact ⟨rfl, HX1.out⟩
  · rw [if_neg hL]
    rw [decide_eq_false hL] at hsb
    by_cases h0 : d = 0
    · subst h0
      by_cases h5 : q = 5
      · subst h5
        rw [if_pos (.inr rfl)]
        rw [← hcat]
        clear hcat
        generalize str L = ls at *
        generalize str D = ds at *
        go_enter Tryd.func8, Tryd.ntmps8
        go_wp2_with fail
        refine (HhN.out _).mono ?_
        rintro e w1 ⟨rfl, hx1⟩
        have HX1 := Lib.hid hx1
        clear hx1
        go_wp2_with fail
        refine (HhD.out _).mono ?_
        rintro e w2 ⟨rfl, rfl⟩
        go_wp2_with fail
        refine (HhO.out _).mono ?_
        rintro e w2 ⟨rfl, rfl⟩
        go_wp2_with fail
        refine (HhD.out _).mono ?_
        rintro e w2 ⟨rfl, rfl⟩
        go_wp2_with fail
        refine (HhI.out _ (HT.out.ext HX1.out).1).mono ?_
        rintro e w3 ⟨rfl, k, os, rfl⟩
        go_wp2_with fail
        go_ret
        exact ⟨rfl, HX1.out.trans (ext_grow _ _ _)⟩
      · have hr : ¬ ((0 : Nat) ≠ 0 ∨ q = 5) := fun e => e.elim (fun e => e rfl) h5
        rw [if_neg hr]
        clear hcat
        have hq5 : (((q * 65536 : Nat) : Int) == 327680) = false := by rw [beq_eq_false_iff_ne]; omega
        generalize str L = ls at *
        go_enter Tryd.func8, Tryd.ntmps8
        go_wp2_with fail
        refine (HhN.out _).mono ?_
        rintro e w1 ⟨rfl, hx1⟩
        have HX1 := Lib.hid hx1
        clear hx1
        go_wp2_with fail
        refine (HhD.out _).mono ?_
        rintro e w2 ⟨rfl, rfl⟩
        go_wp2_with fail
        refine (HhO.out _).mono ?_
        rintro e w2 ⟨rfl, rfl⟩
        generalize ((q * 65536 : Nat) : Int) = qi at *
        go_wp2_with fail
        go_ret
        exact ⟨rfl, HX1.out⟩
    · rw [if_pos (.inl h0), ← hcat]
      clear hcat
      have hd0 : ((d : Int) == 0) = false := by rw [beq_eq_false_iff_ne]; omega
      have hd1 : ((d : Int) != 0) = true := by rw [bne, hd0]; rfl
      generalize str L = ls at *
      generalize str D = ds at *
      go_enter Tryd.func8, Tryd.ntmps8
      go_wp2_with fail
      refine (HhN.out _).mono ?_
      rintro e w1 ⟨rfl, hx1⟩
      have HX1 := Lib.hid hx1
      clear hx1
      go_wp2_with fail
      refine (HhD.out _).mono ?_
      rintro e w2 ⟨rfl, rfl⟩
      go_wp2_with fail
      refine (HhD.out _).mono ?_
      rintro e w2 ⟨rfl, rfl⟩
      go_wp2_with fail
      refine (HhI.out _ (HT.out.ext HX1.out).1).mono ?_
      rintro e w3 ⟨rfl, k, os, rfl⟩
      go_wp2_with fail
      go_ret
      exact ⟨rfl, HX1.out.trans (ext_grow _ _ _)⟩
theorem u8_wrap (n : Nat) (h : n < 10) : IntKind.u32.wrap (48 + (n : Int)) = 48 + (n : Int) ∧ IntKind.u8.wrap (48 + (n : Int)) = 48 + (n : Int) ∧ ((UInt8.ofNat (48 + n)).toNat : Int) = 48 + (n : Int) :=
  ⟨by simp [IntKind.wrap, IntKind.signed, IntKind.bits]; omega, by simp [IntKind.wrap, IntKind.signed, IntKind.bits]; omega, by rw [UInt8.toNat_ofNat']; omega⟩
theorem conv_one (n : Nat) (h : n < 10) (W : World) : (convert 56 9 (.slice (some ⟨W.heap.size, 0, none⟩) 1 1)).run Tryd.prog (W.alloc (.cells #[.int .u8 (48 + (n : Int))] 5)) = .ok (.string (str [UInt8.ofNat (48 + n)])) (W.alloc (.cells #[.int .u8 (48 + (n : Int))] 5)) := by
  rw [← (u8_wrap n h).2.2]
  exact conv_rd (l := [UInt8.ofNat (48 + n)]) (rd_lit encB_len W [UInt8.ofNat (48 + n)] _ _ rfl)
theorem dec_one (n : Nat) (h : n < 10) : Lib.decDigits n = [UInt8.ofNat (48 + n)] := by rw [Lib.decDigits, dif_pos h]
theorem dec_more (n : Nat) (h : ¬ n < 10) : Lib.decDigits n = Lib.decDigits (n / 10) ++ [UInt8.ofNat (48 + n % 10)] := by
  rw [Lib.decDigits, dif_neg h]
set_option maxRecDepth 100000 in
set_option maxHeartbeats 2000000 in
theorem rdigits_calls (n : Nat) (hn : n < 4294967296) (w : World) : Calls Tryd.prog 20 #[.int .u32 (n : Int)] w fun e w' => e = .returned (.string (str (Lib.decDigits n))) ∧ Ext w w' := by
  have hlen := dec_len n hn
  obtain ⟨res, hres⟩ : ∃ res, res = str (Lib.decDigits n) := ⟨_, rfl⟩
  rw [← hres]
  have Hhres := Lib.hid hres
  clear hres
  go_enter Tryd.func20, Tryd.ntmps20
  go_wp2_with fail
  go_loopw [0, 3] (fun v t wr => ∃ (m : Nat) (l : List UInt8), v = .int .u32 (m : Int) ∧ t = .string (str l) ∧ m ≤ n ∧ Lib.decDigits n = Lib.decDigits m ++ l ∧ Ext w wr) (fun v _ _ => (intOf v).toNat)
  case atStart => exact ⟨n, [], rfl, rfl, Nat.le_refl _, by simp, Ext.refl _⟩
  case round =>
    obtain ⟨m, l, rfl, rfl, hm, hd, hx⟩ := hrel
    have HX := Lib.hid hx
    clear hx
    have hll : l.length ≤ 20 := by have := congrArg List.length hd; rw [List.length_append] at this; omega
    by_cases h10 : m < 10
    · have g1 : decide (m < 10) = true := decide_eq_true h10
      have g2 : decide ((m : Int) < 10) = true := decide_eq_true (by omega)
      have g3 : decide (10 ≤ m) = false := decide_eq_false (by omega)
      have g4 : decide ((10 : Int) ≤ (m : Int)) = false := decide_eq_false (by omega)
      obtain ⟨hw1, hw2, -⟩ := u8_wrap m h10
      have hcv := fun W => conv_one m h10 W
      rw [dec_one m h10] at hd
      have hcat : str [UInt8.ofNat (48 + m)] ++ str l = res := by rw [Hhres.out, hd, str_app]
      have hl1 : (str [UInt8.ofNat (48 + m)]).size ≤ 1 := Nat.le_refl _
      rw [← str_size] at hll
      clear hd
      generalize str [UInt8.ofNat (48 + m)] = ds at *
      generalize str l = ls at *
      have Hhcat := Lib.hid hcat
      clear hcat
      go_wp2_with fail
      go_ret
      exact ⟨by rw [← Hhcat.out]; rfl, HX.out.alloc _⟩
    · have g1 : decide (m < 10) = false := decide_eq_false h10
      have g2 : decide ((m : Int) < 10) = false := decide_eq_false (by omega)
      have g3 : decide (10 ≤ m) = true := decide_eq_true (by omega)
      have g4 : decide ((10 : Int) ≤ (m : Int)) = true := decide_eq_true (by omega)
      have hmm : (m : Int) % 10 = ((m % 10 : Nat) : Int) := by omega
      have hmd : (m : Int) / 10 = ((m / 10 : Nat) : Int) := by omega
      have h9 : m % 10 < 10 := Nat.mod_lt _ (by omega)
      obtain ⟨hw1, hw2, -⟩ := u8_wrap (m % 10) h9
      have hcv := fun W => conv_one (m % 10) h9 W
      rw [dec_more m h10, List.append_assoc] at hd
      have hcat : str [UInt8.ofNat (48 + m % 10)] ++ str l = str ([UInt8.ofNat (48 + m % 10)] ++ l) := by rw [str_app]
      have hl1 : (str [UInt8.ofNat (48 + m % 10)]).size ≤ 1 := Nat.le_refl _
      have hrel : ∃ (m' : Nat) (l' : List UInt8), Value.int .u32 ((m / 10 : Nat) : Int) = .int .u32 (m' : Int) ∧ Value.string (str ([UInt8.ofNat (48 + m % 10)] ++ l)) = .string (str l') ∧ m' ≤ n ∧ Lib.decDigits n = Lib.decDigits m' ++ l' := ⟨m / 10, _, rfl, rfl, by omega, hd⟩
      have hlt : m / 10 < m := by omega
      rw [← hcat] at hrel
      rw [← str_size] at hll
      clear hd hcat
      have Hhrel := Lib.hid hrel
      clear hrel
      generalize str [UInt8.ofNat (48 + m % 10)] = ds at *
      generalize str l = ls at *
      generalize m % 10 = m9 at *
      generalize m / 10 = md at *
      go_wp2_with fail
      go_roundw
      case rel =>
        obtain ⟨m', l', e1, e2, e3, e4⟩ := Hhrel.out
        exact ⟨m', l', e1, e2, e3, e4, HX.out.alloc _⟩
      case measure => simp [intOf]; omega
end L20
end Go.Proofs.YtjgglocabjpmeaaDoor
