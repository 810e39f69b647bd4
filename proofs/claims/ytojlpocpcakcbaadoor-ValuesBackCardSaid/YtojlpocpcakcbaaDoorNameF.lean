/- Layer 10: the walks of ErrnoName and of the reference's Digits, ErrnoName, Errno, All, Flags. -/
import Derived.Lib.SmallJoins
import Derived.Test.YtojlpocpcakcbaaDoorShelf
import Derived.Test.YtojlpocpcakcbaaDoorNameD
import Derived.Test.YtojlpocpcakcbaaDoorNameE
namespace Go.Proofs.YtojlpocpcakcbaaDoor
open Go.RowKit Go.Shelf Go.Sort V
attribute [local go_sem] Oper.semAt_some
namespace L10
/-- the table that strconv reads -/
def Tab (W : World) : Prop := Lib.TabIs Tryd.prog W "internal/strconv.uint64pow10" .u64 Lib.pow10Tab
theorem gTab0 : (Tryd.prog.globalNamed "internal/strconv.uint64pow10").isSome = true := by kernel_rfl
theorem gTab : ∃ g, Tryd.prog.globalNamed "internal/strconv.uint64pow10" = some g := Option.isSome_iff_exists.1 gTab0
theorem Tab.ext {w w' : World} (h : Tab w) (hx : Ext w w') : Tab w' := by
  obtain ⟨g, hg⟩ := gTab
  exact Go.Joins.tab_stays hg h hx (Nat.le_refl _)
theorem str_app (a b : List UInt8) : str a ++ str b = str (a ++ b) := bytes_inj (by simp [bytes, str])
theorem conv_rd {w : World} {v : Value} {l : List UInt8} (h : Rd w 1 encB v l) : (convert 64 9 v).run Tryd.prog w = .ok (.string (str l)) w := by
  obtain ⟨a, c, rfl, h1, h2, h3⟩ := h
  cases a with
  | none =>
    have hc := h2 rfl
    have hl : l = [] := List.eq_nil_of_length_eq_zero (by omega)
    subst hl
    rw [run_convert_bytes_string w _ _ _ _ _ _ Tryd.underlying64 Tryd.underlying5 Tryd.underlying9]
    rfl
  | some a =>
    by_cases h0 : l = []
    · subst h0
      exact run_convert_bytes_back w _ _ _ a c [] Tryd.underlying64 Tryd.underlying5 Tryd.underlying9 (fun j hj => by cases hj)
    · refine run_convert_bytes_back w _ _ _ a c l Tryd.underlying64 Tryd.underlying5 Tryd.underlying9 (fun j hj => ?_)
      obtain ⟨b, o, e, hat⟩ := h3 j hj
      simp only [Option.some.injEq] at e
      subst e
      have h5 := hat 0 (by simp [encB])
      have e5 : (⟨b, o, none⟩ : Addr).add j = ⟨b, o + j * 1 + 0, none⟩ := by
        unfold Addr.add; split <;> simp_all
      rw [e5]
      simpa [encB] using h5
theorem ext_grow (w : World) (k : Nat) (os : Array Obj) : Ext w (grow (w.drewN k) os) :=
  ⟨rfl, rfl, rfl, by simp [grow], fun i hi => by
    show ((w.drewN k).heap ++ os)[i]? = _
    rw [Array.getElem?_append_left (by show i < w.heap.size; omega)]
    rfl⟩
theorem dec_len : ∀ (n : Nat) (_ : n < 4294967296), (Lib.decDigits n).length ≤ 20 := by
  have key : ∀ (k n : Nat), n < 10 ^ (k + 1) → (Lib.decDigits n).length ≤ k + 1 := by
    intro k
    induction k with
    | zero => intro n h; rw [Lib.decDigits, dif_pos (by omega)]; simp
    | succ k ih =>
      intro n h
      rw [Lib.decDigits]
      split
      · simp
      · have := ih (n / 10) (by rw [Nat.pow_succ] at h; omega)
        rw [List.length_append, List.length_singleton]; omega
  intro n hn
  exact Nat.le_trans (key 9 n (by omega)) (by omega)
def enL (n : Nat) : List UInt8 := if ofL errT n = [] ∧ n ≤ 4095 then Lib.decDigits n else ofL errT n
theorem str_emp (l : List UInt8) : (str l).toList.isEmpty = decide (l = []) := by
  rw [Lib.toList_data]
  cases l <;> simp [str]
set_option maxRecDepth 100000 in
set_option maxHeartbeats 1000000 in
theorem ErrnoName_calls (n : Nat) (hn : n < 4294967296) (w : World) (ht : Tab w) : Calls Tryd.prog 17 #[.int .u32 (n : Int)] w fun e w' => e = .returned (.string (str (enL n))) ∧ Ext w w' := by
  have hT := fun W => errnos_calls W
  have hF := fun v W (h : Rd W 2 encW v errT) => of32_calls errT v n W h (by decide)
  have hI := fun W (h : Tab W) => Tryd.strconv_Itoa (n : Int) (by omega) (by omega) W h
  rw [show (⟨(Lib.itoa (n : Int)).toArray⟩ : ByteArray) = str (Lib.decDigits n) from by unfold Lib.itoa; rw [if_neg (by omega)]; rfl] at hI
  have hst := errnosSt
  have hE : enL n = if ofL errT n = [] ∧ n ≤ 4095 then Lib.decDigits n else ofL errT n := rfl
  have hsb := str_emp (ofL errT n)
  rw [hE]
  clear hE
  generalize ofL errT n = L at *
  have HT := Lib.hid ht
  obtain ⟨res, hres⟩ : ∃ res, res = str (if L = [] ∧ n ≤ 4095 then Lib.decDigits n else L) := ⟨_, rfl⟩
  rw [← hres]
  generalize Lib.decDigits n = D at *
  have HhT := Lib.hid hT
  clear hT
  have HhF := Lib.hid hF
  clear hF
  have HhI := Lib.hid hI
  clear hI
  clear ht
  have hwn : IntKind.i64.wrap (n : Int) = (n : Int) := IntWalk.i64_in _ (by omega)
  by_cases hL : L = []
  · rw [decide_eq_true hL] at hsb
    by_cases h9 : n ≤ 4095
    · have g1 : decide (n ≤ 4095) = true := decide_eq_true h9
      have g2 : decide ((n : Int) ≤ 4095) = true := decide_eq_true (by omega)
      rw [if_pos ⟨hL, h9⟩] at hres
      have Hhres := Lib.hid hres
      clear hres
      clear hL
      generalize str L = ls at *
      generalize str D = ds at *
      go_enter Tryd.func17, Tryd.ntmps17
      go_wp2_with fail
      refine (HhT.out _).mono ?_
      rintro e w1 ⟨rfl, hx1⟩
      go_wp2_with fail
      refine (HhF.out _ _ (rd_newV encW_len errnosV_eq)).mono ?_
      rintro e w2 ⟨rfl, hx2⟩
      have HX2 := Lib.hid ((hx1.alloc (.cells errnosV 60)).trans hx2)
      clear hx1 hx2
      go_wp2_with fail
      refine (HhI.out _ (HT.out.ext HX2.out)).mono ?_
      rintro e w3 ⟨rfl, k, os, rfl⟩
      go_wp2_with fail
      go_ret
      exact ⟨by rw [Hhres.out]; rfl, HX2.out.trans (ext_grow _ _ _)⟩
    · have g1 : decide (n ≤ 4095) = false := decide_eq_false h9
      have g2 : decide ((n : Int) ≤ 4095) = false := decide_eq_false (by omega)
      rw [if_neg (fun h => h9 h.2)] at hres
      have Hhres := Lib.hid hres
      clear hres
      clear hL
      generalize str L = ls at *
      go_enter Tryd.func17, Tryd.ntmps17
      go_wp2_with fail
      refine (HhT.out _).mono ?_
      rintro e w1 ⟨rfl, hx1⟩
      go_wp2_with fail
      refine (HhF.out _ _ (rd_newV encW_len errnosV_eq)).mono ?_
      rintro e w2 ⟨rfl, hx2⟩
      have HX2 := Lib.hid ((hx1.alloc (.cells errnosV 60)).trans hx2)
      clear hx1 hx2
      go_wp2_with fail
      go_ret
      exact ⟨by rw [Hhres.out]; rfl, HX2.out⟩
  · rw [decide_eq_false hL] at hsb
    rw [if_neg (fun h => hL h.1)] at hres
    have Hhres := Lib.hid hres
    clear hres
    clear hL
    generalize str L = ls at *
    go_enter Tryd.func17, Tryd.ntmps17
    go_wp2_with fail
    refine (HhT.out _).mono ?_
    rintro e w1 ⟨rfl, hx1⟩
    go_wp2_with fail
    refine (HhF.out _ _ (rd_newV encW_len errnosV_eq)).mono ?_
    rintro e w2 ⟨rfl, hx2⟩
    have HX2 := Lib.hid ((hx1.alloc (.cells errnosV 60)).trans hx2)
    clear hx1 hx2
    go_wp2_with fail
    go_ret
    exact ⟨by rw [Hhres.out]; rfl, HX2.out⟩
set_option maxRecDepth 100000 in
set_option maxHeartbeats 1000000 in
theorem rDigits_calls : ∀ (n : Nat) (_ : n < 4294967296) (w : World), Calls Tryd.prog 41 #[.int .u32 (n : Int)] w fun e w' => e = .returned (.string (str (Lib.decDigits n))) ∧ Ext w w' := by
  intro n
  induction n using Nat.strongRecOn with
  | _ n ih =>
    intro hn w
    by_cases h : n < 10
    · have g1 : decide (n < 10) = true := decide_eq_true h
      have g2 : decide ((n : Int) < 10) = true := decide_eq_true (by omega)
      have hd : Lib.decDigits n = [UInt8.ofNat (48 + n)] := by rw [Lib.decDigits, dif_pos h]
      have hw1 : IntKind.u32.wrap (48 + (n : Int)) = 48 + (n : Int) := by simp [IntKind.wrap, IntKind.signed, IntKind.bits]; omega
      have hw2 : IntKind.u8.wrap (48 + (n : Int)) = 48 + (n : Int) := by simp [IntKind.wrap, IntKind.signed, IntKind.bits]; omega
      rw [hd]
      have hun : ((UInt8.ofNat (48 + n)).toNat : Int) = 48 + (n : Int) := by rw [UInt8.toNat_ofNat']; omega
      have hcv : ∀ W : World, (convert 64 9 (.slice (some ⟨W.heap.size, 0, none⟩) 1 1)).run Tryd.prog (W.alloc (.cells #[.int .u8 (48 + (n : Int))] 5)) = .ok (.string (str [UInt8.ofNat (48 + n)])) (W.alloc (.cells #[.int .u8 (48 + (n : Int))] 5)) := fun W => by
        rw [← hun]
        exact conv_rd (l := [UInt8.ofNat (48 + n)]) (rd_lit encB_len W [UInt8.ofNat (48 + n)] _ _ rfl)
      clear hd ih hun
      generalize str [UInt8.ofNat (48 + n)] = ds at *
      go_enter Tryd.func41, Tryd.ntmps41
      go_wp2_with fail
      go_ret
      exact ⟨rfl, (Ext.refl _).alloc _⟩
    · have g1 : decide (n < 10) = false := decide_eq_false h
      have g2 : decide ((n : Int) < 10) = false := decide_eq_false (by omega)
      have hd : Lib.decDigits n = Lib.decDigits (n / 10) ++ Lib.decDigits (n % 10) := by
        rw [Lib.decDigits, dif_neg h]
        congr 1
        rw [Lib.decDigits, dif_pos (Nat.mod_lt _ (by omega))]
      have h1 := fun W => ih (n / 10) (by omega) (by omega) W
      have h2 := fun W => ih (n % 10) (by omega) (by omega) W
      rw [hd, ← str_app]
      have hlen1 : (Lib.decDigits (n / 10)).length ≤ 20 := dec_len (n / 10) (by omega)
      have hlen2 : (Lib.decDigits (n % 10)).length ≤ 20 := dec_len (n % 10) (by omega)
      rw [← str_size] at hlen1 hlen2
      clear hd ih
      generalize str (Lib.decDigits (n / 10)) = s1 at *
      generalize str (Lib.decDigits (n % 10)) = s2 at *
      have Hh1 := Lib.hid h1
      clear h1
      have Hh2 := Lib.hid h2
      clear h2
      go_enter Tryd.func41, Tryd.ntmps41
      go_wp2_with fail
      refine (Hh1.out _).mono ?_
      rintro e w1 ⟨rfl, hx1⟩
      go_wp2_with fail
      refine (Hh2.out _).mono ?_
      rintro e w2 ⟨rfl, hx2⟩
      go_wp2_with fail
      go_ret
      exact ⟨rfl, hx1.trans hx2⟩
end L10
end Go.Proofs.YtojlpocpcakcbaaDoor
