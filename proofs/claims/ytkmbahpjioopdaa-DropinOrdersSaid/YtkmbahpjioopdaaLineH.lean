/- Layer 12, the reference: the walk of Split. -/
import Derived.Test.YtkmbahpjioopdaaLineE
import Derived.Test.YtkmbahpjioopdaaLineG
import Derived.Deep.DeepCutAuto
namespace Go.Proofs.Ytkmbahpjioopdaa
open Go.RowKit V
namespace L12
def finS (st : St) : List LN := endL st.2.1 st.2.2 st.1
theorem splitL_fin (bs : List UInt8) : splitL bs = finS ((numF 1 (linesL bs)).foldl stepS ([], 0, [])) := rfl
theorem numF_drop : ∀ (ls : List (List UInt8)) (n i : Nat) (h : i < ls.length), (numF n ls).drop i = (n + i, ls[i]) :: (numF n ls).drop (i + 1)
  | x :: r, n, 0, _ => rfl
  | x :: r, n, i + 1, h => by
    have := numF_drop r (n + 1) i (by simpa using h)
    simp only [numF, List.drop_succ_cons, List.getElem_cons_succ]
    rw [this, show n + 1 + i = n + (i + 1) by omega]
theorem numF_drop_end (ls : List (List UInt8)) : (numF 1 ls).drop ls.length = [] := List.drop_eq_nil_of_le (by rw [numF_len]; exact Nat.le_refl _)
theorem endL_nil (xs : List LN) : endL 0 [] xs = xs := rfl
theorem suffix_zero {l : List UInt8} (h : l = []) : Lib.hasSuffix l [92] = false := by subst h; rfl
theorem suffix_last : ∀ {l : List UInt8} (h : 0 < l.length), Lib.hasSuffix l [92] = (l[l.length - 1]'(by omega) == 92) := fun {l} h => by
  obtain ⟨r, x, rfl⟩ : ∃ r x, l = r ++ [x] := ⟨l.dropLast, l.getLast (by intro e; subst e; simp at h), (List.dropLast_concat_getLast _).symm⟩
  have hg : (r ++ [x])[(r ++ [x]).length - 1]'(by omega) = x := by
    simp
  rw [hg]
  unfold Lib.hasSuffix
  rw [Bool.eq_iff_iff, List.isSuffixOf_iff_suffix]
  constructor
  · intro ⟨t, ht⟩
    have := congrArg List.getLast? ht
    simp at this
    simp [this]
  · intro hx
    simp at hx
    subst hx
    exact ⟨r, rfl⟩
theorem grownBy_set1 (W : World) (B i : Nat) (u : Value) : W.grownBy (W.setCell ⟨B, i, none⟩ u) (some B) := ⟨rfl, rfl, rfl, by rw [World.size_setCell]; exact Nat.le_refl _, fun k _ hn => Below.heap_setCell _ _ _ k (fun e => hn (by rw [e]))⟩
structure X13 (w0 : World) (Bx n0 : Nat) (txt : List UInt8) (out : List LN) (u : Value) (W : World) : Prop where
  ext : Ext w0 W
  lo : w0.heap.size ≤ Bx
  now : W.heap[Bx]? = some (.cells #[.int .i64 (n0 : Int), .string (str txt)] 86 (0, 0))
  own : W.ownsRow w0.heap.size 86 2 u out.length (out.flatMap encN)
  ne : u.ownBlock ≠ some Bx
section
variable {w0 W : World} {Bx n0 : Nat} {txt : List UInt8} {out : List LN} {u : Value}
theorem X13.c0 (h : X13 w0 Bx n0 txt out u W) : W.cell? ⟨Bx, 0, none⟩ = some (.int .i64 (n0 : Int)) := by simp [World.cell?, h.now]
theorem X13.c1 (h : X13 w0 Bx n0 txt out u W) : W.cell? ⟨Bx, 1, none⟩ = some (.string (str txt)) := by simp [World.cell?, h.now]
theorem X13.f (h : X13 w0 Bx n0 txt out u W) (j : Nat) : W.frozen? ⟨Bx, j, none⟩ = false := by simp [World.frozen?, h.now]
theorem X13.lt (h : X13 w0 Bx n0 txt out u W) : Bx < W.heap.size := (Array.getElem?_eq_some_iff.1 h.now).1
theorem X13.set (h : X13 w0 Bx n0 txt out u W) (v : ByteArray) (txt' : List UInt8) (he : v = str txt') : X13 w0 Bx n0 txt' out u (W.setCell ⟨Bx, 1, none⟩ (.string v)) := by
  refine ⟨h.ext.setCell h.lo _, h.lo, ?_, World.ownsRow.kept h.own (grownBy_set1 W Bx 1 _) (.inr h.ne), h.ne⟩
  obtain ⟨hlt, hk⟩ := Array.getElem?_eq_some_iff.1 h.now
  show (W.heap.modify Bx _)[Bx]? = _
  rw [Array.getElem?_eq_getElem (by rw [Array.size_modify]; exact hlt), Array.getElem_modify_self, hk, he]
  rfl
end
theorem infoN13 : (Try.prog.info? 86).map (fun i => (i.zero, i.size, i.bytes)) = some (some (.agg #[.int .i64 0, .string ⟨#[]⟩]), 2, 24) := by kernel_rfl
theorem rdS1_cell {w : World} {v : Value} {xs : List (List UInt8)} (h : Rd w 1 encS1 v xs) : ∃ a c, v = .slice a xs.length c ∧ xs.length ≤ c ∧ ∀ i, (hi : i < xs.length) → ∃ b o, a = some ⟨b, o, none⟩ ∧ w.cell? ⟨b, o + i, none⟩ = some (.string (str xs[i])) := by
  obtain ⟨a, c, h1, h2, h3, h4⟩ := h
  refine ⟨a, c, h1, h2, fun i hi => ?_⟩
  obtain ⟨b, o, e, k⟩ := h4 i hi
  have := k 0 (by simp [encS1])
  rw [Nat.mul_one, Nat.add_zero] at this
  exact ⟨b, o, e, this⟩
theorem linesL_mem : ∀ (n : Nat) (l : List UInt8), l.length ≤ n → ∀ x ∈ linesL l, x.length ≤ l.length
  | _, [], _, x, hx => by cases hx
  | n + 1, y :: r, h, x, hx => by
    rw [linesL_cons (by simp)] at hx
    rcases List.mem_cons.1 hx with rfl | hx
    · exact hd1_len _ _
    · have h1 := tl1_len 10 (y :: r)
      have h2 := linesL_mem n (tl1 10 (y :: r)) (by simp only [List.length_cons] at *; omega) x hx
      omega
set_option maxRecDepth 100000 in
set_option maxHeartbeats 4000000 in
theorem rSplit_calls (v : Value) (bs : List UInt8) (hl : bs.length ≤ 1000000) (w : World) (hv : Rd w 1 encB v bs) :
    Calls Try.prog 45 #[v] w fun e w' => ∃ u, e = .returned (.tuple #[u, .int .i64 (splitA bs).2]) ∧ Ext w w' ∧ w'.ownsRow w.heap.size 86 2 u (splitA bs).1.length ((splitA bs).1.flatMap encN) := by
  have hvR := hv
  obtain ⟨a, c, rfl, -⟩ := hv
  have hL := fun W h => rLines_calls (.slice a bs.length c) bs hl W h
  have hll := linesL_len bs.length bs (Nat.le_refl _)
  by_cases hlong : 65536 < bs.length
  · have hA : splitA bs = ([], 3) := by unfold splitA; rw [if_pos hlong]
    have hd : decide (65536 < bs.length) = true := decide_eq_true hlong
    have hd' : decide ((65536 : Int) < (bs.length : Int)) = true := decide_eq_true (by omega)
    rw [hA]
    have HhA := Lib.hid hA
    clear hA
    have Hhlong := Lib.hid hlong
    clear hlong
    have HhvR := Lib.hid hvR
    clear hvR
    have HhL := Lib.hid hL
    clear hL
    go_enter Try.func45, Try.ntmps45
    go_wp2
    go_ret2
    exact ⟨_, rfl, Ext.refl _, World.ownsRow_nil _ _ _ _⟩
  have hd : decide (65536 < bs.length) = false := decide_eq_false hlong
  have hd' : decide ((65536 : Int) < (bs.length : Int)) = false := decide_eq_false (by omega)
  by_cases hfull : 1000 < (linesL bs).length
  · have hA : splitA bs = ([], 4) := by unfold splitA; rw [if_neg hlong, if_pos hfull]
    have hf : decide (1000 < (linesL bs).length) = true := decide_eq_true hfull
    have hf' : decide ((1000 : Int) < ((linesL bs).length : Int)) = true := decide_eq_true (by omega)
    rw [hA]
    have HhA := Lib.hid hA
    clear hA
    have Hhfull := Lib.hid hfull
    clear hfull
    have HhvR := Lib.hid hvR
    clear hvR
    have HhL := Lib.hid hL
    clear hL
    go_enter Try.func45, Try.ntmps45
    go_wp2_with fail
    refine (HhL.out _ HhvR.out).mono ?_
    rintro e w1 ⟨u, rfl, hx1, ho1⟩
    obtain ⟨au, cu, rfl⟩ := own_form ho1
    go_wp2_with fail
    go_ret2
    exact ⟨_, rfl, hx1, World.ownsRow_nil _ _ _ _⟩
  have hA : splitA bs = (splitL bs, 0) := by unfold splitA; rw [if_neg hlong, if_neg hfull]
  have hf : decide (1000 < (linesL bs).length) = false := decide_eq_false hfull
  have hf' : decide ((1000 : Int) < ((linesL bs).length : Int)) = false := decide_eq_false (by omega)
  rw [hA, splitL_fin]
  have hdrop := numF_drop (linesL bs) 1
  have hdend := numF_drop_end (linesL bs)
  have hlen1 : ∀ i (h : i < (linesL bs).length), ((linesL bs)[i]'h).length ≤ 1000000 := fun i h => Nat.le_trans (linesL_mem bs.length bs (Nat.le_refl _) _ (List.getElem_mem h)) hl
  obtain ⟨M, hM1, hM2⟩ : ∃ M : Nat, (∀ x, x ≤ 1000000 → x + 1 ≤ M) ∧ 1000 * M ≤ 1000000000000 - 10 := ⟨1000001, fun x h => by omega, by decide⟩
  obtain ⟨tot, htot⟩ : ∃ tot, tot = finS ((numF 1 (linesL bs)).foldl stepS ([], 0, [])) := ⟨_, rfl⟩
  rw [← htot]
  have htot0 : tot = finS (((numF 1 (linesL bs)).drop 0).foldl stepS ([], 0, [])) := by rw [List.drop_zero]; exact htot
  generalize numF 1 (linesL bs) = NL at *
  generalize linesL bs = ls at *
  have HhA := Lib.hid hA
  clear hA
  have HhvR := Lib.hid hvR
  clear hvR
  have HhL := Lib.hid hL
  clear hL
  have Hhdrop := Lib.hid hdrop
  clear hdrop
  have Hhdend := Lib.hid hdend
  clear hdend
  have Hhlen1 := Lib.hid hlen1
  clear hlen1
  have Hhtot := Lib.hid htot
  clear htot
  have Hhtot0 := Lib.hid htot0
  clear htot0
  go_enter Try.func45, Try.ntmps45
  go_wp2_with fail
  refine (HhL.out _ HhvR.out).mono ?_
  rintro e w1 ⟨ul, rfl, hx1, ho1⟩
  have HR1 := Lib.hid (rd_of_own encS1_len ho1)
  obtain ⟨al, cl, rfl, hacl, hcl⟩ := rdS1_cell (rd_of_own encS1_len ho1)
  have HX1 := Lib.hid hx1
  have Hhcl := Lib.hid hcl
  clear hcl
  clear hx1 ho1
  go_wp2_with fail
  go_loopw [5, 6] (fun u iv wr => ∃ (out : List LN) (au : Option Addr) (cu i : Nat), u = .slice au out.length cu ∧ iv = .int .i64 i ∧ i ≤ ls.length ∧ out.length ≤ i ∧ tot = finS ((NL.drop i).foldl stepS (out, 0, [])) ∧ wr.ownsRow w1.heap.size 86 2 (.slice au out.length cu) out.length (out.flatMap encN) ∧ Ext w1 wr) (fun _ i _ => ls.length - (intOf i).toNat)
  case atStart => exact ⟨[], none, 0, 0, rfl, rfl, by omega, by simp, Hhtot0.out, World.ownsRow_nil _ _ _ _, Ext.refl _⟩
  case round =>
    obtain ⟨out, au, cu, i, rfl, rfl, hil, hoi, heq, ho, hx⟩ := hrel
    have HX := Lib.hid hx
    have HO := Lib.hid ho
    by_cases hlt : i < ls.length
    · obtain ⟨b, o, rfl, c1⟩ := Hhcl.out i hlt
      replace c1 := hx.cell c1
      have hdr := Hhdrop.out i hlt
      have hsl := Hhlen1.out i hlt
      have hCm := fun W => rComment_calls (str (ls[i]'hlt)) (by rw [str_size]; omega) W
      rw [show bytes (str (ls[i]'hlt)) = ls[i]'hlt from by simp [bytes]] at hCm
      cases hcm : commentL (ls[i]'hlt)
      case true =>
        rw [hcm] at hCm
        have heq2 : tot = finS ((NL.drop (i + 1)).foldl stepS (out, 0, [])) := by
          rw [heq, hdr, List.foldl_cons]
          congr 2
          unfold stepS
          rw [if_pos (by exact hcm)]
        clear hx ho heq hdr
        generalize ls[i]'hlt = s at *
        have HhCm := Lib.hid hCm
        clear hCm
        have Hhcm := Lib.hid hcm
        clear hcm
        have Hheq2 := Lib.hid heq2
        clear heq2
        go_wp2_with fail
        refine (HhCm.out _).mono ?_
        rintro e w2 ⟨rfl, rfl⟩
        go_wp2_with fail
        go_roundw
        case rel => exact ⟨out, au, cu, i + 1, rfl, by go_num, by omega, by omega, Hheq2.out, HO.out, HX.out⟩
        case measure => simp [intOf]; omega
      case false =>
        rw [hcm] at hCm
        have hstart : tot = finS ((NL.drop i).foldl stepS (out, i + 1, [])) := by
          have e : stepS (out, 0, []) (1 + i, ls[i]'hlt) = stepS (out, i + 1, []) (1 + i, ls[i]'hlt) := by
            unfold stepS
            simp [hcm, Nat.add_comm 1 i]
          rw [heq, hdr, List.foldl_cons, List.foldl_cons, e]
        clear hx ho hdr heq
        have HhCm := Lib.hid hCm
        clear hCm
        have Hhcm := Lib.hid hcm
        clear hcm
        have Hhstart := Lib.hid hstart
        clear hstart
        go_wp2_with fail
        refine (HhCm.out _).mono ?_
        rintro e w2 ⟨rfl, rfl⟩
        go_wp2_with fail
        obtain ⟨n0, hn0⟩ : ∃ n0, n0 = i + 1 := ⟨_, rfl⟩
        have Hhn0 := Lib.hid hn0
        clear hn0
        obtain ⟨W2, hW2⟩ : ∃ W2, W2 = wr.alloc (.cells #[.int .i64 ((i : Int) + 1), .string ⟨#[]⟩] 86) := ⟨_, rfl⟩
        have hX2 : X13 w1 wr.heap.size n0 [] out (.slice au out.length cu) W2 := by
          rw [hW2, show ((i : Int) + 1) = (n0 : Int) by rw [Hhn0.out]; rfl]
          refine ⟨HX.out.alloc _, HX.out.size, heap_alloc_new wr _, World.ownsRow.alloc HO.out _, fun e => ?_⟩
          have := (HO.out.lt _ e).2
          omega
        rw [← hW2]
        clear hW2 c1
        generalize wr.heap.size = B at *
        go_loopw [6, 8] (fun iv onv wx => ∃ (j : Nat) (on : Bool) (txt : List UInt8), iv = .int .i64 j ∧ onv = .bool on ∧ j ≤ ls.length ∧ i ≤ j ∧ txt.length ≤ j * M ∧ X13 w1 B n0 txt out (.slice au out.length cu) wx ∧
          ((on = true ∧ tot = finS ((NL.drop j).foldl stepS (out, n0, txt))) ∨ (on = false ∧ i < j ∧ tot = finS ((NL.drop j).foldl stepS (endL n0 txt out, 0, []))))) (fun iv _ _ => ls.length - (intOf iv).toNat)
        case atStart => exact ⟨i, true, [], rfl, rfl, by omega, Nat.le_refl _, Nat.zero_le _, hX2, .inl ⟨rfl, by rw [Hhn0.out]; exact Hhstart.out⟩⟩
        case round =>
          obtain ⟨j, on, txt, rfl, rfl, hjl, hij, htl, hX, hst⟩ := hrel
          have htb : txt.length ≤ 1000000000000 := Nat.le_trans htl (Nat.le_trans (Nat.mul_le_mul_right M (show j ≤ 1000 by omega)) (by omega))
          have c0 := hX.c0
          have c1 := hX.c1
          have f1 := hX.f 1
          have hBl := hX.lt
          have HXX := Lib.hid hX
          have hor : (on = true ∧ j < ls.length ∧ tot = finS ((NL.drop j).foldl stepS (out, n0, txt))) ∨ ((on = false ∨ (on = true ∧ j = ls.length)) ∧ i < j ∧ tot = finS ((NL.drop j).foldl stepS (endL n0 txt out, 0, []))) := by
            rcases hst with ⟨h1, h2⟩ | ⟨h1, h2, h3⟩
            · by_cases hj : j < ls.length
              · exact .inl ⟨h1, hj, h2⟩
              · have e : j = ls.length := by omega
                refine .inr ⟨.inr ⟨h1, e⟩, by omega, ?_⟩
                rw [h2, e, Hhdend.out]
                rfl
            · exact .inr ⟨.inl h1, h2, h3⟩
          clear hst
          rcases hor with ⟨rfl, hj, hh⟩ | ⟨hex, hij2, hh⟩
          · obtain ⟨b', o', e', d1⟩ := Hhcl.out j hj
            simp only [Option.some.injEq, Addr.mk.injEq, and_true] at e'
            obtain ⟨rfl, rfl⟩ := e'
            replace d1 := hX.ext.cell d1
            have hdr := Hhdrop.out j hj
            have hsl := Hhlen1.out j hj
            obtain ⟨t, ht⟩ : ∃ t, t = str (ls[j]'hj) := ⟨_, rfl⟩
            have hbt : bytes t = ls[j]'hj := by rw [ht]
            rw [← ht] at d1
            rw [← hbt] at hdr hsl
            rw [hdr, List.foldl_cons] at hh
            have hCm := fun W => rComment_calls t (by rw [← bytes_len]; omega) W
            rw [bytes_len] at hsl
            have hsM := hM1 _ hsl
            clear hdr ht hX
            cases hcm : commentL (bytes t)
            case true =>
              rw [hcm] at hCm
              have hstp : stepS (out, n0, txt) (1 + j, bytes t) = (out, n0, txt) := by unfold stepS; rw [if_pos (by exact hcm)]
              rw [hstp] at hh
              have Hhstp := Lib.hid hstp
              clear hstp
              have Hhbt := Lib.hid hbt
              clear hbt
              have HhCm := Lib.hid hCm
              clear hCm
              have Hhcm := Lib.hid hcm
              clear hcm
              have Hhh := Lib.hid hh
              clear hh
              go_wp2_with fail
              refine (HhCm.out _).mono ?_
              rintro e w2 ⟨rfl, rfl⟩
              go_wp2_with fail
              first
                | (go_roundw
                   case rel => exact ⟨j + 1, true, txt, by go_num, rfl, by omega, by omega, by rw [Nat.succ_mul]; omega, HXX.out, .inl ⟨rfl, Hhh.out⟩⟩
                   case measure => simp [intOf]; omega)
                | exact ⟨⟨j + 1, true, txt, by go_num, rfl, by omega, by omega, by rw [Nat.succ_mul]; omega, HXX.out, .inl ⟨rfl, Hhh.out⟩⟩, by simp [intOf]; omega⟩
            case false =>
              rw [hcm] at hCm
              have hsuf : (∃ hp : 0 < t.size, (((t[t.size - 1]'(by omega)).toNat : Int) == 92) = true ∧ Lib.hasSuffix (bytes t) [92] = true) ∨ (((t.size = 0) ∨ ∃ hp : 0 < t.size, (((t[t.size - 1]'(by omega)).toNat : Int) == 92) = false) ∧ Lib.hasSuffix (bytes t) [92] = false) := by
                by_cases hp : 0 < t.size
                · have h1 := suffix_last (l := bytes t) (by rw [bytes_len]; exact hp)
                  have e1 : (((t[t.size - 1]'(by omega)).toNat : Int) == 92) = ((t[t.size - 1]'(by omega)) == 92) := by rw [Bool.eq_iff_iff]; simp; rw [← UInt8.toNat_inj]; show ((_ : Int) = 92) ↔ _ = 92; omega
                  have e2 : (bytes t)[(bytes t).length - 1]'(by rw [bytes_len]; omega) = t[t.size - 1]'(by omega) := by rw [bytes_get]; rfl
                  rw [e2, ← e1] at h1
                  cases hq : (((t[t.size - 1]'(by omega)).toNat : Int) == 92)
                  · exact .inr ⟨.inr ⟨hp, hq⟩, by rw [h1, hq]⟩
                  · exact .inl ⟨hp, hq, by rw [h1, hq]⟩
                · exact .inr ⟨.inl (by omega), suffix_zero (List.eq_nil_of_length_eq_zero (by rw [bytes_len]; omega))⟩
              rcases hsuf with ⟨hp, hq, hsf⟩ | ⟨hq, hsf⟩
              · have hstp : stepS (out, n0, txt) (1 + j, bytes t) = (out, n0, txt ++ (Lib.trimSuffix (bytes t) [92] ++ [32])) := by
                  unfold stepS
                  rw [if_neg (by simp [hcm]), if_pos (by exact hsf)]
                  dsimp only
                  rw [if_neg (by have := Hhn0.out; omega)]
                have hcut : t.extract 0 (t.size - 1) = str (Lib.trimSuffix (bytes t) [92]) := bytes_inj (by
                  unfold Lib.trimSuffix
                  rw [if_pos hsf, bytes_ext, List.drop_zero, Nat.sub_zero]; rfl)
                have hts := trimSuffix_len (bytes t) [92]
                rw [bytes_len] at hts
                have hX5 := HXX.out.set (str txt ++ (t.extract 0 (t.size - 1) ++ (⟨#[32]⟩ : ByteArray))) (txt ++ (Lib.trimSuffix (bytes t) [92] ++ [32])) (by rw [hcut, show (⟨#[32]⟩ : ByteArray) = str [32] from rfl, str_app, str_app])
                rw [hstp] at hh
                have HhX5 := Lib.hid hX5
                clear hX5
                have Hhstp := Lib.hid hstp
                clear hstp
                have Hhcut := Lib.hid hcut
                clear hcut
                have Hhbt := Lib.hid hbt
                clear hbt
                have HhCm := Lib.hid hCm
                clear hCm
                have Hhcm := Lib.hid hcm
                clear hcm
                have Hhh := Lib.hid hh
                clear hh
                have Hhsf := Lib.hid hsf
                clear hsf
                go_wp2_with fail
                refine (HhCm.out _).mono ?_
                rintro e w2 ⟨rfl, rfl⟩
                go_wp2_with fail
                first
                  | (go_roundw
                     case rel => exact ⟨j + 1, true, _, by go_num, rfl, by omega, by omega, by rw [Nat.succ_mul]; simp only [List.length_append, List.length_cons, List.length_nil]; omega, HhX5.out, .inl ⟨rfl, Hhh.out⟩⟩
                     case measure => simp [intOf]; omega)
                  | exact ⟨⟨j + 1, true, _, by go_num, rfl, by omega, by omega, by rw [Nat.succ_mul]; simp only [List.length_append, List.length_cons, List.length_nil]; omega, HhX5.out, .inl ⟨rfl, Hhh.out⟩⟩, by simp [intOf]; omega⟩
              · have hstp : stepS (out, n0, txt) (1 + j, bytes t) = (endL n0 (txt ++ bytes t) out, 0, []) := by
                  unfold stepS
                  rw [if_neg (by simp [hcm]), if_neg (by simp [hsf])]
                  dsimp only
                  rw [if_neg (by have := Hhn0.out; omega)]
                have hX5 := HXX.out.set (str txt ++ t) (txt ++ bytes t) (by rw [← str_app, str_bytes])
                rw [hstp] at hh
                have HhX5 := Lib.hid hX5
                clear hX5
                have Hhstp := Lib.hid hstp
                clear hstp
                have Hhbt := Lib.hid hbt
                clear hbt
                have HhCm := Lib.hid hCm
                clear hCm
                have Hhcm := Lib.hid hcm
                clear hcm
                have Hhh := Lib.hid hh
                clear hh
                have Hhsf := Lib.hid hsf
                clear hsf
                rcases hq with hq | ⟨hp, hq⟩
                all_goals
                  go_wp2_with fail
                  refine (HhCm.out _).mono ?_
                  rintro e w2 ⟨rfl, rfl⟩
                  go_wp2_with fail
                  first
                    | (go_roundw
                       case rel => exact ⟨j + 1, false, _, by go_num, rfl, by omega, by omega, by rw [Nat.succ_mul, List.length_append, bytes_len]; omega, HhX5.out, .inr ⟨rfl, by omega, Hhh.out⟩⟩
                       case measure => simp [intOf]; omega)
                    | exact ⟨⟨j + 1, false, _, by go_num, rfl, by omega, by omega, by rw [Nat.succ_mul, List.length_append, bytes_len]; omega, HhX5.out, .inr ⟨rfl, by omega, Hhh.out⟩⟩, by simp [intOf]; omega⟩
          · have hT := fun W => rTrim_calls (str txt) (by rw [str_size]; exact htb) W
            rw [show bytes (str txt) = txt from by simp [bytes]] at hT
            have heq3 : tot = finS ((NL.drop j).foldl stepS (endL n0 txt out, 0, [])) := hh
            obtain ⟨tt, htt⟩ : ∃ tt, tt = trimL txt := ⟨_, rfl⟩
            have hend : endL n0 txt out = if tt = [] then out else out ++ [(n0, tt)] := by rw [htt]; rfl
            rw [← htt] at hT
            rw [hend] at heq3
            have hX5 := HXX.out.set (str tt) tt rfl
            have hel := endL_len n0 txt out
            rw [hend] at hel
            have HhT := Lib.hid hT
            clear hT
            have Hhend := Lib.hid hend
            clear hend
            have Hhtt := Lib.hid htt
            clear htt
            have Hhh := Lib.hid hh
            clear hh
            have HhX5 := Lib.hid hX5
            clear hX5
            have Hheq3 := Lib.hid heq3
            clear heq3
            clear hX
            rcases hex with rfl | ⟨rfl, hjl2⟩
            all_goals
              go_wp2_with fail
              refine (HhT.out _).mono ?_
              rintro e w2 ⟨rfl, rfl⟩
              go_upto_region 23 with fail
              obtain ⟨W5, hW5⟩ : ∃ W5, W5 = wr.setCell ⟨B, 1, none⟩ (.string (str tt)) := ⟨_, rfl⟩
              rw [← hW5] at HhX5 ⊢
              clear hW5 c0 c1 f1 hBl
              have c0 := HhX5.out.c0
              have c1 := HhX5.out.c1
              have heq4 := Hheq3.out
              by_cases h0 : tt = []
              · rw [if_pos h0] at heq4 hel
                have HE4 := Lib.hid heq4
                clear heq4
                subst h0
                go_wp2_with fail
                first
                  | (go_roundw
                     case rel => exact ⟨out, au, cu, j, rfl, by first | rfl | (rw [hjl2]), hjl, by omega, HE4.out, HhX5.out.own, HhX5.out.ext⟩
                     case measure => simp [intOf]; omega)
                  | exact ⟨⟨out, au, cu, j, rfl, by first | rfl | (rw [hjl2]), hjl, by omega, HE4.out, HhX5.out.own, HhX5.out.ext⟩, by simp [intOf]; omega⟩
              · rw [if_neg h0] at heq4 hel
                have HE4 := Lib.hid heq4
                clear heq4
                have hn : (!tt.isEmpty) = true := by
                  cases tt with
                  | nil => exact absurd rfl h0
                  | cons x r => rfl
                have hn2 : tt.isEmpty = false := by
                  cases tt with
                  | nil => exact absurd rfl h0
                  | cons x r => rfl
                go_wp2_with (at_builtin
                             refine wpList_app_rd rfl (.tmp 82) (.tmp 84) _ rfl Try.underlying80 infoN13 rfl (by decide) encN_len encN_one w1 _ _ out [(n0, tt)] rfl rfl (World.ownsRow.alloc HhX5.out.own _) (rd_lit encN_len W5 [(n0, tt)] _ _ rfl) (by simp; omega) (by decide) (HhX5.out.ext.alloc _) ?_
                             intro au5 cu5 w5 ho5 hx5
                             have HO5 := Lib.hid ho5
                             have HX5 := Lib.hid hx5
                             clear ho5 hx5)
                first
                  | (go_roundw
                     case rel => exact ⟨out ++ [(n0, tt)], au5, cu5, j, by simp, by first | rfl | (rw [hjl2]), hjl, by simp; omega, HE4.out, by simpa using HO5.out, HX5.out⟩
                     case measure => simp [intOf]; omega)
                  | exact ⟨⟨out ++ [(n0, tt)], au5, cu5, j, by simp, by first | rfl | (rw [hjl2]), hjl, by simp; omega, HE4.out, by simpa using HO5.out, HX5.out⟩, by simp [intOf]; omega⟩
    · obtain rfl : i = ls.length := by omega
      rw [Hhdend.out] at heq
      have heq2 : tot = out := heq
      clear hx ho heq
      have Hheq2 := Lib.hid heq2
      clear heq2
      go_wp2_with fail
      go_ret2
      exact ⟨_, rfl, HX1.out.trans HX.out, by rw [Hheq2.out]; exact own_base HO.out HX1.out.size⟩
end L12
end Go.Proofs.Ytkmbahpjioopdaa
