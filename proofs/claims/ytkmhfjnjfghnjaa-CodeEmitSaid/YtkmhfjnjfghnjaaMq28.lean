import Derived.Test.YtkmhfjnjfghnjaaMq27
import Derived.Test.YtkmhfjnjfghnjaaMq24
import Derived.Test.YtkmhfjnjfghnjaaMq14
import Derived.Test.YtkmhfjnjfghnjaaMq22
import Derived.Test.YtkmhfjnjfghnjaaMq23
import Derived.StillTailTactics
import Derived.Laws.MakeOwn
import Derived.Test.YtkmhfjnjfghnjaaMq21
/- Layer 25, plain: the row of a filter by its labels' targets; which targets may be. -/
namespace Go.Proofs.Ytkmhfjnjfghnjaa
open Go.RowKit V
namespace L25M
open L25 (Sy mayA may1 okW there asksB none_ lastc Dat OkD run1 runA nx na hld wd lo hi)
open L25W (SS Tg iL iR iJ)
open L21 (Test Rule Filter)
abbrev Nd := L24.Node
open L25G (tokN)
abbrev iA (k : Nat) : SS := ⟨84, k, none⟩
def oL (a : Int) : Nat := if a = 0 ∨ a = 2 then 4 else 3
def ownS (nt : Tg) (a : Int) : List SS := [iL 4, iJ 21 (tokN a.toNat) (.pl 2) nt, iL 0] ++ if a = 0 then [iJ 69 1073741824 nt (.pl 4)] else if a = 2 then [iJ 69 1073741824 (.pl 4) nt] else []
theorem ownS_len (nt : Tg) (a : Int) : (ownS nt a).length = oL a := by
  unfold ownS oL
  by_cases h0 : a = 0
  · rw [if_pos h0, if_pos (.inl h0)]; rfl
  · rw [if_neg h0]
    by_cases h2 : a = 2
    · rw [if_pos h2, if_pos (.inr h2)]; rfl
    · rw [if_neg h2, if_neg (by omega)]; rfl
def halfN (mask : Nat) : Nat := if mask = 0 then 0 else if mask = 4294967295 then 2 else 3
def halfS (p at_ mask value : Nat) (fl : Tg) : List SS := if mask = 0 then [] else if mask = 4294967295 then [iL at_, iJ 21 value (.pl (p + 2)) fl] else [iL at_, iA mask, iJ 21 value (.pl (p + 3)) fl]
theorem halfS_len (p at_ mask value : Nat) (fl : Tg) : (halfS p at_ mask value fl).length = halfN mask := by
  unfold halfS halfN
  split
  · rfl
  · split <;> rfl
def loAt (t : Test) : Nat := 16 + 8 * t.arg.toNat
def hiAt (t : Test) : Nat := 20 + 8 * t.arg.toNat
def testN (t : Test) : Nat := halfN (lo t.mask) + halfN (hi t.mask) + 1
def testS (p : Nat) (t : Test) : List SS := halfS p (loAt t) (lo t.mask) (lo t.value) (.pl (p + testN t)) ++ (halfS (p + halfN (lo t.mask)) (hiAt t) (hi t.mask) (hi t.value) (.pl (p + testN t)) ++ [iR t.action])
theorem testS_len (p : Nat) (t : Test) : (testS p t).length = testN t := by
  unfold testS testN
  rw [List.length_append, List.length_append, halfS_len, halfS_len]; rfl
theorem testN_pos (t : Test) : 1 ≤ testN t ∧ testN t ≤ 7 := by
  unfold testN halfN
  split <;> split <;> (repeat' split) <;> omega
def ruleN : List Test → Nat
  | [] => 1
  | t :: r => testN t + if t.mask = 0 then 0 else ruleN r
def ruleS (p : Nat) : List Test → Nat → List SS
  | [], x => [iR x]
  | t :: r, x => testS p t ++ if t.mask = 0 then [] else ruleS (p + testN t) r x
theorem ruleS_len : ∀ (ts : List Test) (p x : Nat), (ruleS p ts x).length = ruleN ts
  | [], _, _ => rfl
  | t :: r, p, x => by
    unfold ruleS ruleN
    rw [List.length_append, testS_len]
    split
    · rfl
    · rw [ruleS_len r]
theorem ruleN_le : ∀ ts : List Test, 1 ≤ ruleN ts ∧ ruleN ts ≤ 1 + 7 * ts.length
  | [] => ⟨Nat.le_refl _, Nat.le_refl _⟩
  | t :: r => by
    have h1 := testN_pos t
    have h2 := ruleN_le r
    unfold ruleN
    rw [List.length_cons]
    split <;> omega
/-- where the k-th rule begins -/
def rpl : List Rule → Nat → Nat → Nat
  | _, p, 0 => p
  | [], p, _ + 1 => p
  | r :: l, p, k + 1 => rpl l (p + ruleN r.tests) k
def rulesS (p : Nat) : List Rule → List SS
  | [] => []
  | r :: l => ruleS p r.tests r.action ++ rulesS (p + ruleN r.tests) l
theorem rulesS_len : ∀ (rs : List Rule) (p : Nat), p + (rulesS p rs).length = rpl rs p rs.length
  | [], _ => rfl
  | r :: l, p => by
    unfold rulesS
    rw [List.length_append, ruleS_len, List.length_cons]
    show _ = rpl l (p + ruleN r.tests) l.length
    rw [← rulesS_len l]; omega
theorem rpl_succ : ∀ {rs : List Rule} {p k : Nat} (h : k < rs.length), rpl rs p (k + 1) = rpl rs p k + ruleN rs[k].tests
  | r :: l, p, 0, _ => by simp [rpl]
  | r :: l, p, k + 1, h => by
    show rpl l _ (k + 1) = rpl l _ k + _
    rw [rpl_succ (rs := l) (by simpa using h)]; rfl
theorem rpl_mono {rs : List Rule} {p : Nat} : ∀ (d : Nat) {k : Nat}, k + d ≤ rs.length → rpl rs p k + d ≤ rpl rs p (k + d)
  | 0, _, _ => Nat.le_refl _
  | d + 1, k, h => by
    have h1 := rpl_mono d (k := k) (rs := rs) (p := p) (by omega)
    have h2 := rpl_succ (rs := rs) (p := p) (k := k + d) (by omega)
    have h3 := (ruleN_le (rs[k + d]'(by omega)).tests).1
    rw [show k + (d + 1) = k + d + 1 by omega, h2]; omega
theorem rpl_zero (rs : List Rule) (p : Nat) : rpl rs p 0 = p := by cases rs <;> rfl
theorem rpl_app {rs : List Rule} {k : Nat} (p : Nat) (h : k < rs.length) : rulesS p (rs.take (k + 1)) = rulesS p (rs.take k) ++ ruleS (rpl rs p k) rs[k].tests rs[k].action := by
  induction rs generalizing p k with
  | nil => simp at h
  | cons r l ih =>
    cases k with
    | zero => simp [rulesS, rpl]
    | succ k =>
      have h' : k < l.length := by simpa using h
      have e := ih (k := k) (p + ruleN r.tests) h'
      simp only [List.take_succ_cons, rulesS, List.getElem_cons_succ]
      rw [e, List.append_assoc]
      rfl
theorem rpl_take {rs : List Rule} {k : Nat} (p : Nat) (h : k ≤ rs.length) : p + (rulesS p (rs.take k)).length = rpl rs p k := by
  induction rs generalizing p k with
  | nil => simp at h; subst h; rfl
  | cons r l ih =>
    cases k with
    | zero => rfl
    | succ k =>
      have e := ih (k := k) (p + ruleN r.tests) (by simpa using h)
      simp only [List.take_succ_cons, rulesS, List.length_append, ruleS_len]
      show _ = rpl l (p + ruleN r.tests) k
      omega
def inner (n : Nd) : Bool := !n.leaf
def root (t : List Nd) : Bool := match t with
  | n :: _ => n.leaf
  | [] => false
def jmps (F : Nat → Tg) (t : List Nd) : List SS := (t.filter inner).map fun n => iJ 53 n.at_ (F n.more.toNat) (F n.less.toNat)
def branchS (F : Nat → Tg) (t : List Nd) : List SS := (if root t = true then [iJ 5 0 (F 0) (.pl 0)] else []) ++ jmps F t
def rank (t : List Nd) (i : Nat) : Nat := (if root t = true then 1 else 0) + ((t.take i).filter inner).length
theorem branchS_len (F : Nat → Tg) (t : List Nd) : (branchS F t).length = rank t t.length := by
  unfold branchS rank jmps
  rw [List.length_append, List.length_map, List.take_length]
  split <;> rfl
theorem rank_le {t : List Nd} {i j : Nat} (h : i ≤ j) : rank t i ≤ rank t j := by
  unfold rank
  have : (t.take i).Sublist (t.take j) := (List.take_prefix_take_left h).sublist
  have := (this.filter inner).length_le
  omega
theorem rank_succ {t : List Nd} {i : Nat} (h : i < t.length) (hl : t[i].leaf = false) : rank t (i + 1) = rank t i + 1 := by
  unfold rank
  rw [List.take_succ_eq_append_getElem h, List.filter_append, List.length_append]
  have : inner t[i] = true := by unfold inner; rw [hl]; rfl
  simp [this]
  omega
theorem rank_len (t : List Nd) : rank t t.length ≤ t.length + 1 := by
  unfold rank
  rw [List.take_length]
  have := List.length_filter_le inner t
  split <;> omega
end L25M
end Go.Proofs.Ytkmhfjnjfghnjaa

/- Layer 25, plain: what the pieces of a filter's row tell. -/
namespace Go.Proofs.Ytkmhfjnjfghnjaa
open Go.RowKit V
namespace L25M
open L25 (Sy mayA may1 okW there asksB none_ lastc Dat OkD run1 runA nx na hld wd lo hi wd_bd)
open L25W (SS Tg iL iR iJ)
open L25G (tokN run1_at run1_ret)
open L21 (Test Rule Filter OkT mayT holdP holdsA argOf fstA fstA_cons denL denA)
/-- a row holds some instructions from a place on -/
def Has (L : List Sy) (p : Nat) (xs : List SS) : Prop := ∀ j (h : j < xs.length), L[p + j]? = some (xs[j]).fin
theorem Has.app {L : List Sy} {p : Nat} {a b : List SS} (h : Has L p (a ++ b)) : Has L p a ∧ Has L (p + a.length) b := by
  refine ⟨fun j hj => ?_, fun j hj => ?_⟩
  · have := h j (by rw [List.length_append]; omega)
    rwa [List.getElem_append_left hj] at this
  · have := h (a.length + j) (by rw [List.length_append]; omega)
    rw [List.getElem_append_right (by omega)] at this
    simp only [Nat.add_sub_cancel_left] at this
    rwa [Nat.add_assoc]
theorem Has.hd {L : List Sy} {p : Nat} {s : SS} {r : List SS} (h : Has L p (s :: r)) : L[p]? = some s.fin := h 0 (by simp)
theorem Has.tl {L : List Sy} {p : Nat} {s : SS} {r : List SS} (h : Has L p (s :: r)) : Has L (p + 1) r := (Has.app (a := [s]) h).2
theorem Has.all (xs : List SS) : Has (xs.map SS.fin) 0 xs := fun j h => by rw [Nat.zero_add, List.getElem?_map, List.getElem?_eq_getElem h]; rfl
section
variable {d : Dat} {L : List Sy} (hm : mayA L = true) {i a st : Nat}
include hm
theorem R_load {k : Nat} (h : L[i]? = some (iL k).fin) : run1 d L (L.length - i) i a st = run1 d L (L.length - (i + 1)) (i + 1) (wd d k) (st + 1) := run1_at hm h (by show (32 : Nat) ≠ 6; decide)
theorem R_and {k : Nat} (h : L[i]? = some (iA k).fin) : run1 d L (L.length - i) i a st = run1 d L (L.length - (i + 1)) (i + 1) (a &&& k) (st + 1) := run1_at hm h (by show (84 : Nat) ≠ 6; decide)
theorem R_jeq {k t e : Nat} (h : L[i]? = some (iJ 21 k (.pl t) (.pl e)).fin) : run1 d L (L.length - i) i a st = run1 d L (L.length - if a = k then t else e) (if a = k then t else e) a (st + 1) := by
  have hx : nx (iJ 21 k (.pl t) (.pl e)).fin i a = if a = k then t else e := by
    show nx ⟨21, k, (t : Int), (e : Int)⟩ i a = _
    unfold nx hld
    rw [if_neg (by simp), if_pos rfl]
    by_cases hk : a = k
    · rw [if_pos (by simpa using hk), if_pos hk]; simp
    · rw [if_neg (by simpa using hk), if_neg hk]; simp
  rw [run1_at hm h (by show (21 : Nat) ≠ 6; decide), hx]
  rfl
theorem R_jge {k t e : Nat} (h : L[i]? = some (iJ 53 k (.pl t) (.pl e)).fin) : run1 d L (L.length - i) i a st = run1 d L (L.length - if k ≤ a then t else e) (if k ≤ a then t else e) a (st + 1) := by
  have hx : nx (iJ 53 k (.pl t) (.pl e)).fin i a = if k ≤ a then t else e := by
    show nx ⟨53, k, (t : Int), (e : Int)⟩ i a = _
    by_cases hk : k ≤ a <;> simp [nx, hld, hk]
  rw [run1_at hm h (by show (53 : Nat) ≠ 6; decide), hx]
  rfl
theorem R_jset {t e : Nat} (h : L[i]? = some (iJ 69 1073741824 (.pl t) (.pl e)).fin) : run1 d L (L.length - i) i a st = run1 d L (L.length - if L08.bit a = true then t else e) (if L08.bit a = true then t else e) a (st + 1) := by
  have hx : nx (iJ 69 1073741824 (.pl t) (.pl e)).fin i a = if L08.bit a = true then t else e := by
    show nx ⟨69, 1073741824, (t : Int), (e : Int)⟩ i a = _
    unfold nx
    rw [if_neg (by simp), L25G.hld69]
    split <;> simp
  rw [run1_at hm h (by show (69 : Nat) ≠ 6; decide), hx]
  rfl
theorem R_ja {t : Nat} (h : L[i]? = some (iJ 5 0 (.pl t) (.pl 0)).fin) : run1 d L (L.length - i) i a st = run1 d L (L.length - t) t a (st + 1) := by
  have hx : nx (iJ 5 0 (.pl t) (.pl 0)).fin i a = t := by
    show nx ⟨5, 0, (t : Int), 0⟩ i a = _
    simp [nx, hld]
  rw [run1_at hm h (by show (5 : Nat) ≠ 6; decide), hx]
  rfl
omit hm in
theorem R_ret {k : Nat} (h : L[i]? = some (iR k).fin) : run1 d L (L.length - i) i a st = (k, st + 1) := run1_ret h rfl
end
theorem and_all (x : Nat) (h : x < 4294967296) : x &&& 4294967295 = x := by
  have := Nat.and_two_pow_sub_one_eq_mod x 32
  rw [show (2 : Nat) ^ 32 - 1 = 4294967295 from rfl] at this
  rw [this]; exact Nat.mod_eq_of_lt h
theorem half_run {d : Dat} (hd : OkD d) {L : List Sy} (hm : mayA L = true) {p at_ mask value e : Nat} (h : Has L p (halfS p at_ mask value (.pl e))) (a st : Nat) :
    ∃ a' st', st ≤ st' ∧ st' ≤ st + halfN mask ∧ run1 d L (L.length - p) p a st = run1 d L (L.length - if mask = 0 ∨ wd d at_ &&& mask = value then p + halfN mask else e) (if mask = 0 ∨ wd d at_ &&& mask = value then p + halfN mask else e) a' st' := by
  unfold halfS at h
  unfold halfN
  by_cases h0 : mask = 0
  · rw [if_pos h0, if_pos (.inl h0)]
    exact ⟨a, st, Nat.le_refl _, by omega, rfl⟩
  rw [if_neg h0] at h ⊢
  by_cases h1 : mask = 4294967295
  · rw [if_pos h1] at h ⊢
    rw [R_load hm h.hd, R_jeq hm h.tl.hd]
    refine ⟨wd d at_, st + 2, by omega, Nat.le_refl _, ?_⟩
    have e : (mask = 0 ∨ wd d at_ &&& mask = value) = (wd d at_ = value) := by
      rw [h1, and_all _ (wd_bd hd _)]; simp
    simp only [e]
  · rw [if_neg h1] at h ⊢
    rw [R_load hm h.hd, R_and hm h.tl.hd, R_jeq hm h.tl.tl.hd]
    refine ⟨wd d at_ &&& mask, st + 3, by omega, Nat.le_refl _, ?_⟩
    have e : (mask = 0 ∨ wd d at_ &&& mask = value) = (wd d at_ &&& mask = value) := by simp [h0]
    simp only [e]
theorem lo_and (x m : Nat) : lo (x &&& m) = lo x &&& lo m := by
  unfold lo
  rw [show (4294967296 : Nat) = 2 ^ 32 from rfl]
  exact Nat.and_mod_two_pow
theorem hi_and (x m : Nat) : hi (x &&& m) = hi x &&& hi m := by
  unfold hi
  rw [show (4294967296 : Nat) = 2 ^ 32 from rfl]
  exact Nat.and_div_two_pow
theorem halves_eq (x y : Nat) : x = y ↔ lo x = lo y ∧ hi x = hi y := by
  unfold lo hi
  refine ⟨fun h => by rw [h]; exact ⟨rfl, rfl⟩, fun h => ?_⟩
  omega
theorem wd_arg (d : Dat) : ∀ k, k < 6 → wd d (16 + 8 * k) = lo (argOf d k) ∧ wd d (20 + 8 * k) = hi (argOf d k)
  | 0, _ => ⟨rfl, rfl⟩
  | 1, _ => ⟨rfl, rfl⟩
  | 2, _ => ⟨rfl, rfl⟩
  | 3, _ => ⟨rfl, rfl⟩
  | 4, _ => ⟨rfl, rfl⟩
  | 5, _ => ⟨rfl, rfl⟩
theorem hold_halves {d : Dat} {t : Test} (h : mayT t = true) : holdP d t = true ↔ (lo t.mask = 0 ∨ wd d (loAt t) &&& lo t.mask = lo t.value) ∧ (hi t.mask = 0 ∨ wd d (hiAt t) &&& hi t.mask = hi t.value) := by
  unfold mayT at h
  simp only [Bool.and_eq_true, decide_eq_true_eq, beq_iff_eq] at h
  obtain ⟨h1, h2, h3, -⟩ := h
  obtain ⟨w1, w2⟩ := wd_arg d t.arg.toNat (by omega)
  unfold loAt hiAt
  rw [w1, w2]
  unfold holdP holdsA
  simp only [Bool.and_eq_true, decide_eq_true_eq, beq_iff_eq]
  rw [halves_eq, lo_and, hi_and]
  have v1 : lo t.value &&& lo t.mask = lo t.value := by rw [← lo_and, h3]
  have v2 : hi t.value &&& hi t.mask = hi t.value := by rw [← hi_and, h3]
  constructor
  · rintro ⟨-, -, h4, h5⟩
    exact ⟨.inr h4, .inr h5⟩
  · rintro ⟨h4, h5⟩
    refine ⟨h1, h2, ?_, ?_⟩
    · rcases h4 with h4 | h4
      · rw [h4] at v1 ⊢
        rw [Nat.and_zero] at v1 ⊢
        exact v1
      · exact h4
    · rcases h5 with h5 | h5
      · rw [h5] at v2 ⊢
        rw [Nat.and_zero] at v2 ⊢
        exact v2
      · exact h5
theorem test_run {d : Dat} (hd : OkD d) {L : List Sy} (hm : mayA L = true) {p : Nat} {t : Test} (ht : mayT t = true) (h : Has L p (testS p t)) (a st : Nat) :
    (holdP d t = true ∧ ∃ st', st + 1 ≤ st' ∧ st' ≤ st + 7 ∧ run1 d L (L.length - p) p a st = (t.action, st')) ∨ (holdP d t = false ∧ ∃ a' st', st ≤ st' ∧ st' ≤ st + 7 ∧ run1 d L (L.length - p) p a st = run1 d L (L.length - (p + testN t)) (p + testN t) a' st') := by
  have hn := testN_pos t
  have hN : testN t = halfN (lo t.mask) + halfN (hi t.mask) + 1 := rfl
  unfold testS at h
  obtain ⟨h1, h2⟩ := h.app
  rw [halfS_len] at h2
  obtain ⟨h3, h4⟩ := h2.app
  rw [halfS_len] at h4
  have hh := hold_halves (d := d) ht
  obtain ⟨a1, s1, c1', b1, e1⟩ := half_run hd hm h1 a st
  by_cases c1 : lo t.mask = 0 ∨ wd d (loAt t) &&& lo t.mask = lo t.value
  · rw [if_pos c1] at e1
    obtain ⟨a2, s2, c2', b2, e2⟩ := half_run hd hm h3 a1 s1
    by_cases c2 : hi t.mask = 0 ∨ wd d (hiAt t) &&& hi t.mask = hi t.value
    · rw [if_pos c2] at e2
      exact .inl ⟨hh.2 ⟨c1, c2⟩, s2 + 1, by omega, by omega, by rw [e1, e2, R_ret h4.hd]⟩
    · rw [if_neg c2] at e2
      refine .inr ⟨?_, a2, s2, by omega, by omega, by rw [e1, e2]⟩
      rw [← Bool.not_eq_true]; exact fun hx => c2 (hh.1 hx).2
  · rw [if_neg c1] at e1
    refine .inr ⟨?_, a1, s1, by omega, by omega, e1⟩
    rw [← Bool.not_eq_true]; exact fun hx => c1 (hh.1 hx).1
theorem rule_run {d : Dat} (hd : OkD d) {L : List Sy} (hm : mayA L = true) : ∀ (ts : List Test) (x p a st : Nat), (∀ t ∈ ts, mayT t = true) → Has L p (ruleS p ts x) → ∃ st', st + 1 ≤ st' ∧ st' ≤ st + 7 * ts.length + 1 ∧ run1 d L (L.length - p) p a st = (fstA d ts x, st')
  | [], x, p, a, st, _, h => ⟨st + 1, Nat.le_refl _, by simp, by rw [R_ret h.hd]; rfl⟩
  | t :: r, x, p, a, st, ht, h => by
    have ht0 := ht t List.mem_cons_self
    unfold ruleS at h
    obtain ⟨h1, h2⟩ := h.app
    rw [testS_len] at h2
    rw [fstA_cons, List.length_cons]
    rcases test_run hd hm ht0 h1 a st with ⟨e1, s1, c1, b1, e2⟩ | ⟨e1, a1, s1, c1, b1, e2⟩
    · rw [if_pos e1]
      exact ⟨s1, by omega, by omega, e2⟩
    · have hm0 : ¬ t.mask = 0 := fun e => by
        have := L21.holdP_zero (d := d) ht0 (by simpa using e)
        rw [this] at e1; cases e1
      rw [if_neg hm0] at h2
      rw [if_neg (by rw [e1]; decide)]
      obtain ⟨s2, c2, b2, e3⟩ := rule_run hd hm r x (p + testN t) a1 s1 (fun t h => ht t (List.mem_cons_of_mem _ h)) h2
      exact ⟨s2, by omega, by omega, by rw [e2, e3]⟩
end L25M
end Go.Proofs.Ytkmhfjnjfghnjaa

/- Layer 25, plain: the whole row of a filter; it may be; what it tells. -/
namespace Go.Proofs.Ytkmhfjnjfghnjaa
open Go.RowKit V
namespace L25M
open L25 (Sy mayA may1 okW there asksB none_ lastc Dat OkD run1 runA nx na hld wd lo hi wd_bd)
open L25W (SS Tg iL iR iJ)
open L25G (tokN run1_at run1_ret)
open L21 (Test Rule Filter OkT mayT mayR mayL mayF holdP holdsA argOf fstA fstA_cons denL denA ownA)
open L24 (may fnd goes)
theorem own_eq (ar nr : Nat) (a : Int) (h0 : 0 ≤ a) (h6 : a < 6) : ((L08.ofA ar nr).2 && ((L08.ofA ar nr).1 == a)) = ((ar == tokN a.toNat) && if a = 0 then !L08.bit nr else if a = 2 then L08.bit nr else true) := by
  have hf : L08.findFrom (L08.tokB ar) 0 = if ar = 3221225534 then 0 else if ar = 1073741827 then 1 else if ar = 1073741864 then 3 else if ar = 3221225655 then 4 else if ar = 3221225715 then 5 else -1 := by
    rw [L08.findFrom_step (by omega), L08.findFrom_step (by omega), L08.findFrom_step (by omega), L08.findFrom_step (by omega), L08.findFrom_step (by omega), L08.findFrom_step (by omega), L08.findFrom_end]
    simp only [L08.tokB, L08.toks, List.getD_cons_zero, List.getD_cons_succ, beq_iff_eq, eq_comm (b := ar)]
    by_cases e0 : ar = 3221225534
    · simp [e0]
    · simp [e0]
  unfold L08.ofA
  rw [hf]
  obtain rfl | rfl | rfl | rfl | rfl | rfl : a = 0 ∨ a = 1 ∨ a = 2 ∨ a = 3 ∨ a = 4 ∨ a = 5 := by omega
  all_goals
    simp only [tokN, L08.toks, Int.toNat, List.getD_cons_zero, List.getD_cons_succ]
    by_cases e0 : ar = 3221225534
    · subst e0; cases L08.bit nr <;> rfl
    by_cases e1 : ar = 1073741827
    · subst e1; cases L08.bit nr <;> rfl
    by_cases e2 : ar = 1073741864
    · subst e2; cases L08.bit nr <;> rfl
    by_cases e3 : ar = 3221225655
    · subst e3; cases L08.bit nr <;> rfl
    by_cases e4 : ar = 3221225715
    · subst e4; cases L08.bit nr <;> rfl
    simp [e0, e1, e2, e3, e4]
theorem own_run {d : Dat} {L : List Sy} (hm : mayA L = true) {N : Nat} {a : Int} (h : Has L 0 (ownS (.pl N) a)) :
    if (d.ar == tokN a.toNat && if a = 0 then !L08.bit d.nr else if a = 2 then L08.bit d.nr else true) = true then ∃ st, st ≤ 4 ∧ run1 d L (L.length - 0) 0 0 0 = run1 d L (L.length - oL a) (oL a) d.nr st
    else ∃ x st, st ≤ 4 ∧ run1 d L (L.length - 0) 0 0 0 = run1 d L (L.length - N) N x st := by
  unfold ownS at h
  obtain ⟨h1, h2⟩ := h.app
  have e1 : run1 d L (L.length - 0) 0 0 0 = run1 d L (L.length - if d.ar = tokN a.toNat then 2 else N) (if d.ar = tokN a.toNat then 2 else N) d.ar 2 := by
    rw [R_load hm h1.hd, show wd d 4 = d.ar from rfl, R_jeq hm h1.tl.hd]
  by_cases ht : d.ar = tokN a.toNat
  · rw [if_pos ht] at e1
    have e2 : run1 d L (L.length - 2) 2 d.ar 2 = run1 d L (L.length - 3) 3 d.nr 3 := by
      rw [R_load hm h1.tl.tl.hd]; rfl
    rw [show (d.ar == tokN a.toNat) = true by simpa using ht, Bool.true_and]
    by_cases h0 : a = 0
    · rw [if_pos h0] at h2 ⊢
      have e3 := R_jset (d := d) (a := d.nr) (st := 3) hm h2.hd
      rw [show oL a = 4 by unfold oL; rw [if_pos (.inl h0)]]
      cases hb : L08.bit d.nr
      · rw [hb, if_neg (by decide)] at e3
        rw [if_pos (by decide)]
        exact ⟨4, by omega, by rw [e1, e2]; exact e3⟩
      · rw [hb, if_pos rfl] at e3
        rw [if_neg (by decide)]
        exact ⟨_, 4, by omega, by rw [e1, e2]; exact e3⟩
    · rw [if_neg h0] at h2 ⊢
      by_cases h3 : a = 2
      · rw [if_pos h3] at h2 ⊢
        have e3 := R_jset (d := d) (a := d.nr) (st := 3) hm h2.hd
        rw [show oL a = 4 by unfold oL; rw [if_pos (.inr h3)]]
        cases hb : L08.bit d.nr
        · rw [hb, if_neg (by decide)] at e3
          rw [if_neg (by decide)]
          exact ⟨_, 4, by omega, by rw [e1, e2]; exact e3⟩
        · rw [hb, if_pos rfl] at e3
          rw [if_pos rfl]
          exact ⟨4, by omega, by rw [e1, e2]; exact e3⟩
      · rw [if_neg h3, if_pos rfl]
        rw [show oL a = 3 by unfold oL; rw [if_neg (by omega)]]
        exact ⟨3, by omega, by rw [e1, e2]⟩
  · rw [if_neg ht] at e1
    rw [show (d.ar == tokN a.toNat) = false by simpa using ht, Bool.false_and, if_neg (by decide)]
    exact ⟨_, 2, by omega, e1⟩
theorem tree_run {d : Dat} {L : List Sy} (hm : mayA L = true) {t : List Nd} (hmt : may t = true) {F : Nat → Nat} (hF : ∀ i (hi : i < t.length), t[i].leaf = false → L[F i]? = some (iJ 53 t[i].at_ (.pl (F t[i].more.toNat)) (.pl (F t[i].less.toNat))).fin) (n : Nat) :
    ∀ (f i st s : Nat), i < t.length → t.length - i ≤ f → ∃ (j : Nat) (hj : j < t.length) (k : Nat), t[j].leaf = true ∧ fnd t n (t.length - i) i s = (t[j].way, s + k) ∧ run1 d L (L.length - F i) (F i) n st = run1 d L (L.length - F j) (F j) n (st + k)
  | 0, i, st, s, hi, hf => by omega
  | f + 1, i, st, s, hi, hf => by
    cases hl : t[i].leaf
    · obtain ⟨g1, g2⟩ := L24.goes_in hmt hi hl n
      obtain ⟨j, hj, k, e1, e2, e3⟩ := tree_run hm hmt hF n f (goes t[i] n) (st + 1) (s + 1) g2 (by omega)
      refine ⟨j, hj, k + 1, e1, ?_, ?_⟩
      · rw [L24.fnd_step hmt n hi (Nat.le_refl _) hl, e2, show s + 1 + k = s + (k + 1) by omega]
      · rw [R_jge hm (hF i hi hl)]
        have eg : (if t[i].at_ ≤ n then F t[i].more.toNat else F t[i].less.toNat) = F (goes t[i] n) := by
          unfold goes; split <;> rfl
        rw [eg, e3, show st + 1 + k = st + (k + 1) by omega]
    · exact ⟨i, hi, 0, hl, by rw [L24.fnd_leaf n hi (by omega) hl]; rfl, rfl⟩
/-- the places of the row -/
def dP (f : Filter) (t : List Nd) : Nat := oL f.arch + rank t t.length
def nP (f : Filter) (t : List Nd) : Nat := rpl f.rules (dP f t + 1) f.rules.length
def wP (f : Filter) (t : List Nd) (k : Nat) : Nat := if k = 0 then dP f t else rpl f.rules (dP f t + 1) (k - 1)
def pN (f : Filter) (t : List Nd) (i : Nat) : Nat := match t[i]? with
  | some n => if n.leaf = true then wP f t n.way.toNat else oL f.arch + rank t i
  | none => 0
def emS (f : Filter) (t : List Nd) : List SS := ownS (.pl (nP f t)) f.arch ++ (branchS (fun i => .pl (pN f t i)) t ++ (iR f.dflt :: (rulesS (dP f t + 1) f.rules ++ [iR 2147418112])))
theorem emS_len (f : Filter) (t : List Nd) : (emS f t).length = nP f t + 1 := by
  unfold emS nP
  rw [← rulesS_len]
  simp only [List.length_append, List.length_cons, List.length_nil, ownS_len, branchS_len]
  unfold dP
  omega
/-- how a row may be -/
def okS (len i : Nat) (s : SS) : Prop := (s.j = none ∧ ((s.c = 32 ∧ okW s.k = true) ∨ s.c = 84 ∨ s.c = 6)) ∨ ∃ n m : Nat, s.j = some (.pl n, .pl m) ∧ i < n ∧ n < len ∧ ((s.c = 5 ∧ s.k = 0) ∨ ((s.c = 21 ∨ s.c = 53 ∨ s.c = 69) ∧ i < m ∧ m < len))
theorem okS_may {len i : Nat} {s : SS} (h : okS len i s) : may1 len i s.fin = true := by
  obtain ⟨c, k, j⟩ := s
  rcases h with ⟨h1, h2⟩ | ⟨n, m, h1, h2, h3, h4⟩
  · dsimp only at h1 h2
    subst h1
    unfold may1 SS.fin
    dsimp only
    rcases h2 with ⟨rfl, h2⟩ | rfl | rfl
    · rw [if_pos rfl, h2]; rfl
    · rfl
    · rfl
  · dsimp only at h1 h4
    subst h1
    unfold may1 SS.fin there
    dsimp only [Tg.n]
    rcases h4 with ⟨rfl, rfl⟩ | ⟨h5, h6, h7⟩
    · rw [if_neg (by decide), if_neg (by decide), if_pos rfl]
      simp; omega
    · rw [if_neg (by omega), if_neg (by omega), if_neg (by omega)]
      have : asksB c = true := by rcases h5 with rfl | rfl | rfl <;> rfl
      have h8 : ¬ c = 5 := by omega
      rw [this]
      simp [h8]; omega
def AllOk (len p : Nat) (xs : List SS) : Prop := ∀ j (h : j < xs.length), okS len (p + j) xs[j]
theorem AllOk.nil (len p : Nat) : AllOk len p [] := fun j h => by cases h
theorem AllOk.app {len p : Nat} {a b : List SS} (h : AllOk len p a) (h' : AllOk len (p + a.length) b) : AllOk len p (a ++ b) := fun j hj => by
  rw [List.length_append] at hj
  by_cases hja : j < a.length
  · rw [List.getElem_append_left hja]; exact h j hja
  · rw [List.getElem_append_right (by omega)]
    have := h' (j - a.length) (by omega)
    rwa [show p + a.length + (j - a.length) = p + j by omega] at this
theorem AllOk.cons {len p : Nat} {s : SS} {b : List SS} (h : okS len p s) (h' : AllOk len (p + 1) b) : AllOk len p (s :: b) :=
  AllOk.app (a := [s]) (fun j hj => by
    have : j = 0 := by simpa using hj
    subst this
    exact h) h'
theorem AllOk.may {len : Nat} : ∀ {xs : List SS} {p : Nat}, AllOk len p xs → L25.mayL len (xs.map SS.fin) p = true
  | [], _, _ => rfl
  | s :: r, p, h => by
    show (may1 len p s.fin && L25.mayL len (r.map SS.fin) (p + 1)) = true
    rw [okS_may (by have := h 0 (by simp); rwa [Nat.add_zero] at this), AllOk.may (p := p + 1) (fun j hj => by
      have := h (j + 1) (by simpa using hj)
      rwa [List.getElem_cons_succ, show p + (j + 1) = p + 1 + j by omega] at this)]
    rfl
theorem ok_plain {len i c k : Nat} (h : (c = 32 ∧ okW k = true) ∨ c = 84 ∨ c = 6) : okS len i ⟨c, k, none⟩ := .inl ⟨rfl, h⟩
theorem ok_jump {len i c k n m : Nat} (hc : c = 21 ∨ c = 53 ∨ c = 69) (h1 : i < n) (h2 : n < len) (h3 : i < m) (h4 : m < len) : okS len i (iJ c k (.pl n) (.pl m)) := .inr ⟨n, m, rfl, h1, h2, .inr ⟨hc, h3, h4⟩⟩
theorem own_ok {len N : Nat} {a : Int} (h1 : 3 < N) (h2 : N < len) : AllOk len 0 (ownS (.pl N) a) := by
  unfold ownS
  refine AllOk.app (.cons (ok_plain (.inl ⟨rfl, rfl⟩)) (.cons (ok_jump (.inl rfl) (by omega) (by omega) (by omega) h2) (.cons (ok_plain (.inl ⟨rfl, rfl⟩)) (.nil _ _)))) ?_
  split
  · exact .cons (ok_jump (.inr (.inr rfl)) h1 h2 (by show 0 + 3 < 4; omega) (by omega)) (.nil _ _)
  · split
    · exact .cons (ok_jump (.inr (.inr rfl)) (by show 0 + 3 < 4; omega) (by omega) h1 h2) (.nil _ _)
    · exact .nil _ _
theorem half_ok {len p at_ mask value e : Nat} (h1 : p + halfN mask ≤ e) (h2 : mask ≠ 0 → e < len) (h3 : okW at_ = true) : AllOk len p (halfS p at_ mask value (.pl e)) := by
  unfold halfS
  unfold halfN at h1
  split
  · exact .nil _ _
  rename_i h0
  rw [if_neg h0] at h1
  have h2 := h2 h0
  split
  · rename_i h4
    rw [if_pos h4] at h1
    exact .cons (ok_plain (.inl ⟨rfl, h3⟩)) (.cons (ok_jump (.inl rfl) (by omega) (by omega) (by omega) h2) (.nil _ _))
  · rename_i h4
    rw [if_neg h4] at h1
    exact .cons (ok_plain (.inl ⟨rfl, h3⟩)) (.cons (ok_plain (.inr (.inl rfl))) (.cons (ok_jump (.inl rfl) (by omega) (by omega) (by omega) h2) (.nil _ _)))
theorem test_ok {len p : Nat} {t : Test} (ht : mayT t = true) (h : p + testN t < len) : AllOk len p (testS p t) := by
  have hN : testN t = halfN (lo t.mask) + halfN (hi t.mask) + 1 := rfl
  unfold mayT at ht
  simp only [Bool.and_eq_true, decide_eq_true_eq] at ht
  obtain ⟨h1, h2, -⟩ := ht
  have ok1 : okW (loAt t) = true := by unfold okW loAt; simp; omega
  have ok2 : okW (hiAt t) = true := by unfold okW hiAt; simp; omega
  unfold testS
  refine AllOk.app (half_ok (by omega) (fun _ => h) ok1) (AllOk.app ?_ ?_)
  · rw [halfS_len]
    exact half_ok (by omega) (fun _ => h) ok2
  · exact .cons (ok_plain (.inr (.inr rfl))) (.nil _ _)
theorem rule_ok {len : Nat} : ∀ (ts : List Test) (x p : Nat), (∀ t ∈ ts, mayT t = true) → p + ruleN ts < len → AllOk len p (ruleS p ts x)
  | [], _, _, _, _ => .cons (ok_plain (.inr (.inr rfl))) (.nil _ _)
  | t :: r, x, p, ht, h => by
    unfold ruleN at h
    unfold ruleS
    refine AllOk.app (test_ok (ht t List.mem_cons_self) (by omega)) ?_
    rw [testS_len]
    split
    · exact .nil _ _
    · rename_i h0
      rw [if_neg h0] at h
      exact rule_ok r x _ (fun t h => ht t (List.mem_cons_of_mem _ h)) (by omega)
theorem rules_ok {len : Nat} : ∀ (rs : List Rule) (p : Nat), (∀ r ∈ rs, ∀ t ∈ r.tests, mayT t = true) → rpl rs p rs.length < len → AllOk len p (rulesS p rs)
  | [], _, _, _ => .nil _ _
  | r :: l, p, ht, h => by
    unfold rulesS
    have h1 : rpl (r :: l) p (r :: l).length = rpl l (p + ruleN r.tests) l.length := rfl
    rw [h1] at h
    have h2 := rpl_mono (rs := l) (p := p + ruleN r.tests) l.length (k := 0) (by omega)
    rw [rpl_zero, Nat.zero_add] at h2
    refine AllOk.app (rule_ok _ _ _ (ht r List.mem_cons_self) (by omega)) ?_
    rw [ruleS_len]
    exact rules_ok l _ (fun r h => ht r (List.mem_cons_of_mem _ h)) h
theorem jmps_snoc (F : Nat → Tg) (t : List Nd) (i : Nat) (h : i < t.length) : jmps F (t.take (i + 1)) = jmps F (t.take i) ++ if t[i].leaf = true then [] else [iJ 53 t[i].at_ (F t[i].more.toNat) (F t[i].less.toNat)] := by
  unfold jmps
  rw [List.take_succ_eq_append_getElem h, List.filter_append, List.map_append]
  congr 1
  cases hl : t[i].leaf <;> simp [inner, hl]
theorem jmps_has {L : List Sy} {p : Nat} {F : Nat → Tg} {t : List Nd} (h : Has L p (jmps F t)) {i : Nat} (hi : i < t.length) (hl : t[i].leaf = false) : L[p + ((t.take i).filter inner).length]? = some (iJ 53 t[i].at_ (F t[i].more.toNat) (F t[i].less.toNat)).fin := by
  have e : jmps F t = jmps F (t.take i) ++ iJ 53 t[i].at_ (F t[i].more.toNat) (F t[i].less.toNat) :: jmps F (t.drop (i + 1)) := by
    have h1 : t = t.take i ++ t[i] :: t.drop (i + 1) := by rw [← List.drop_eq_getElem_cons hi, List.take_append_drop]
    have h2 : jmps F (t.take i ++ t[i] :: t.drop (i + 1)) = jmps F (t.take i) ++ iJ 53 t[i].at_ (F t[i].more.toNat) (F t[i].less.toNat) :: jmps F (t.drop (i + 1)) := by
      unfold jmps
      rw [List.filter_append, List.filter_cons_of_pos (by unfold inner; rw [hl]; rfl), List.map_append]
      rfl
    rw [← h2, ← h1]
  rw [e] at h
  have := h.app.2.hd
  unfold jmps at this
  rwa [List.length_map] at this
end L25M
end Go.Proofs.Ytkmhfjnjfghnjaa

/- Layer 25, plain: the whole row of a filter may be, and tells what the filter says. -/
namespace Go.Proofs.Ytkmhfjnjfghnjaa
open Go.RowKit V
namespace L25M
open L25 (Sy mayA may1 okW there asksB none_ lastc Dat OkD run1 runA nx na hld wd lo hi wd_bd)
open L25W (SS Tg iL iR iJ)
open L25G (tokN run1_at run1_ret)
open L21 (Test Rule Filter OkT mayT mayR mayL mayF holdP holdsA argOf fstA fstA_cons denL denA ownA)
open L24 (may fnd goes)
structure TOk (f : Filter) (t : List Nd) : Prop where
  may : may t = true
  ways : ∀ i (h : i < t.length), t[i].leaf = true → 0 ≤ t[i].way ∧ t[i].way ≤ (f.rules.length : Int)
  len : t.length ≤ 2000
theorem dP_rank (f : Filter) {t : List Nd} {i : Nat} (h : i < t.length) (hl : t[i].leaf = false) : oL f.arch + rank t i < dP f t := by
  unfold dP
  have h1 := rank_succ h hl
  have h2 := rank_le (t := t) (i := i + 1) (j := t.length) h
  omega
theorem dP_nP (f : Filter) (t : List Nd) : dP f t < nP f t := by
  unfold nP
  have := rpl_mono (rs := f.rules) (p := dP f t + 1) f.rules.length (k := 0) (by omega)
  rw [rpl_zero, Nat.zero_add] at this
  omega
theorem wP_in (f : Filter) (t : List Nd) {k : Nat} (h : k ≤ f.rules.length) : dP f t ≤ wP f t k ∧ wP f t k < nP f t + 1 := by
  have h0 := dP_nP f t
  unfold wP
  split
  · omega
  · have h1 := rpl_mono (rs := f.rules) (p := dP f t + 1) (k - 1) (k := 0) (by omega)
    have h2 := rpl_mono (rs := f.rules) (p := dP f t + 1) (f.rules.length - (k - 1)) (k := k - 1) (by omega)
    rw [rpl_zero, Nat.zero_add] at h1
    rw [show k - 1 + (f.rules.length - (k - 1)) = f.rules.length by omega] at h2
    unfold nP
    omega
theorem pN_leaf (f : Filter) {t : List Nd} {i : Nat} (h : i < t.length) (hl : t[i].leaf = true) : pN f t i = wP f t t[i].way.toNat := by
  unfold pN; rw [List.getElem?_eq_getElem h]; dsimp only; rw [if_pos hl]
theorem pN_inner (f : Filter) {t : List Nd} {i : Nat} (h : i < t.length) (hl : t[i].leaf = false) : pN f t i = oL f.arch + rank t i := by
  unfold pN; rw [List.getElem?_eq_getElem h]; dsimp only; rw [if_neg (by rw [hl]; decide)]
theorem pN_in {f : Filter} {t : List Nd} (hT : TOk f t) {i j : Nat} (hi : i < t.length) (hl : t[i].leaf = false) (hij : i < j) (hj : j < t.length) : oL f.arch + rank t i < pN f t j ∧ pN f t j < nP f t + 1 := by
  have h0 := dP_nP f t
  have h1 := dP_rank f hi hl
  cases hlj : t[j].leaf
  · rw [pN_inner f hj hlj]
    have h2 := dP_rank f hj hlj
    have h3 := rank_succ hi hl
    have h4 := rank_le (t := t) (i := i + 1) (j := j) hij
    omega
  · rw [pN_leaf f hj hlj]
    have h5 := hT.ways j hj hlj
    have h6 := wP_in f t (k := t[j].way.toNat) (by omega)
    omega
theorem root_eq {t : List Nd} (h : 0 < t.length) : root t = t[0].leaf := by
  cases t with
  | nil => simp at h
  | cons a r => rfl
theorem branch_ok {f : Filter} {t : List Nd} (hT : TOk f t) : AllOk (nP f t + 1) (oL f.arch) (branchS (fun i => .pl (pN f t i)) t) := by
  have h0 := dP_nP f t
  have hp := L24.may_pos hT.may
  unfold branchS
  have hj : ∀ k, k ≤ t.length → AllOk (nP f t + 1) (oL f.arch + (if root t = true then 1 else 0)) (jmps (fun i => .pl (pN f t i)) (t.take k)) := by
    intro k
    induction k with
    | zero => intro _; exact .nil _ _
    | succ k ih =>
      intro hk
      rw [jmps_snoc _ t k (by omega)]
      refine AllOk.app (ih (by omega)) ?_
      cases hl : t[k].leaf
      · rw [if_neg (show ¬ (false = true) by decide)]
        obtain ⟨m1, m2, m3, m4⟩ := L24.may_get hT.may (by omega : k < t.length) hl
        have e1 := pN_in hT (by omega : k < t.length) hl (j := t[k].more.toNat) (by omega) (by omega)
        have e2 := pN_in hT (by omega : k < t.length) hl (j := t[k].less.toNat) (by omega) (by omega)
        have hr : oL f.arch + (if root t = true then 1 else 0) + (jmps (fun i => .pl (pN f t i)) (t.take k)).length = oL f.arch + rank t k := by
          unfold rank jmps; rw [List.length_map]; omega
        rw [hr]
        exact .cons (ok_jump (.inr (.inl rfl)) e1.1 e1.2 e2.1 e2.2) (.nil _ _)
      · rw [if_pos (show true = true from rfl)]; exact .nil _ _
  have hj := hj t.length (Nat.le_refl _)
  rw [List.take_length] at hj
  by_cases hr : root t = true
  · rw [if_pos hr] at hj ⊢
    refine AllOk.app (.cons ?_ (.nil _ _)) hj
    have hl : t[0].leaf = true := by rw [← root_eq hp]; exact hr
    have h5 := hT.ways 0 hp hl
    have h6 := wP_in f t (k := t[0].way.toNat) (by omega)
    show okS _ _ (iJ 5 0 (.pl (pN f t 0)) (.pl 0))
    rw [pN_leaf f hp hl]
    have h7 : oL f.arch < dP f t := by unfold dP rank; rw [if_pos hr]; omega
    exact .inr ⟨_, 0, rfl, by omega, by omega, .inl ⟨rfl, rfl⟩⟩
  · rw [if_neg hr] at hj ⊢
    exact hj
theorem rpl_bound : ∀ (rs : List Rule) (p : Nat), (∀ r ∈ rs, r.tests.length ≤ 32) → rpl rs p rs.length ≤ p + 225 * rs.length
  | [], _, _ => Nat.le_refl _
  | r :: l, p, h => by
    show rpl l (p + ruleN r.tests) l.length ≤ _
    have h1 := rpl_bound l (p + ruleN r.tests) (fun r h' => h r (List.mem_cons_of_mem _ h'))
    have h2 := (ruleN_le r.tests).2
    have h3 := h r List.mem_cons_self
    rw [List.length_cons]; omega
theorem may_rules {f : Filter} (h : mayF f = true) : 0 ≤ f.arch ∧ f.arch < 6 ∧ f.rules.length ≤ 400 ∧ mayL none f.rules = true ∧ ∀ r ∈ f.rules, r.tests.length ≤ 32 ∧ ∀ t ∈ r.tests, mayT t = true := by
  unfold mayF at h
  simp only [Bool.and_eq_true, decide_eq_true_eq] at h
  obtain ⟨h1, h2, h3, -, h5⟩ := h
  refine ⟨h1, h2, h3, h5, fun r hr => ?_⟩
  obtain ⟨h6, -⟩ := L21.mayL_mem h5 r hr
  obtain ⟨h7, h8, -⟩ := L21.mayT_of h6
  exact ⟨h7, h8⟩
theorem emS_ok {f : Filter} {t : List Nd} (hf : mayF f = true) (hT : TOk f t) : AllOk (nP f t + 1) 0 (emS f t) := by
  obtain ⟨h1, h2, h3, h4, h5⟩ := may_rules hf
  have h0 := dP_nP f t
  have hp := L24.may_pos hT.may
  have hd : 3 ≤ oL f.arch ∧ oL f.arch + 1 ≤ dP f t := by
    refine ⟨by unfold oL; split <;> omega, ?_⟩
    by_cases hr : root t = true
    · unfold dP rank; rw [if_pos hr]; omega
    · have hl : t[0].leaf = false := by rw [← root_eq hp]; simpa using hr
      have := dP_rank f hp hl
      omega
  unfold emS
  refine AllOk.app (own_ok (by omega) (by omega)) ?_
  rw [ownS_len, Nat.zero_add]
  refine AllOk.app (branch_ok hT) ?_
  rw [branchS_len]
  refine .cons (ok_plain (.inr (.inr rfl))) (AllOk.app (rules_ok _ _ (fun r hr => (h5 r hr).2) ?_) (.cons (ok_plain (.inr (.inr rfl))) (.nil _ _)))
  show rpl f.rules (dP f t + 1) f.rules.length < nP f t + 1
  exact Nat.lt_succ_self _
theorem emit_may {f : Filter} {t : List Nd} (hf : mayF f = true) (hT : TOk f t) : mayA ((emS f t).map SS.fin) = true := by
  obtain ⟨h1, h2, h3, h4, h5⟩ := may_rules hf
  have hlen : ((emS f t).map SS.fin).length = nP f t + 1 := by rw [List.length_map, emS_len]
  have hb := rpl_bound f.rules (dP f t + 1) (fun r hr => (h5 r hr).1)
  have hb2 : nP f t ≤ dP f t + 1 + 225 * f.rules.length := hb
  have hdp : dP f t ≤ 4 + (t.length + 1) := by
    have := rank_len t
    unfold dP oL; split <;> omega
  have htl := hT.len
  unfold mayA
  rw [hlen]
  have hlast : lastc ((emS f t).map SS.fin) = 6 := by
    unfold lastc
    rw [hlen, Nat.add_sub_cancel]
    have e : emS f t = (ownS (.pl (nP f t)) f.arch ++ (branchS (fun i => .pl (pN f t i)) t ++ (iR f.dflt :: rulesS (dP f t + 1) f.rules))) ++ [iR 2147418112] := by
      unfold emS; simp
    have hl2 : (ownS (.pl (nP f t)) f.arch ++ (branchS (fun i => .pl (pN f t i)) t ++ (iR f.dflt :: rulesS (dP f t + 1) f.rules))).length = nP f t := by
      have := emS_len f t
      rw [e, List.length_append] at this
      simpa using this
    rw [e, List.map_append, List.getElem?_append_right (by rw [List.length_map, hl2]; exact Nat.le_refl _), List.length_map, hl2, Nat.sub_self]
    rfl
  rw [hlast, decide_eq_true (by omega), decide_eq_true (by omega), (emS_ok hf hT).may]
  rfl
theorem rules_has {L : List Sy} : ∀ {rs : List Rule} {p k : Nat} (h : k < rs.length), Has L p (rulesS p rs) → Has L (rpl rs p k) (ruleS (rpl rs p k) rs[k].tests rs[k].action)
  | r :: l, p, 0, _, hh => by
    unfold rulesS at hh
    exact hh.app.1
  | r :: l, p, k + 1, h, hh => by
    unfold rulesS at hh
    have := hh.app.2
    rw [ruleS_len] at this
    exact rules_has (rs := l) (by simpa using h) this
def tstN (d : Dat) (rs : List Rule) : Nat := match rs.find? (fun r => r.nr == d.nr) with
  | some r => r.tests.length
  | none => 0
/-- what number leads to which way -/
def Leads (f : Filter) (t : List Nd) (n : Nat) : Prop := ((∀ r ∈ f.rules, r.nr ≠ n) ∧ (fnd t n t.length 0 0).1 = 0) ∨ ∃ k, ∃ h : k < f.rules.length, f.rules[k].nr = n ∧ (∀ j (h : j < k), f.rules[j].nr ≠ n) ∧ (fnd t n t.length 0 0).1 = ((k + 1 : Nat) : Int)
theorem emit_run {d : Dat} (hd : OkD d) {f : Filter} {t : List Nd} (hf : mayF f = true) (hT : TOk f t) (hw : Leads f t d.nr) :
    ∃ st, runA d ((emS f t).map SS.fin) = (denA f d, st) ∧ 1 ≤ st ∧ st ≤ 6 + (fnd t d.nr t.length 0 0).2 + 7 * tstN d f.rules := by
  have hm := emit_may hf hT
  obtain ⟨h1, h2, h3, h4, h5⟩ := may_rules hf
  have hp := L24.may_pos hT.may
  have hH : Has ((emS f t).map SS.fin) 0 (emS f t) := Has.all _
  unfold runA
  rw [if_pos hm]
  generalize hL : (emS f t).map SS.fin = L at *
  unfold emS at hH
  obtain ⟨hO, hH⟩ := hH.app
  rw [ownS_len, Nat.zero_add] at hH
  obtain ⟨hB, hH⟩ := hH.app
  rw [branchS_len] at hH
  have hDf : L[dP f t]? = some (iR f.dflt).fin := hH.hd
  obtain ⟨hRu, hAl⟩ := hH.tl.app
  have hN : L[nP f t]? = some (iR 2147418112).fin := by
    have := hAl.hd
    rw [show oL f.arch + rank t t.length + 1 + (rulesS (dP f t + 1) f.rules).length = nP f t from rulesS_len _ _] at this
    exact this
  have hRu : Has L (dP f t + 1) (rulesS (dP f t + 1) f.rules) := hRu
  have ho := own_run (d := d) hm hO
  rw [← own_eq d.ar d.nr f.arch h1 h2] at ho
  have hoA : ownA f d = ((L08.ofA d.ar d.nr).2 && ((L08.ofA d.ar d.nr).1 == f.arch)) := rfl
  rw [← hoA] at ho
  rw [Nat.sub_zero] at ho
  by_cases hown : ownA f d = true
  · rw [if_pos hown] at ho
    obtain ⟨s1, b1, e1⟩ := ho
    have e2 : ∃ s2, s2 ≤ s1 + 1 ∧ run1 d L (L.length - oL f.arch) (oL f.arch) d.nr s1 = run1 d L (L.length - pN f t 0) (pN f t 0) d.nr s2 := by
      unfold branchS at hB
      by_cases hr : root t = true
      · rw [if_pos hr] at hB
        exact ⟨s1 + 1, by omega, by rw [R_ja hm hB.app.1.hd]⟩
      · have hl : t[0].leaf = false := by rw [← root_eq hp]; simpa using hr
        refine ⟨s1, by omega, ?_⟩
        rw [pN_inner f hp hl]
        have : rank t 0 = 0 := by unfold rank; rw [if_neg hr]; rfl
        rw [this]; rfl
    obtain ⟨s2, b2, e2⟩ := e2
    have hF : ∀ i (hi : i < t.length), t[i].leaf = false → L[pN f t i]? = some (iJ 53 t[i].at_ (.pl (pN f t t[i].more.toNat)) (.pl (pN f t t[i].less.toNat))).fin := fun i hi hl => by
      rw [pN_inner f hi hl]
      unfold branchS at hB
      have := jmps_has (hB.app.2) hi hl
      rw [← this]
      congr 1
      unfold rank
      split <;> simp <;> omega
    obtain ⟨j, hj, k, e3, e4, e5⟩ := tree_run hm hT.may (F := pN f t) hF d.nr t.length 0 s2 0 hp (by omega)
    rw [Nat.sub_zero, Nat.zero_add] at e4
    have hway := hT.ways j hj e3
    rw [pN_leaf f hj e3] at e5
    rw [e1, e2, e5, L21.denA_own hown]
    unfold Leads at hw
    rw [e4] at hw ⊢
    dsimp only at hw ⊢
    rcases hw with ⟨h6, h7⟩ | ⟨r, hr, h6, h7, h8⟩
    · rw [h7]
      have e6 : wP f t (Int.toNat 0) = dP f t := rfl
      have e7 : f.rules.find? (fun r => r.nr == d.nr) = none := List.find?_eq_none.2 (fun r hr => by simpa using h6 r hr)
      rw [e6, R_ret hDf]
      refine ⟨s2 + k + 1, ?_, by omega, by unfold tstN; rw [e7]; omega⟩
      unfold denL; rw [e7]
    · rw [h8]
      have e6 : wP f t (((r + 1 : Nat) : Int).toNat) = rpl f.rules (dP f t + 1) r := by
        unfold wP; rw [if_neg (by omega)]; congr 1
      rw [e6, L21.denL_at hr h6 h7]
      obtain ⟨s3, c3, b3, e8⟩ := rule_run hd hm f.rules[r].tests f.rules[r].action _ d.nr (s2 + k) (h5 _ (List.getElem_mem hr)).2 (rules_has hr hRu)
      have e9 : tstN d f.rules = f.rules[r].tests.length := by
        unfold tstN
        rw [List.find?_eq_some_iff_getElem.2 ⟨by simpa using h6, r, hr, rfl, fun j hj => by simpa using h7 j hj⟩]
      exact ⟨s3, e8, by omega, by rw [e9]; omega⟩
  · rw [if_neg hown] at ho
    obtain ⟨x, s1, b1, e1⟩ := ho
    rw [e1, R_ret hN, L21.denA_not (by simpa using hown)]
    exact ⟨s1 + 1, rfl, by omega, by omega⟩
end L25M
end Go.Proofs.Ytkmhfjnjfghnjaa

/- Layer 25, plain: the tree of a filter's numbers leads each number to its rule. -/
namespace Go.Proofs.Ytkmhfjnjfghnjaa
open Go.RowKit V
namespace L25M
open L21 (Test Rule Filter mayR mayL mayF upB)
open L24 (may fnd tre findA)
open L23 (Span merge pc up whole way wys put gap)
def nsF (f : Filter) : List Nat := f.rules.map (·.nr)
def wsF (f : Filter) : List Int := (List.range f.rules.length).map fun i => ((i + 1 : Nat) : Int)
def spanF (f : Filter) : List Span := merge (pc 0 (nsF f) (wsF f) 0)
def treeF (f : Filter) : List Nd := tre (spanF f) 0
theorem nsF_len (f : Filter) : (nsF f).length = f.rules.length := List.length_map _
theorem wsF_len (f : Filter) : (wsF f).length = f.rules.length := by unfold wsF; simp
theorem up_of : ∀ {rs : List Rule} {p : Option Nat} {next : Nat}, mayL p rs = true → (∀ n, upB p n = true → next ≤ n) → up (rs.map (·.nr)) next = true
  | [], _, _, _, _ => rfl
  | r :: l, p, next, h, hn => by
    simp only [mayL, Bool.and_eq_true] at h
    show (decide (next ≤ r.nr) && up (l.map (·.nr)) (r.nr + 1)) = true
    rw [decide_eq_true (hn _ h.1.2), Bool.true_and]
    exact up_of h.2 (fun n hh => by have := of_decide_eq_true hh; omega)
theorem put_ways {P : Int → Prop} {out : List Span} {s : Span} (h : ∀ x ∈ out, P x.way) (hs : P s.way) : ∀ x ∈ put out s, P x.way := by
  rcases L23.nil_or_snoc out with rfl | ⟨i, l, rfl⟩
  · rw [L23.put_nil]; intro x hx; simp at hx; subst hx; exact hs
  · rw [L23.put_snoc]
    split
    · intro x hx
      rcases List.mem_append.1 hx with hx | hx
      · exact h x (List.mem_append_left _ hx)
      · simp at hx; subst hx; exact h l (by simp)
    · intro x hx
      rcases List.mem_append.1 hx with hx | hx
      · exact h x (List.mem_append_left _ hx)
      · simp at hx
        rcases hx with rfl | rfl
        · exact h _ (by simp)
        · exact hs
theorem merge_ways {P : Int → Prop} : ∀ {ys out : List Span}, (∀ x ∈ out, P x.way) → (∀ x ∈ ys, P x.way) → ∀ x ∈ ys.foldl put out, P x.way
  | [], _, h, _ => h
  | y :: r, _, h, hy => merge_ways (ys := r) (put_ways h (hy y List.mem_cons_self)) (fun x hx => hy x (List.mem_cons_of_mem _ hx))
theorem gap_ways {P : Int → Prop} {o : Int} (ho : P o) (a b : Nat) : ∀ x ∈ gap o a b, P x.way := by
  unfold gap
  split
  · intro x hx; simp at hx; subst hx; exact ho
  · intro x hx; cases hx
theorem pc_ways {P : Int → Prop} {o : Int} (ho : P o) : ∀ (ns : List Nat) (ws : List Int) (next : Nat), (∀ x ∈ ws, P x) → ∀ x ∈ pc o ns ws next, P x.way
  | [], ws, next, _, x, hx => by
    unfold pc at hx
    exact gap_ways ho _ _ x hx
  | n :: ns, [], next, _, x, hx => by
    unfold pc at hx
    exact gap_ways ho _ _ x hx
  | n :: ns, v :: ws, next, h, x, hx => by
    unfold pc at hx
    rcases List.mem_append.1 hx with hx | hx
    · exact gap_ways ho _ _ x hx
    · rcases List.mem_cons.1 hx with rfl | hx
      · exact h v List.mem_cons_self
      · exact pc_ways ho ns ws _ (fun x hx => h x (List.mem_cons_of_mem _ hx)) x hx
theorem treeF_facts {f : Filter} (hf : mayF f = true) (hn : ∀ r ∈ f.rules, r.nr < 4294967296) :
    up (nsF f) 0 = true ∧ whole (spanF f) = true ∧ (spanF f).length ≤ 2 * f.rules.length + 1 ∧ (∀ x ∈ spanF f, 0 ≤ x.way ∧ x.way ≤ (f.rules.length : Int)) ∧ TOk f (treeF f) := by
  obtain ⟨h1, h2, h3, h4, h5⟩ := may_rules hf
  have hu : up (nsF f) 0 = true := up_of h4 (fun n _ => Nat.zero_le _)
  have hns : ∀ n ∈ nsF f, n < 4294967296 := fun n hh => by
    obtain ⟨r, hr, rfl⟩ := List.mem_map.1 hh
    exact hn r hr
  have hll : (nsF f).length = (wsF f).length := by rw [nsF_len, wsF_len]
  have hw : whole (spanF f) = true := L23.whole_merge (L23.pc_whole hll hu hns)
  have hlen : (spanF f).length ≤ 2 * f.rules.length + 1 := by
    have e1 := L23.merge_len (pc 0 (nsF f) (wsF f) 0)
    have e2 := L23.pc_len 0 (nsF f) (wsF f) 0
    rw [nsF_len] at e2
    exact Nat.le_trans e1 e2
  have hways : ∀ x ∈ spanF f, 0 ≤ x.way ∧ x.way ≤ (f.rules.length : Int) := merge_ways (P := fun y => 0 ≤ y ∧ y ≤ (f.rules.length : Int)) (fun x hx => by cases hx) (pc_ways (P := fun y => 0 ≤ y ∧ y ≤ (f.rules.length : Int)) (by omega) (nsF f) (wsF f) 0 (fun x hx => by
    unfold wsF at hx
    obtain ⟨i, hi, rfl⟩ := List.mem_map.1 hx
    have := List.mem_range.1 hi
    omega))
  have hp := L24.whole_pos hw
  refine ⟨hu, hw, hlen, hways, L24.tre_may hp, fun i hi hl => ?_, ?_⟩
  · have e := L24.tre_leaves (spanF f) hp 0
    have hm : (treeF f)[i].way ∈ L24.leaves (treeF f) := by
      unfold L24.leaves
      exact List.mem_map.2 ⟨(treeF f)[i], List.mem_filter.2 ⟨List.getElem_mem hi, hl⟩, rfl⟩
    have hm2 : (treeF f)[i].way ∈ wys (spanF f) := by rw [← e]; exact hm
    obtain ⟨s, hs, e2⟩ := List.mem_map.1 hm2
    rw [← e2]; exact hways s hs
  · have := L24.tre_len (spanF f) hp 0
    unfold treeF
    omega
theorem nr_at {f : Filter} {k : Nat} (h : k < f.rules.length) : (nsF f)[k]'(by rw [nsF_len]; exact h) = f.rules[k].nr := by unfold nsF; rw [List.getElem_map]
theorem treeF_leads {f : Filter} (hf : mayF f = true) (hn : ∀ r ∈ f.rules, r.nr < 4294967296) {n q : Nat} (hb : n < 4294967296) (hq : 2 * f.rules.length + 1 ≤ 2 ^ q) : Leads f (treeF f) n ∧ (fnd (treeF f) n (treeF f).length 0 0).2 ≤ q := by
  obtain ⟨hu, hw, hlen, hways, hT⟩ := treeF_facts hf hn
  have hll : (nsF f).length = (wsF f).length := by rw [nsF_len, wsF_len]
  have hns : ∀ n ∈ nsF f, n < 4294967296 := fun n hh => by
    obtain ⟨r, hr, rfl⟩ := List.mem_map.1 hh
    exact hn r hr
  obtain ⟨e1, e2⟩ := L24.build_find hw hb (q := q) (Nat.le_trans hlen hq)
  have e3 : findA (treeF f) n = fnd (treeF f) n (treeF f).length 0 0 := by unfold findA; rw [if_pos hT.may]
  have e4 : way (spanF f) n = (L23.look (nsF f) (wsF f) 0 n, true) := by
    unfold spanF
    rw [L23.way_merge (L23.pc_whole hll hu hns)]
    exact L23.pc_way 0 _ _ 0 n hll hu (Nat.zero_le _) hb
  have e5 : (fnd (treeF f) n (treeF f).length 0 0).1 = L23.look (nsF f) (wsF f) 0 n := by rw [← e3]; show (findA (tre (spanF f) 0) n).1 = _; rw [e1, e4]
  refine ⟨?_, by rw [← e3]; exact e2⟩
  by_cases hx : ∀ r ∈ f.rules, r.nr ≠ n
  · refine .inl ⟨hx, ?_⟩
    rw [e5]
    exact L23.look_none (fun k hk => by
      have hk' : k < f.rules.length := by rw [nsF_len] at hk; exact hk
      rw [nr_at hk']
      exact hx _ (List.getElem_mem hk'))
  · have hx2 : ∃ k, ∃ h : k < f.rules.length, f.rules[k].nr = n := by
      refine Classical.byContradiction fun hc => hx fun r hr e => hc ?_
      obtain ⟨k, hk, rfl⟩ := List.mem_iff_getElem.1 hr
      exact ⟨k, hk, e⟩
    obtain ⟨k, hk, e⟩ := hx2
    have hlook : ∀ j (hj : j < f.rules.length), L23.look (nsF f) (wsF f) 0 f.rules[j].nr = ((j + 1 : Nat) : Int) := fun j hj => by
      have := L23.look_at (ns := nsF f) (ws := wsF f) (o := 0) (next := 0) (k := j) (by rw [nsF_len]; exact hj) (by rw [wsF_len]; exact hj) hu
      rw [nr_at hj] at this
      rw [this]; unfold wsF; rw [List.getElem_map, List.getElem_range]
    refine .inr ⟨k, hk, e, fun j hj e2 => ?_, by rw [e5, ← e]; exact hlook k hk⟩
    have h1 := hlook k hk
    have h2 := hlook j (by omega)
    rw [e2] at h2
    rw [e] at h1
    omega
end L25M
end Go.Proofs.Ytkmhfjnjfghnjaa

/- Layer 25: the walks of Low, High, half, test. -/
namespace Go.Proofs.Ytkmhfjnjfghnjaa
open Go.RowKit V
namespace L25M
open L25 (Sy encY encY_len encY_one lo hi Halves_calls)
open L25W
open L21 (Test Rule OkT mayT)
theorem place_calls (a b : Int) (h0 : 0 ≤ a) (h6 : a < 6) (hb : 0 ≤ b) (hb4 : b ≤ 4) (w : World) : Calls Try.prog 115 #[.int .i64 a, .int .i64 b] w fun e w' => e = .returned (.tuple #[.int .u32 (16 + 8 * a + b), .bool true]) ∧ Ext w w' := by
  have g1 : decide (a < 0) = false := decide_eq_false (by omega)
  have g2 : decide (5 < a) = false := decide_eq_false (by omega)
  have hw : IntKind.u32.wrap (16 + 8 * a + b) = 16 + 8 * a + b := by simp [IntKind.wrap, IntKind.signed, IntKind.bits]; omega
  go_enter Try.func115, Try.ntmps115
  go_wp2_with fail
  go_ret2
  exact ⟨rfl, Ext.refl _⟩
theorem Low_calls (t : Test) (h : mayT t = true) (w : World) : Calls Try.prog 112 #[.int .i64 t.arg] w fun e w' => e = .returned (.tuple #[.int .u32 (loAt t : Int), .bool true]) ∧ Ext w w' := by
  obtain ⟨h0, h6, -⟩ := L21.mayT_parts h
  have hp := fun W => place_calls t.arg 0 h0 h6 (by omega) (by omega) W
  have e : 16 + 8 * t.arg + 0 = (loAt t : Int) := by unfold loAt; omega
  rw [e] at hp
  generalize (loAt t : Int) = x at *
  have Hhp := Lib.hid hp
  clear hp
  clear e h
  go_enter Try.func112, Try.ntmps112
  go_wp2_with fail
  refine (Hhp.out _).mono ?_
  rintro _ w1 ⟨rfl, hx⟩
  go_wp2_with fail
  go_ret2
  exact ⟨rfl, hx⟩
theorem High_calls (t : Test) (h : mayT t = true) (w : World) : Calls Try.prog 113 #[.int .i64 t.arg] w fun e w' => e = .returned (.tuple #[.int .u32 (hiAt t : Int), .bool true]) ∧ Ext w w' := by
  obtain ⟨h0, h6, -⟩ := L21.mayT_parts h
  have hp := fun W => place_calls t.arg 4 h0 h6 (by omega) (by omega) W
  have e : 16 + 8 * t.arg + 4 = (hiAt t : Int) := by unfold hiAt; omega
  rw [e] at hp
  generalize (hiAt t : Int) = x at *
  have Hhp := Lib.hid hp
  clear hp
  clear e h
  go_enter Try.func113, Try.ntmps113
  go_wp2_with fail
  refine (Hhp.out _).mono ?_
  rintro _ w1 ⟨rfl, hx⟩
  go_wp2_with fail
  go_ret2
  exact ⟨rfl, hx⟩
theorem res_pl (b p n : Nat) : Tg.res b p (.pl n) = .pl n := rfl
theorem res_eq (b p : Nat) : Tg.res b p (.lb b) = .pl p := if_pos rfl
theorem res_ne {b p x : Nat} (h : x ≠ b) : Tg.res b p (.lb x) = .lb x := if_neg h
theorem close_mono {w0 W : World} {B n : Nat} {O : Nat → Prop} {ss : List SS} (h : SW w0 B (fun x => (O x ∨ x = n) ∧ x ≠ n) ss W) (hn : ¬ O n) : SW w0 B O ss W :=
  h.mono (fun x => ⟨fun h => by rcases h.1 with h1 | h1; exact h1; exact absurd h1 h.2, fun h => ⟨.inl h, fun e => hn (e ▸ h)⟩⟩)
set_option maxRecDepth 100000 in
set_option maxHeartbeats 4000000 in
theorem half_calls {w0 W : World} {B : Nat} {O : Nat → Prop} {ss : List SS} (h : SW w0 B O ss W) (hl : ss.length ≤ 99000) (at_ mask value fl : Nat) (hfl : O fl) :
    Calls Try.prog 114 #[pv B, .int .u32 (at_ : Int), .int .u32 (mask : Int), .int .u32 (value : Int), pv fl] W fun e w' => e = .returned (.tuple #[]) ∧ SW w0 B O (ss ++ halfS ss.length at_ mask value (.lb fl)) w' ∧ WT W w' := by
  have HS := Lib.hid h
  have HO := Lib.hid hfl
  clear h hfl
  by_cases h0 : mask = 0
  · subst h0
    go_enter Try.func114, Try.ntmps114
    go_wp2_with fail
    first | go_end0 | refine bodyPost_ret (results_none rfl _ _ _) rfl ?_
    exact ⟨rfl, by show SW w0 B O (ss ++ []) W; rw [List.append_nil]; exact HS.out, WT.refl _⟩
  have g0 : ((mask : Int) == 0) = false := by rw [beq_eq_false_iff_ne]; omega
  have hS : halfS ss.length at_ mask value (.lb fl) = if mask = 4294967295 then [iL at_, iJ 21 value (.pl (ss.length + 2)) (.lb fl)] else [iL at_, iA mask, iJ 21 value (.pl (ss.length + 3)) (.lb fl)] := by unfold halfS; rw [if_neg h0]
  rw [hS]
  clear hS
  by_cases h1 : mask = 4294967295
  · rw [if_pos h1]
    subst h1
    go_enter Try.func114, Try.ntmps114
    go_wp2_with fail
    refine (SW.load_calls HS.out (by omega) at_).mono ?_
    rintro e w2 ⟨rfl, hs2, ht2⟩
    have HS2 := Lib.hid hs2
    have HT2 := Lib.hid ht2
    have HL2 := Lib.hid (hs2.label (.int .i64 0))
    clear hs2 ht2
    go_wp2_with fail
    refine (SW.jump_calls HL2.out.1 (by simp; omega) 21 value w2.heap.size fl (.inr rfl) (.inl HO.out)).mono ?_
    rintro e w3 ⟨rfl, hs3, ht3⟩
    have HS3 := Lib.hid hs3
    have HT3 := Lib.hid (HT2.out.trans (WT.after _ ht3))
    clear hs3 ht3
    go_wp2_with fail
    refine (SW.here_calls HS3.out (b := w2.heap.size) (.inr rfl)).mono ?_
    rintro e w4 ⟨rfl, hs4, ht4⟩
    have hn := HL2.out.2
    have hne : fl ≠ w2.heap.size := fun e => hn (e ▸ HO.out)
    have hs5 := close_mono hs4 hn
    rw [List.map_append, List.map_append, res_hd HS.out hn] at hs5
    simp only [List.map_cons, List.map_nil, SS.mp, Option.map_some, Option.map_none, res_eq, res_ne hne, List.append_assoc, List.cons_append, List.nil_append, List.length_append, List.length_cons, List.length_nil] at hs5
    have HF := Lib.hid hs5
    have HT4 := Lib.hid (HT3.out.trans ht4)
    clear hs4 hs5 ht4
    go_wp2_with fail
    first | go_end0 | refine bodyPost_ret (results_none rfl _ _ _) rfl ?_
    exact ⟨rfl, HF.out, HT4.out⟩
  · rw [if_neg h1]
    have g1 : ((mask : Int) != 4294967295) = true := by rw [bne, Bool.not_eq_true', beq_eq_false_iff_ne]; omega
    go_enter Try.func114, Try.ntmps114
    go_wp2_with fail
    refine (SW.load_calls HS.out (by omega) at_).mono ?_
    rintro e w2 ⟨rfl, hs2, ht2⟩
    have HS2 := Lib.hid (hs2.ext ((Ext.refl _).alloc (.cells #[.int .u16 84, .int .u32 (mask : Int), .int .i64 0, .int .i64 0] 70)))
    have HT2 := Lib.hid (ht2.trans (WT.of_ext ((Ext.refl _).alloc (.cells #[.int .u16 84, .int .u32 (mask : Int), .int .i64 0, .int .i64 0] 70))))
    clear hs2 ht2
    go_wp2_with fail
    refine (SW.put_calls HS2.out (by simp; omega) (c := 84) (k := mask) (rd_lit encY_len w2 [⟨84, mask, 0, 0⟩] 70 w2.heap.size rfl)).mono ?_
    rintro e w3 ⟨rfl, hs3, ht3⟩
    have HL3 := Lib.hid (hs3.label (.int .i64 0))
    have HT3 := Lib.hid (HT2.out.trans ht3)
    clear hs3 ht3
    go_wp2_with fail
    refine (SW.jump_calls HL3.out.1 (by simp; omega) 21 value w3.heap.size fl (.inr rfl) (.inl HO.out)).mono ?_
    rintro e w4 ⟨rfl, hs4, ht4⟩
    have HS4 := Lib.hid hs4
    have HT4 := Lib.hid (HT3.out.trans (WT.after _ ht4))
    clear hs4 ht4
    go_wp2_with fail
    refine (SW.here_calls HS4.out (b := w3.heap.size) (.inr rfl)).mono ?_
    rintro e w5 ⟨rfl, hs5, ht5⟩
    have hn := HL3.out.2
    have hne : fl ≠ w3.heap.size := fun e => hn (e ▸ HO.out)
    have hs6 := close_mono hs5 hn
    rw [List.map_append, List.map_append, List.map_append, res_hd HS.out hn] at hs6
    simp only [List.map_cons, List.map_nil, SS.mp, Option.map_some, Option.map_none, res_eq, res_ne hne, List.append_assoc, List.cons_append, List.nil_append, List.length_append, List.length_cons, List.length_nil] at hs6
    have HF := Lib.hid hs6
    have HT5 := Lib.hid (HT4.out.trans ht5)
    clear hs5 hs6 ht5
    go_wp2_with fail
    first | go_end0 | refine bodyPost_ret (results_none rfl _ _ _) rfl ?_
    exact ⟨rfl, HF.out, HT5.out⟩
end L25M
end Go.Proofs.Ytkmhfjnjfghnjaa

/- Layer 25: the walks of test, rule, own. -/
namespace Go.Proofs.Ytkmhfjnjfghnjaa
open Go.RowKit V
namespace L25M
open L25 (Sy encY encY_len encY_one lo hi Halves_calls)
open L25W
open L21 (Test Rule OkT OkR mayT encT rdT_cell)
open L25A (tokA Token_calls)
open L25G (tokN)
theorem blk_cell {w : World} {b : Nat} {cs : Array Value} {t : Nat} (h : w.heap[b]? = some (.cells cs t (0, 0))) (i : Nat) : w.cell? ⟨b, i, none⟩ = cs[i]? := by simp [World.cell?, h]
theorem blk_ext {w w' : World} {b : Nat} {cs : Array Value} {t : Nat} (h : w.heap[b]? = some (.cells cs t (0, 0))) (hx : Ext w w') : w'.heap[b]? = some (.cells cs t (0, 0)) := (hx.block (Array.getElem?_eq_some_iff.1 h).1).trans h
theorem lo_lt (x : Nat) : lo x < 4294967296 := Nat.mod_lt _ (by omega)
theorem testS_res {w0 W : World} {B n : Nat} {O : Nat → Prop} {ss : List SS} (h : SW w0 B O ss W) (hn : ¬ O n) (t : Test) :
    (ss ++ (halfS ss.length (loAt t) (lo t.mask) (lo t.value) (.lb n) ++ (halfS (ss.length + halfN (lo t.mask)) (hiAt t) (hi t.mask) (hi t.value) (.lb n) ++ [iR t.action]))).map (SS.mp (Tg.res n (ss.length + testN t))) = ss ++ testS ss.length t := by
  rw [List.map_append, res_hd h hn]
  have hh : ∀ p a m v q, (halfS p a m v (.lb n)).map (SS.mp (Tg.res n q)) = halfS p a m v (.pl q) := by
    intro p a m v q
    unfold halfS
    split
    · rfl
    · split <;> simp [SS.mp, Tg.res]
  rw [List.map_append, List.map_append, hh, hh]
  rfl
set_option maxRecDepth 100000 in
set_option maxHeartbeats 4000000 in
theorem test_calls {w0 W : World} {B : Nat} {O : Nat → Prop} {ss : List SS} (h : SW w0 B O ss W) (hl : ss.length ≤ 98000) (t : Test) (ht : mayT t = true) (hk : OkT t) :
    Calls Try.prog 103 #[pv B, .agg #[.int .i64 t.arg, .int .u64 (t.mask : Int), .int .u64 (t.value : Int), .int .u32 (t.action : Int)]] W fun e w' => e = .returned (.tuple #[]) ∧ SW w0 B O (ss ++ testS ss.length t) w' ∧ WT W w' := by
  have hm := hk.m
  have hv := hk.v
  have hLo := fun W => Low_calls t ht W
  have hHi := fun W => High_calls t ht W
  have hM := fun W => Halves_calls t.mask hm W
  have hV := fun W => Halves_calls t.value hv W
  have hb0 : (W.alloc (.cells #[.int .i64 t.arg, .int .u64 (t.mask : Int), .int .u64 (t.value : Int), .int .u32 (t.action : Int)] 37)).heap[W.heap.size]? = some (.cells #[.int .i64 t.arg, .int .u64 (t.mask : Int), .int .u64 (t.value : Int), .int .u32 (t.action : Int)] 37 (0, 0)) := heap_alloc_new W _
  have hs0 := h.ext ((Ext.refl W).alloc (.cells #[.int .i64 t.arg, .int .u64 (t.mask : Int), .int .u64 (t.value : Int), .int .u32 (t.action : Int)] 37))
  have hs1 := hs0.label (.int .i64 0)
  rw [World.size_alloc] at hs1
  have hn : ¬ O (W.heap.size + 1) := hs1.2
  obtain ⟨W1, hW1⟩ : ∃ W1, W1 = (W.alloc (.cells #[.int .i64 t.arg, .int .u64 (t.mask : Int), .int .u64 (t.value : Int), .int .u32 (t.action : Int)] 37)).alloc (.cells #[.int .i64 0] 98) := ⟨_, rfl⟩
  have hb1 : W1.heap[W.heap.size]? = some (.cells #[.int .i64 t.arg, .int .u64 (t.mask : Int), .int .u64 (t.value : Int), .int .u32 (t.action : Int)] 37 (0, 0)) := by rw [hW1]; exact blk_ext hb0 ((Ext.refl _).alloc _)
  have ht1 : WT W W1 := by rw [hW1]; exact WT.of_ext (((Ext.refl _).alloc _).alloc _)
  have hS1 : SW w0 B (fun b => O b ∨ b = W.heap.size + 1) ss W1 := by rw [hW1]; exact hs1.1
  have hres := testS_res h hn t
  have hn1 := testN_pos t
  have hN : testN t = halfN (lo t.mask) + halfN (hi t.mask) + 1 := rfl
  have hlen1 : (ss ++ halfS ss.length (loAt t) (lo t.mask) (lo t.value) (.lb (W.heap.size + 1))).length = ss.length + halfN (lo t.mask) := by rw [List.length_append, halfS_len]
  have hlen2 : ((ss ++ halfS ss.length (loAt t) (lo t.mask) (lo t.value) (.lb (W.heap.size + 1))) ++ halfS (ss.length + halfN (lo t.mask)) (hiAt t) (hi t.mask) (hi t.value) (.lb (W.heap.size + 1))).length = ss.length + halfN (lo t.mask) + halfN (hi t.mask) := by rw [List.length_append, hlen1, halfS_len]
  have HW1 := Lib.hid hW1
  have HN := Lib.hid hn
  clear hW1 h hs0 hs1 hb0 hk ht hm hv
  have HhLo := Lib.hid hLo
  clear hLo
  have HhHi := Lib.hid hHi
  clear hHi
  have HhM := Lib.hid hM
  clear hM
  have HhV := Lib.hid hV
  clear hV
  have Hhres := Lib.hid hres
  clear hres
  have HhN := Lib.hid hN
  clear hN
  have Hhlen1 := Lib.hid hlen1
  clear hlen1
  have Hhlen2 := Lib.hid hlen2
  clear hlen2
  have HhS1 := Lib.hid hS1
  clear hS1
  have Hht1 := Lib.hid ht1
  clear ht1
  have Hhb1 := Lib.hid hb1
  clear hb1
  go_enter Try.func103, Try.ntmps103
  go_upto_region 2 with fail
  rw [← HW1.out]
  have c0 := blk_cell Hhb1.out 0
  simp at c0
  go_wp2_with fail
  refine (HhLo.out _).mono ?_
  rintro e w2 ⟨rfl, hx2⟩
  have HX2 := Lib.hid hx2
  replace c0 := hx2.cell c0
  clear hx2
  go_wp2_with fail
  refine (HhHi.out _).mono ?_
  rintro e w3 ⟨rfl, hx3⟩
  have HX3 := Lib.hid (HX2.out.trans hx3)
  clear hx3 c0
  have c1 : w3.cell? ⟨W.heap.size, 1, none⟩ = some (.int .u64 (t.mask : Int)) := HX3.out.cell (blk_cell Hhb1.out 1)
  go_wp2_with fail
  refine (HhM.out _).mono ?_
  rintro e w4 ⟨rfl, hx4⟩
  have HX4 := Lib.hid (HX3.out.trans hx4)
  clear hx4 c1
  have c2 : w4.cell? ⟨W.heap.size, 2, none⟩ = some (.int .u64 (t.value : Int)) := HX4.out.cell (blk_cell Hhb1.out 2)
  go_wp2_with fail
  refine (HhV.out _).mono ?_
  rintro e w5 ⟨rfl, hx5⟩
  have HS5 := Lib.hid (HhS1.out.ext (HX4.out.trans hx5))
  have HB5 := Lib.hid (blk_ext Hhb1.out (HX4.out.trans hx5))
  have HT5 := Lib.hid (Hht1.out.trans (WT.of_ext (HX4.out.trans hx5)))
  clear hx5 c2
  go_wp2_with fail
  refine (half_calls HS5.out (by omega) (loAt t) (lo t.mask) (lo t.value) (W.heap.size + 1) (.inr rfl)).mono ?_
  rintro e w6 ⟨rfl, hs6, ht6⟩
  have HS6 := Lib.hid hs6
  have HB6 := Lib.hid (ht6.kept _ _ _ _ HB5.out (by decide) (by decide) (by decide) (by decide))
  have HT6 := Lib.hid (HT5.out.trans ht6)
  clear hs6 ht6
  go_wp2_with fail
  refine (half_calls HS6.out (by rw [Hhlen1.out]; have := HhN.out; omega) (hiAt t) (hi t.mask) (hi t.value) (W.heap.size + 1) (.inr rfl)).mono ?_
  rintro e w7 ⟨rfl, hs7, ht7⟩
  rw [Hhlen1.out] at hs7
  have HS7 := Lib.hid hs7
  have HT7 := Lib.hid (HT6.out.trans ht7)
  have c3 : w7.cell? ⟨W.heap.size, 3, none⟩ = some (.int .u32 (t.action : Int)) := blk_cell (ht7.kept _ _ _ _ HB6.out (by decide) (by decide) (by decide) (by decide)) 3
  clear hs7 ht7
  go_wp2_with fail
  refine (SW.ret_calls HS7.out (by rw [Hhlen2.out]; have := HhN.out; omega) t.action).mono ?_
  rintro e w8 ⟨rfl, hs8, ht8⟩
  have HS8 := Lib.hid hs8
  have HT8 := Lib.hid (HT7.out.trans ht8)
  clear hs8 ht8 c3
  go_wp2_with fail
  refine (SW.here_calls HS8.out (b := W.heap.size + 1) (.inr rfl)).mono ?_
  rintro e w9 ⟨rfl, hs9, ht9⟩
  have hs10 := close_mono hs9 HN.out
  have hle : ((ss ++ halfS ss.length (loAt t) (lo t.mask) (lo t.value) (.lb (W.heap.size + 1))) ++ halfS (ss.length + halfN (lo t.mask)) (hiAt t) (hi t.mask) (hi t.value) (.lb (W.heap.size + 1)) ++ [iR t.action]).length = ss.length + testN t := by
    rw [List.length_append, Hhlen2.out]; have := HhN.out; simp; omega
  rw [hle, List.append_assoc, List.append_assoc, Hhres.out] at hs10
  have HF := Lib.hid hs10
  have HT9 := Lib.hid (HT8.out.trans ht9)
  clear hs9 hs10 ht9 hle
  go_wp2_with fail
  first | go_end0 | refine bodyPost_ret (results_none rfl _ _ _) rfl ?_
  exact ⟨rfl, HF.out, HT9.out⟩
end L25M
end Go.Proofs.Ytkmhfjnjfghnjaa

/- Layer 25: the walks of rule, own. -/
namespace Go.Proofs.Ytkmhfjnjfghnjaa
open Go.RowKit V
namespace L25M
open L25 (Sy encY encY_len encY_one lo hi Halves_calls)
open L25W
open L21 (Test Rule OkT OkR mayT encT rdT_cell)
open L25A (tokA Token_calls)
open L25G (tokN)
set_option maxRecDepth 100000 in
set_option maxHeartbeats 4000000 in
theorem rule_calls {w0 W : World} {B : Nat} {O : Nat → Prop} {ss : List SS} (h : SW w0 B O ss W) (hl : ss.length ≤ 97000) (nr x : Nat) (ts : List Test) (v : Value) (hv : Rd w0 4 encT v ts) (hn : ts.length ≤ 32) (ht : ∀ t ∈ ts, mayT t = true ∧ OkT t) :
    Calls Try.prog 76 #[pv B, .agg #[.int .u32 (nr : Int), v, .int .u32 (x : Int)]] W fun e w' => e = .returned (.tuple #[]) ∧ SW w0 B O (ss ++ ruleS ss.length ts x) w' ∧ WT W w' := by
  obtain ⟨a, c, rfl, hac, hcell⟩ := rdT_cell hv
  have hb0 : (W.alloc (.cells #[.int .u32 (nr : Int), .slice a ts.length c, .int .u32 (x : Int)] 34)).heap[W.heap.size]? = some (.cells #[.int .u32 (nr : Int), .slice a ts.length c, .int .u32 (x : Int)] 34 (0, 0)) := heap_alloc_new W _
  have hs0 := h.ext ((Ext.refl W).alloc (.cells #[.int .u32 (nr : Int), .slice a ts.length c, .int .u32 (x : Int)] 34))
  have ht0 : WT W (W.alloc (.cells #[.int .u32 (nr : Int), .slice a ts.length c, .int .u32 (x : Int)] 34)) := WT.of_ext ((Ext.refl W).alloc _)
  have Hhb0 := Lib.hid hb0
  clear hb0
  have Hhs0 := Lib.hid hs0
  clear hs0
  have Hht0 := Lib.hid ht0
  clear ht0
  have Hhcell := Lib.hid hcell
  clear hcell
  have Hht := Lib.hid ht
  clear ht
  clear hv h
  go_enter Try.func76, Try.ntmps76
  go_wp2_with fail
  go_loopw [9] (fun i wr => ∃ (k : Nat) (pre : List SS), k ≤ ts.length ∧ i = .int .i64 k ∧ pre.length ≤ 7 * k ∧ ruleS ss.length ts x = pre ++ ruleS (ss.length + pre.length) (ts.drop k) x ∧ SW w0 B O (ss ++ pre) wr ∧ WT W wr ∧ wr.heap[W.heap.size]? = some (.cells #[.int .u32 (nr : Int), .slice a ts.length c, .int .u32 (x : Int)] 34 (0, 0))) (fun i _ => ts.length - (intOf i).toNat)
  case atStart => exact ⟨0, [], by omega, rfl, by simp, by simp, by rw [List.append_nil]; exact Hhs0.out, Hht0.out, Hhb0.out⟩
  case round =>
    obtain ⟨k, pre, hk, rfl, hpl, hpre, hs, hwt, hbx⟩ := hrel
    have HS := Lib.hid hs
    have HT := Lib.hid hwt
    have HB := Lib.hid hbx
    have Hhpre := Lib.hid hpre
    clear hpre
    clear hs hwt hbx
    by_cases hlt : k < ts.length
    · obtain ⟨b, o, rfl, d0, d1, d2, d3⟩ := Hhcell.out k hlt
      have hx0 := HS.out.ext0
      replace d0 := hx0.cell d0
      replace d1 := hx0.cell d1
      replace d2 := hx0.cell d2
      replace d3 := hx0.cell d3
      clear hx0
      obtain ⟨m1, m2⟩ := Hht.out _ (List.getElem_mem hlt)
      have hnx : ruleS ss.length ts x = (pre ++ testS (ss.length + pre.length) ts[k]) ++ if ts[k].mask = 0 then [] else ruleS (ss.length + pre.length + testN ts[k]) (ts.drop (k + 1)) x := by
        rw [Hhpre.out, List.drop_eq_getElem_cons hlt, List.append_assoc]; rfl
      have h0k : (0 : Int) ≤ (k : Int) ∧ (k : Int) < (ts.length : Int) := by omega
      have hsl : (ss ++ pre).length = ss.length + pre.length := List.length_append
      have htl := testS_len (ss.length + pre.length) ts[k]
      have htn := testN_pos ts[k]
      generalize ts[k] = t at *
      have hT := test_calls (HS.out.ext ((Ext.refl wr).alloc (.cells #[.int .i64 t.arg, .int .u64 (t.mask : Int), .int .u64 (t.value : Int), .int .u32 (t.action : Int)] 37))) (by rw [hsl]; omega) t m1 m2
      rw [hsl] at hT
      have hbn : (wr.alloc (.cells #[.int .i64 t.arg, .int .u64 (t.mask : Int), .int .u64 (t.value : Int), .int .u32 (t.action : Int)] 37)).heap[wr.heap.size]? = some (.cells #[.int .i64 t.arg, .int .u64 (t.mask : Int), .int .u64 (t.value : Int), .int .u32 (t.action : Int)] 37 (0, 0)) := heap_alloc_new wr _
      have HhT := Lib.hid hT
      clear hT
      have Hhbn := Lib.hid hbn
      clear hbn
      have Hhnx := Lib.hid hnx
      clear hnx
      have Hhsl := Lib.hid hsl
      clear hsl
      have Hhtl := Lib.hid htl
      clear htl
      clear m1 m2
      go_wp2_with fail
      refine HhT.out.mono ?_
      rintro e w2 ⟨rfl, hs2, ht2⟩
      have HS2 := Lib.hid hs2
      have HT2 := Lib.hid (HT.out.trans (WT.after _ ht2))
      have HB2 := Lib.hid ((WT.after _ ht2).kept _ _ _ _ HB.out (by decide) (by decide) (by decide) (by decide))
      have q1 : w2.cell? ⟨wr.heap.size, 1, none⟩ = some (.int .u64 (t.mask : Int)) := blk_cell (ht2.kept _ _ _ _ Hhbn.out (by decide) (by decide) (by decide) (by decide)) 1
      clear hs2 ht2
      by_cases hm0 : t.mask = 0
      · have hnx := Hhnx.out
        rw [if_pos hm0, List.append_nil] at hnx
        have g0 : ((t.mask : Int) == 0) = true := by rw [hm0]; rfl
        have Hhnx := Lib.hid hnx
        clear hnx
        clear hm0
        go_wp2_with fail
        first | go_end0 | refine bodyPost_ret (results_none rfl _ _ _) rfl ?_
        exact ⟨rfl, by rw [Hhnx.out, ← List.append_assoc]; exact HS2.out, HT2.out⟩
      · have hnx := Hhnx.out
        rw [if_neg hm0] at hnx
        have g0 : ((t.mask : Int) == 0) = false := by rw [beq_eq_false_iff_ne]; omega
        have Hhnx := Lib.hid hnx
        clear hnx
        go_wp2_with fail
        go_roundw
        case rel => exact ⟨k + 1, pre ++ testS (ss.length + pre.length) t, by omega, by go_num, by rw [List.length_append, Hhtl.out]; omega, by rw [Hhnx.out, List.length_append, Hhtl.out, Nat.add_assoc], by rw [← List.append_assoc]; exact HS2.out, HT2.out, HB2.out⟩
        case measure => simp [intOf]; omega
    · obtain rfl : k = ts.length := by omega
      have q2 : wr.cell? ⟨W.heap.size, 2, none⟩ = some (.int .u32 (x : Int)) := blk_cell HB.out 2
      have hfin : ruleS ss.length ts x = pre ++ [iR x] := by rw [Hhpre.out, List.drop_length]; rfl
      have Hhfin := Lib.hid hfin
      clear hfin
      have hsl : (ss ++ pre).length = ss.length + pre.length := List.length_append
      have Hhsl := Lib.hid hsl
      clear hsl
      go_wp2_with fail
      refine (SW.ret_calls HS.out (by rw [Hhsl.out]; omega) x).mono ?_
      rintro e w2 ⟨rfl, hs2, ht2⟩
      have HS2 := Lib.hid hs2
      have HT2 := Lib.hid (HT.out.trans ht2)
      clear hs2 ht2
      go_wp2_with fail
      first | go_end0 | refine bodyPost_ret (results_none rfl _ _ _) rfl ?_
      exact ⟨rfl, by rw [Hhfin.out, ← List.append_assoc]; exact HS2.out, HT2.out⟩
set_option maxRecDepth 100000 in
set_option maxHeartbeats 4000000 in
theorem own_calls {w0 W : World} {B : Nat} {O : Nat → Prop} (h : SW w0 B O [] W) (a : Int) (h0 : 0 ≤ a) (h6 : a < 6) (nt : Nat) (hO : O nt) :
    Calls Try.prog 72 #[pv B, .int .i64 a, pv nt] W fun e w' => e = .returned (.tuple #[]) ∧ SW w0 B O (ownS (.lb nt) a) w' ∧ WT W w' := by
  have hT := fun W => Token_calls a W
  have htk : tokA a = (tokN a.toNat, 0) := by unfold tokA tokN; rw [if_pos ⟨h0, h6⟩]
  rw [htk] at hT
  dsimp only at hT
  have hs1 := h.label (.int .i64 0)
  have hs2 := hs1.1.label (.int .i64 0)
  rw [World.size_alloc] at hs2
  have hn1 := hs1.2
  have hn2 := hs2.2
  have e1 : nt ≠ W.heap.size := fun e => hn1 (e ▸ hO)
  have e2 : nt ≠ W.heap.size + 1 := fun e => hn2 (.inl (e ▸ hO))
  have e3 : W.heap.size + 1 ≠ W.heap.size := by omega
  have hown : ownS (.lb nt) a = [iL 4, iJ 21 (tokN a.toNat) (.pl 2) (.lb nt), iL 0] ++ if a = 0 then [iJ 69 1073741824 (.lb nt) (.pl 4)] else if a = 2 then [iJ 69 1073741824 (.pl 4) (.lb nt)] else [] := rfl
  rw [hown]
  clear hown
  obtain ⟨row, hrow⟩ : ∃ row, row = [iL 4, iJ 21 (tokN a.toNat) (.pl 2) (.lb nt), iL 0] ++ if a = 0 then [iJ 69 1073741824 (.lb nt) (.pl 4)] else if a = 2 then [iJ 69 1073741824 (.pl 4) (.lb nt)] else [] := ⟨_, rfl⟩
  rw [← hrow]
  generalize tokN a.toNat = tk at *
  obtain ⟨W1, hW1⟩ : ∃ W1, W1 = (W.alloc (.cells #[.int .i64 0] 98)).alloc (.cells #[.int .i64 0] 98) := ⟨_, rfl⟩
  have ht1 : WT W W1 := by rw [hW1]; exact WT.of_ext (((Ext.refl _).alloc _).alloc _)
  rw [← hW1] at hs2
  have HW1 := Lib.hid hW1
  have HS1 := Lib.hid hs2.1
  have HN1 := Lib.hid hn1
  have HN2 := Lib.hid hn2
  have HhT := Lib.hid hT
  clear hT
  have HhO := Lib.hid hO
  clear hO
  have Hht1 := Lib.hid ht1
  clear ht1
  have Hhrow := Lib.hid hrow
  clear hrow
  have He1 := Lib.hid e1
  clear e1
  have He2 := Lib.hid e2
  clear e2
  clear hW1 hs1 hs2 hn1 hn2 h htk
  go_enter Try.func72, Try.ntmps72
  go_upto_region 1 with fail
  rw [← HW1.out]
  go_wp2_with fail
  refine (HhT.out _).mono ?_
  rintro e w2 ⟨rfl, hx2⟩
  have HS2 := Lib.hid (HS1.out.ext hx2)
  have HT2 := Lib.hid (Hht1.out.trans (WT.of_ext hx2))
  clear hx2
  go_wp2_with fail
  refine (SW.load_calls HS2.out (by simp) 4).mono ?_
  rintro e w3 ⟨rfl, hs3, ht3⟩
  have HS3 := Lib.hid hs3
  have HT3 := Lib.hid (HT2.out.trans ht3)
  clear hs3 ht3
  go_wp2_with fail
  refine (SW.jump_calls HS3.out (by simp) 21 tk W.heap.size nt (.inl (.inr rfl)) (.inl (.inl HhO.out))).mono ?_
  rintro e w4 ⟨rfl, hs4, ht4⟩
  have HS4 := Lib.hid hs4
  have HT4 := Lib.hid (HT3.out.trans ht4)
  clear hs4 ht4
  go_wp2_with fail
  refine (SW.here_calls HS4.out (b := W.heap.size) (.inl (.inr rfl))).mono ?_
  rintro e w5 ⟨rfl, hs5, ht5⟩
  simp only [List.nil_append, List.cons_append, List.map_cons, List.map_nil, SS.mp, Option.map_some, Option.map_none, res_eq, res_ne He1.out, List.length_cons, List.length_nil] at hs5
  have HS5 := Lib.hid (hs5.mono (O' := fun b => O b ∨ b = W.heap.size + 1) (fun b => ⟨fun h => by
    rcases h.1 with (h1 | h1) | h1
    · exact .inl h1
    · exact absurd h1 h.2
    · exact .inr h1, fun h => by
    rcases h with h1 | h1
    · exact ⟨.inl (.inl h1), fun e => HN1.out (e ▸ h1)⟩
    · exact ⟨.inr h1, by omega⟩⟩))
  have HT5 := Lib.hid (HT4.out.trans ht5)
  clear hs5 ht5
  have HN3 : Hid (¬ O (W.heap.size + 1)) := Lib.hid (fun e => HN2.out (.inl e))
  go_wp2_with fail
  refine (SW.load_calls HS5.out (by simp) 0).mono ?_
  rintro e w6 ⟨rfl, hs6, ht6⟩
  have HS6 := Lib.hid hs6
  have HT6 := Lib.hid (HT5.out.trans ht6)
  clear hs6 ht6
  by_cases ha0 : a = 0
  · have g0 : (a == 0) = true := by simpa using ha0
    have Hha0 := Lib.hid ha0
    clear ha0
    go_wp2_with fail
    refine (SW.jump_calls HS6.out (by simp) 69 1073741824 nt (W.heap.size + 1) (.inl HhO.out) (.inr rfl)).mono ?_
    rintro e w7 ⟨rfl, hs7, ht7⟩
    have HS7 := Lib.hid hs7
    have HT7 := Lib.hid (HT6.out.trans ht7)
    clear hs7 ht7
    go_wp2_with fail
    refine (SW.here_calls HS7.out (b := W.heap.size + 1) (.inr rfl)).mono ?_
    rintro e w8 ⟨rfl, hs8, ht8⟩
    have hs9 := close_mono hs8 HN3.out
    simp only [List.nil_append, List.cons_append, List.map_cons, List.map_nil, SS.mp, Option.map_some, Option.map_none, res_eq, res_ne He2.out, List.length_cons, List.length_nil, res_pl] at hs9
    have HF := Lib.hid hs9
    have HT8 := Lib.hid (HT7.out.trans ht8)
    clear hs8 hs9 ht8
    go_wp2_with fail
    first | go_end0 | refine bodyPost_ret (results_none rfl _ _ _) rfl ?_
    exact ⟨rfl, by rw [Hhrow.out, if_pos Hha0.out]; exact HF.out, HT8.out⟩
  · have g0 : (a == 0) = false := by simpa using ha0
    by_cases ha2 : a = 2
    · have g2 : (a == 2) = true := by simpa using ha2
      have Hha0 := Lib.hid ha0
      clear ha0
      have Hha2 := Lib.hid ha2
      clear ha2
      go_wp2_with fail
      refine (SW.jump_calls HS6.out (by simp) 69 1073741824 (W.heap.size + 1) nt (.inr rfl) (.inl HhO.out)).mono ?_
      rintro e w7 ⟨rfl, hs7, ht7⟩
      have HS7 := Lib.hid hs7
      have HT7 := Lib.hid (HT6.out.trans ht7)
      clear hs7 ht7
      go_wp2_with fail
      refine (SW.here_calls HS7.out (b := W.heap.size + 1) (.inr rfl)).mono ?_
      rintro e w8 ⟨rfl, hs8, ht8⟩
      have hs9 := close_mono hs8 HN3.out
      simp only [List.nil_append, List.cons_append, List.map_cons, List.map_nil, SS.mp, Option.map_some, Option.map_none, res_eq, res_ne He2.out, List.length_cons, List.length_nil, res_pl] at hs9
      have HF := Lib.hid hs9
      have HT8 := Lib.hid (HT7.out.trans ht8)
      clear hs8 hs9 ht8
      go_wp2_with fail
      first | go_end0 | refine bodyPost_ret (results_none rfl _ _ _) rfl ?_
      exact ⟨rfl, by rw [Hhrow.out, if_neg Hha0.out, if_pos Hha2.out]; exact HF.out, HT8.out⟩
    · have g2 : (a == 2) = false := by simpa using ha2
      have Hha0 := Lib.hid ha0
      clear ha0
      have Hha2 := Lib.hid ha2
      clear ha2
      go_wp2_with fail
      refine (SW.here_calls HS6.out (b := W.heap.size + 1) (.inr rfl)).mono ?_
      rintro e w8 ⟨rfl, hs8, ht8⟩
      have hs9 := close_mono hs8 HN3.out
      simp only [List.nil_append, List.cons_append, List.map_cons, List.map_nil, SS.mp, Option.map_some, Option.map_none, res_ne He2.out, List.length_cons, List.length_nil, res_pl] at hs9
      have HF := Lib.hid hs9
      have HT8 := Lib.hid (HT6.out.trans ht8)
      clear hs8 hs9 ht8
      go_wp2_with fail
      first | go_end0 | refine bodyPost_ret (results_none rfl _ _ _) rfl ?_
      exact ⟨rfl, by rw [Hhrow.out, if_neg Hha0.out, if_neg Hha2.out, List.append_nil]; exact HF.out, HT8.out⟩
end L25M
end Go.Proofs.Ytkmhfjnjfghnjaa

/- Layer 25: rows of labels in memory; many labels opened at once. -/
namespace Go.Proofs.Ytkmhfjnjfghnjaa
open Go.RowKit V
namespace L25M
open L25W
/-- a pointer to a label, or none -/
def encL (o : Option Nat) : List Value := [.pointer (o.map fun b => ⟨b, 0, none⟩)]
theorem encL_len (o : Option Nat) : (encL o).length = 1 := rfl
theorem encL_one (o : Option Nat) : ∀ u ∈ encL o, u.oneCell' = true := by intro u hu; simp [encL] at hu; subst hu; cases o <;> rfl
theorem infoL : (Try.prog.info? 96).map (fun i => (i.zero, i.size, i.bytes)) = some (some (.pointer none), 1, 8) := by kernel_rfl
theorem made_ptr (n : Nat) : (madeCells (Value.pointer none).cells (n * 1)).toList = (List.replicate n (none : Option Nat)).flatMap encL := by
  rw [Nat.mul_one]
  apply List.ext_getElem?
  intro i
  rw [show ((List.replicate n (none : Option Nat)).flatMap encL) = List.replicate n (Value.pointer none) by
    induction n with
    | zero => rfl
    | succ n ih => rw [List.replicate_succ, List.flatMap_cons, ih]; rfl]
  unfold madeCells
  by_cases h : i < n
  · simp [h, Value.cells, Nat.mod_one]
  · simp [h]
/-- a row of the call's own in a block -/
def LP (w : World) (base g : Nat) (ls : List (Option Nat)) (c : Nat) : Prop := w.ownsRow base 96 1 (.slice (some ⟨g, 0, none⟩) ls.length c) ls.length (ls.flatMap encL)
theorem LP.cell {w : World} {base g c : Nat} {ls : List (Option Nat)} (h : LP w base g ls c) (j : Nat) (hj : j < ls.length) : w.cell? ⟨g, j, none⟩ = some (.pointer (ls[j].map fun b => ⟨b, 0, none⟩)) := by
  obtain ⟨a, c', h1, h2, h3, h4⟩ := rd_of_own (n := 1) encL_len h
  simp only [Value.slice.injEq] at h1
  obtain ⟨b, o, e2, k⟩ := h4 j hj
  rw [← h1.1] at e2
  obtain ⟨rfl, rfl⟩ : g = b ∧ 0 = o := by simpa using e2
  have := k 0 (by simp [encL])
  rw [Nat.mul_one, Nat.zero_add] at this
  exact this
theorem LP.typed {w : World} {base g c : Nat} {ls : List (Option Nat)} (h : LP w base g ls c) : ∃ cur, w.heap[g]? = some (.cells cur 96 (0, 0)) := L21.own_typed h g rfl
theorem LP.frozen {w : World} {base g c : Nat} {ls : List (Option Nat)} (h : LP w base g ls c) (j : Nat) : w.frozen? ⟨g, j, none⟩ = false ∧ g < w.heap.size := by
  obtain ⟨cur, hc⟩ := h.typed
  exact ⟨by simp [World.frozen?, hc], (Array.getElem?_eq_some_iff.1 hc).1⟩
theorem LP.set_ {w : World} {base g c : Nat} {ls : List (Option Nat)} (h : LP w base g ls c) (j b : Nat) (hj : j < ls.length) : LP (w.setCell ⟨g, j, none⟩ (pv b)) base g (ls.set j (some b)) c := by
  have hst := own_store (e := 96) encL_len h j 0 (pv b) (some b) hj (by decide) rfl
  rw [Nat.mul_one, Nat.add_zero] at hst
  unfold LP
  rw [List.length_set]
  exact hst.1
theorem LP.ext {w w' : World} {base g c : Nat} {ls : List (Option Nat)} (h : LP w base g ls c) (hx : Ext w w') : LP w' base g ls c := L21.own_ext h hx
theorem LP.wt {w w' : World} {base g c : Nat} {ls : List (Option Nat)} (h : LP w base g ls c) (hx : WT w w') : LP w' base g ls c := by
  refine ⟨h.1, ?_⟩
  rcases h.2 with ⟨h2, -⟩ | ⟨g2, cap, cur, hv, h3, h4, r⟩
  · cases h2
  · exact .inr ⟨g2, cap, cur, hv, h3, hx.kept _ _ _ _ h4 (by decide) (by decide) (by decide) (by decide), r⟩
/-- a row of one type, whatever cells -/
theorem rd_wt {w w' : World} {base e n k : Nat} {v : Value} {zs : List Value} (h : w.ownsRow base e n v k zs) (hx : WT w w') (h1 : e ≠ 70) (h2 : e ≠ 1) (h3 : e ≠ 95) (h4 : e ≠ 98) : w'.ownsRow base e n v k zs := by
  refine ⟨h.1, ?_⟩
  rcases h.2 with h5 | ⟨g2, cap, cur, hv, h6, h7, r⟩
  · exact .inl h5
  · exact .inr ⟨g2, cap, cur, hv, h6, hx.kept _ _ _ _ h7 h1 h2 h3 h4, r⟩
/-- labels that are new are opened -/
theorem SW.labels {w0 W W' : World} {B : Nat} {O N : Nat → Prop} {ss : List SS} (h : SW w0 B O ss W) (hx : Ext W W') (hN : ∀ b, N b → W.heap.size ≤ b ∧ ∃ u, Boxed W' b 98 u) : SW w0 B (fun b => O b ∨ N b) ss W' := by
  have h2 := h.ext hx
  obtain ⟨v, v2, js, hs, hj⟩ := h.ex
  refine ⟨⟨v, v2, js, hs.kept hx, ?_⟩, fun b hb => ?_⟩
  · have := JS.to (W' := W') (O' := fun b => O b ∨ N b) (f := fun t => t) (fun _ => rfl) (fun t x ht => by
      cases t with
      | pl n => exact ⟨fun ho => by
          rcases ho with ho | ho
          · exact ht.1 ho
          · have := ht.2.lt; have := (hN x ho).1; omega, hkb (WK.ext (X := fun _ => False) hx) ht.2 (fun h => h.elim)⟩
      | lb y => exact ⟨ht.1, .inl ht.2⟩) hj
    rwa [SS.map_id] at this
  · rcases hb with hb | hb
    · exact h2.op b hb
    · obtain ⟨h3, h4⟩ := hN b hb
      exact ⟨Nat.le_trans hs.ext.size h3, h4⟩
theorem SW.olt {w0 W : World} {B b : Nat} {O : Nat → Prop} {ss : List SS} (h : SW w0 B O ss W) (hb : O b) : b < W.heap.size := by
  obtain ⟨-, u, hu⟩ := h.op b hb
  exact hu.lt
end L25M
end Go.Proofs.Ytkmhfjnjfghnjaa

/- Layer 25, plain: rows whose labels are being given places. -/
namespace Go.Proofs.Ytkmhfjnjfghnjaa
open Go.RowKit V
namespace L25M
open L25W
open L21 (Test Rule Filter)
open L24 (may)
def fK (t : List Nd) (pl : Nat → Nat) (p0 k i : Nat) : Tg := match t[i]? with
  | some n => if n.leaf = false ∧ i < k then .pl (p0 + rank t i) else .lb (pl i)
  | none => .lb (pl i)
def rowK (t : List Nd) (pl : Nat → Nat) (p0 k : Nat) : List SS := (if root t = true then [iJ 5 0 (.lb (pl 0)) (.pl 0)] else []) ++ jmps (fK t pl p0 k) (t.take k)
theorem rowK_len (t : List Nd) (pl : Nat → Nat) (p0 k : Nat) : (rowK t pl p0 k).length = rank t k := by
  unfold rowK rank jmps
  rw [List.length_append, List.length_map]
  split <;> rfl
theorem jmps_congr {F G : Nat → Tg} {t r : List Nd} (hm : may t = true) (hs : ∀ n ∈ r, n ∈ t) (h : ∀ x, x < t.length → F x = G x) : jmps F r = jmps G r := by
  unfold jmps
  refine List.map_congr_left fun n hn => ?_
  obtain ⟨h1, h2⟩ := List.mem_filter.1 hn
  obtain ⟨j, hj, rfl⟩ := List.mem_iff_getElem.1 (hs n h1)
  have hl : t[j].leaf = false := by unfold inner at h2; simpa using h2
  obtain ⟨m1, m2, m3, m4⟩ := L24.may_get hm hj hl
  rw [h _ (by omega), h _ (by omega)]
theorem jmps_mp (f : Tg → Tg) (F : Nat → Tg) (r : List Nd) : (jmps F r).map (SS.mp f) = jmps (fun x => f (F x)) r := by
  unfold jmps
  rw [List.map_map]
  rfl
theorem fK_leaf {t : List Nd} {pl : Nat → Nat} {p0 k i : Nat} (h : i < t.length) (hl : t[i].leaf = true) : fK t pl p0 k i = .lb (pl i) := by
  unfold fK; rw [List.getElem?_eq_getElem h]; dsimp only; rw [if_neg (by rw [hl]; simp)]
theorem fK_in {t : List Nd} {pl : Nat → Nat} {p0 k i : Nat} (h : i < t.length) (hl : t[i].leaf = false) (hk : i < k) : fK t pl p0 k i = .pl (p0 + rank t i) := by
  unfold fK; rw [List.getElem?_eq_getElem h]; dsimp only; rw [if_pos ⟨hl, hk⟩]
theorem fK_out {t : List Nd} {pl : Nat → Nat} {p0 k i : Nat} (hk : k ≤ i) : fK t pl p0 k i = .lb (pl i) := by
  unfold fK
  cases t[i]? with
  | none => rfl
  | some n => dsimp only; rw [if_neg (by omega)]
theorem rowK_here {t : List Nd} {pl : Nat → Nat} {p0 k : Nat} (hm : may t = true) (hk : k < t.length) (hl : t[k].leaf = false) (hne : ∀ i (h : i < t.length), (t[i].leaf = true ∨ k < i) → pl i ≠ pl k) :
    (rowK t pl p0 k).map (SS.mp (Tg.res (pl k) (p0 + rank t k))) ++ [iJ 53 t[k].at_ (.lb (pl t[k].more.toNat)) (.lb (pl t[k].less.toNat))] = rowK t pl p0 (k + 1) := by
  have hp : 0 < t.length := by omega
  unfold rowK
  rw [List.map_append, jmps_mp, jmps_snoc _ _ _ hk, hl, if_neg (show ¬ (false = true) by decide)]
  have hF : ∀ x, x < t.length → Tg.res (pl k) (p0 + rank t k) (fK t pl p0 k x) = fK t pl p0 (k + 1) x := fun x hx => by
    cases hlx : t[x].leaf
    · rcases Nat.lt_trichotomy x k with h | h | h
      · rw [fK_in hx hlx h, fK_in hx hlx (by omega)]; rfl
      · subst h
        rw [fK_out (Nat.le_refl _), fK_in hx hlx (by omega), res_eq]
      · rw [fK_out (by omega), fK_out (by omega), res_ne (hne x hx (.inr h))]
    · rw [fK_leaf hx hlx, fK_leaf hx hlx, res_ne (hne x hx (.inl hlx))]
  rw [jmps_congr (F := fun x => Tg.res (pl k) (p0 + rank t k) (fK t pl p0 k x)) (G := fK t pl p0 (k + 1)) hm (fun n hn => List.mem_of_mem_take hn) hF]
  obtain ⟨m1, m2, m3, m4⟩ := L24.may_get hm hk hl
  rw [fK_out (by omega : k + 1 ≤ t[k].more.toNat), fK_out (by omega : k + 1 ≤ t[k].less.toNat)]
  by_cases hr : root t = true
  · rw [if_pos hr]
    have h0 : t[0].leaf = true := by rw [← root_eq hp]; exact hr
    simp only [List.map_cons, List.map_nil, SS.mp, Option.map_some, res_ne (hne 0 hp (.inl h0)), res_pl, List.append_assoc]
  · rw [if_neg hr]
    simp only [List.map_nil, List.nil_append]
theorem rowK_leaf {t : List Nd} {pl : Nat → Nat} {p0 k : Nat} (hm : may t = true) (hk : k < t.length) (hl : t[k].leaf = true) : rowK t pl p0 (k + 1) = rowK t pl p0 k := by
  unfold rowK
  rw [jmps_snoc _ _ _ hk, hl, if_pos rfl, List.append_nil]
  rw [jmps_congr (F := fK t pl p0 (k + 1)) (G := fK t pl p0 k) hm (fun n hn => List.mem_of_mem_take hn) (fun x hx => by
    cases hlx : t[x].leaf
    · rcases Nat.lt_trichotomy x k with h | h | h
      · rw [fK_in hx hlx h, fK_in hx hlx (by omega)]
      · subst h
        rw [hl] at hlx; cases hlx
      · rw [fK_out (by omega), fK_out (by omega)]
    · rw [fK_leaf hx hlx, fK_leaf hx hlx])]
/-- the targets of a branch, by the ways' -/
def gT (t : List Nd) (p0 : Nat) (g : Nat → Tg) (i : Nat) : Tg := match t[i]? with
  | some n => if n.leaf = true then g n.way.toNat else .pl (p0 + rank t i)
  | none => .pl 0
theorem gT_leaf {t : List Nd} {p0 : Nat} {g : Nat → Tg} {i : Nat} (h : i < t.length) (hl : t[i].leaf = true) : gT t p0 g i = g t[i].way.toNat := by
  unfold gT; rw [List.getElem?_eq_getElem h]; dsimp only; rw [if_pos hl]
theorem gT_in {t : List Nd} {p0 : Nat} {g : Nat → Tg} {i : Nat} (h : i < t.length) (hl : t[i].leaf = false) : gT t p0 g i = .pl (p0 + rank t i) := by
  unfold gT; rw [List.getElem?_eq_getElem h]; dsimp only; rw [if_neg (by rw [hl]; decide)]
theorem branchS_congr {F G : Nat → Tg} {t : List Nd} (hm : may t = true) (h : ∀ x, x < t.length → F x = G x) : branchS F t = branchS G t := by
  unfold branchS
  rw [jmps_congr hm (fun n hn => hn) h, h 0 (L24.may_pos hm)]
theorem branchS_mp (f : Tg → Tg) (hf : f (.pl 0) = .pl 0) (F : Nat → Tg) (t : List Nd) : (branchS F t).map (SS.mp f) = branchS (fun x => f (F x)) t := by
  unfold branchS
  rw [List.map_append, jmps_mp]
  split
  · simp only [List.map_cons, List.map_nil, SS.mp, Option.map_some, hf]
  · rfl
theorem rowK_end {t : List Nd} {pl : Nat → Nat} {p0 : Nat} {g : Nat → Nat} (hm : may t = true) (h : ∀ i (h : i < t.length), t[i].leaf = true → pl i = g t[i].way.toNat) : rowK t pl p0 t.length = branchS (gT t p0 fun k => .lb (g k)) t := by
  have hp := L24.may_pos hm
  unfold rowK branchS
  rw [List.take_length]
  have hF : ∀ x, x < t.length → fK t pl p0 t.length x = gT t p0 (fun k => .lb (g k)) x := fun x hx => by
    cases hl : t[x].leaf
    · rw [fK_in hx hl hx, gT_in hx hl]
    · rw [fK_leaf hx hl, gT_leaf hx hl, h x hx hl]
  rw [jmps_congr hm (fun n hn => hn) hF]
  by_cases hr : root t = true
  · rw [if_pos hr, if_pos hr]
    have h0 : t[0].leaf = true := by rw [← root_eq hp]; exact hr
    rw [gT_leaf hp h0, h 0 hp h0]
  · rw [if_neg hr, if_neg hr]
theorem branch_res {t : List Nd} {p0 b p : Nat} {g g' : Nat → Tg} (hm : may t = true) (h : ∀ i (h : i < t.length), t[i].leaf = true → Tg.res b p (g t[i].way.toNat) = g' t[i].way.toNat) : (branchS (gT t p0 g) t).map (SS.mp (Tg.res b p)) = branchS (gT t p0 g') t := by
  rw [branchS_mp _ rfl]
  refine branchS_congr hm fun x hx => ?_
  cases hl : t[x].leaf
  · rw [gT_in hx hl, gT_in hx hl]; rfl
  · rw [gT_leaf hx hl, gT_leaf hx hl]; exact h x hx hl
theorem ownS_res {b p nt : Nat} (a : Int) (h : nt ≠ b) : (ownS (.lb nt) a).map (SS.mp (Tg.res b p)) = ownS (.lb nt) a := by
  unfold ownS
  rw [List.map_append]
  split
  · simp only [List.map_cons, List.map_nil, SS.mp, Option.map_some, Option.map_none, res_ne h, res_pl]
  · split <;> simp only [List.map_cons, List.map_nil, SS.mp, Option.map_some, Option.map_none, res_ne h, res_pl]
theorem ownS_end (nt p : Nat) (a : Int) : (ownS (.lb nt) a).map (SS.mp (Tg.res nt p)) = ownS (.pl p) a := by
  unfold ownS
  rw [List.map_append]
  split
  · simp only [List.map_cons, List.map_nil, SS.mp, Option.map_some, Option.map_none, res_eq, res_pl]
  · split <;> simp only [List.map_cons, List.map_nil, SS.mp, Option.map_some, Option.map_none, res_eq, res_pl]
theorem half_res (b q p at_ m v e : Nat) : (halfS p at_ m v (.pl e)).map (SS.mp (Tg.res b q)) = halfS p at_ m v (.pl e) := by
  unfold halfS
  split
  · rfl
  · split <;> rfl
theorem rule_res (b q : Nat) : ∀ (ts : List Test) (x p : Nat), (ruleS p ts x).map (SS.mp (Tg.res b q)) = ruleS p ts x
  | [], _, _ => rfl
  | t :: r, x, p => by
    unfold ruleS testS
    rw [List.map_append, List.map_append, List.map_append, half_res, half_res]
    split
    · rfl
    · rw [rule_res b q r]; rfl
theorem rules_res (b q : Nat) : ∀ (rs : List Rule) (p : Nat), (rulesS p rs).map (SS.mp (Tg.res b q)) = rulesS p rs
  | [], _ => rfl
  | r :: l, p => by
    unfold rulesS
    rw [List.map_append, rule_res, rules_res b q l]
end L25M
end Go.Proofs.Ytkmhfjnjfghnjaa

/- Layer 25: the walk of branch. -/
namespace Go.Proofs.Ytkmhfjnjfghnjaa
open Go.RowKit V
namespace L25M
open L25W
open L24 (may encN encN_len OwnN rdN_cell)
/-- the first loop of branch: each node is given a label -/
structure P1 (W wr : World) (base P c : Nat) (t : List Nd) (labs : List Nat) (k : Nat) (ls : List (Option Nat)) (pl : Nat → Nat) : Prop where
  ext : Ext W wr
  len : ls.length = t.length
  row : LP wr base P ls c
  get : ∀ i, i < k → ls[i]? = some (some (pl i))
  leaf : ∀ i (h : i < t.length), i < k → t[i].leaf = true → pl i = labs.getD t[i].way.toNat 0
  inn : ∀ i (h : i < t.length), i < k → t[i].leaf = false → W.heap.size ≤ pl i ∧ ∃ u, Boxed wr (pl i) 98 u
  ris : ∀ i j (hi : i < t.length) (hj : j < t.length), i < j → j < k → t[i].leaf = false → t[j].leaf = false → pl i < pl j
theorem P1.to {W wr wr' : World} {base P c k : Nat} {t : List Nd} {labs : List Nat} {ls : List (Option Nat)} {pl : Nat → Nat} (h : P1 W wr base P c t labs k ls pl) (hx : Ext wr wr') : P1 W wr' base P c t labs k ls pl :=
  ⟨h.ext.trans hx, h.len, h.row.ext hx, h.get, h.leaf, fun i hi hk hl => by
    obtain ⟨h1, u, h2⟩ := h.inn i hi hk hl
    exact ⟨h1, u, (hx.block h2.lt).trans h2⟩, h.ris⟩
theorem P1.boxed {W wr : World} {base P c k b x : Nat} {t : List Nd} {labs : List Nat} {ls : List (Option Nat)} {pl : Nat → Nat} {u v : Value} (h : P1 W wr base P c t labs k ls pl) (hb : Boxed wr b 98 u) : Boxed (wr.setCell ⟨P, x, none⟩ v) b 98 u := by
  obtain ⟨cur, hc⟩ := h.row.typed
  refine (Below.heap_setCell _ _ _ b (fun e => ?_)).trans hb
  have e : b = P := e
  subst e
  have e2 := Option.some.inj (hc.symm.trans hb)
  simp only [Obj.cells.injEq] at e2
  exact absurd e2.2.1 (by decide)
theorem P1.pre {W wr : World} {base P c k : Nat} {t : List Nd} {labs : List Nat} {ls : List (Option Nat)} {pl : Nat → Nat} (h : P1 W wr base P c t labs k ls pl) (hP : W.heap.size ≤ P) (hk : k < t.length) (b : Nat) : P1 W (wr.setCell ⟨P, k, none⟩ (pv b)) base P c t labs k (ls.set k (some b)) pl :=
  ⟨h.ext.setCell hP _, by rw [List.length_set]; exact h.len, h.row.set_ k b (by rw [h.len]; exact hk), fun i hi => by rw [List.getElem?_set_ne (by omega)]; exact h.get i hi, h.leaf, fun i hi hk' hl => by
    obtain ⟨h1, u, h2⟩ := h.inn i hi hk' hl
    exact ⟨h1, u, h.boxed h2⟩, h.ris⟩
theorem P1.step {W wr : World} {base P c k : Nat} {t : List Nd} {labs : List Nat} {ls : List (Option Nat)} {pl : Nat → Nat} (h : P1 W wr base P c t labs k ls pl) (hP : W.heap.size ≤ P) (hk : k < t.length) (b : Nat)
    (h1 : t[k].leaf = true → b = labs.getD t[k].way.toNat 0) (h2 : t[k].leaf = false → W.heap.size ≤ b ∧ (∃ u, Boxed wr b 98 u) ∧ ∀ i (hi : i < t.length), i < k → t[i].leaf = false → pl i < b) :
    P1 W (wr.setCell ⟨P, k, none⟩ (pv b)) base P c t labs (k + 1) (ls.set k (some b)) (fun i => if i = k then b else pl i) :=
  ⟨h.ext.setCell hP _, by rw [List.length_set]; exact h.len, h.row.set_ k b (by rw [h.len]; exact hk), fun i hi => by
    try dsimp only
    by_cases e : i = k
    · subst e; rw [if_pos rfl, List.getElem?_set_self (by rw [h.len]; exact hk)]
    · rw [if_neg e, List.getElem?_set_ne (by omega)]; exact h.get i (by omega), fun i hi hik hl => by
    try dsimp only
    by_cases e : i = k
    · subst e; rw [if_pos rfl]; exact h1 hl
    · rw [if_neg e]; exact h.leaf i hi (by omega) hl, fun i hi hik hl => by
    try dsimp only
    by_cases e : i = k
    · subst e; rw [if_pos rfl]; obtain ⟨m1, ⟨u, m2⟩, -⟩ := h2 hl; exact ⟨m1, u, h.boxed m2⟩
    · rw [if_neg e]; obtain ⟨m1, u, m2⟩ := h.inn i hi (by omega) hl; exact ⟨m1, u, h.boxed m2⟩, fun i j hi hj hij hjk hl hl' => by
    try dsimp only
    rw [if_neg (show i ≠ k by omega)]
    by_cases e : j = k
    · subst e; rw [if_pos rfl]; exact (h2 hl').2.2 i hi (by omega) hl
    · rw [if_neg e]; exact h.ris i j hi hj hij (by omega) hl hl'⟩
theorem P1.rise {W wr : World} {base P c k : Nat} {t : List Nd} {labs : List Nat} {ls : List (Option Nat)} {pl : Nat → Nat} (h : P1 W wr base P c t labs k ls pl) (i : Nat) (hi : i < t.length) (hk : i < k) (hl : t[i].leaf = false) : pl i < wr.heap.size := by
  obtain ⟨-, u, h2⟩ := h.inn i hi hk hl
  exact h2.lt
/-- the labels of the nodes from the k-th on that tell apart -/
def NK (t : List Nd) (pl : Nat → Nat) (k b : Nat) : Prop := ∃ i, ∃ hi : i < t.length, k ≤ i ∧ t[i].leaf = false ∧ b = pl i
theorem nk_leaf {t : List Nd} {pl : Nat → Nat} {k b : Nat} (hk : k < t.length) (hl : t[k].leaf = true) : NK t pl k b ↔ NK t pl (k + 1) b :=
  ⟨fun ⟨i, hi, h1, h2, h3⟩ => ⟨i, hi, (by
    rcases Nat.lt_or_eq_of_le h1 with h1 | h1
    · exact h1
    · subst h1; rw [hl] at h2; cases h2), h2, h3⟩, fun ⟨i, hi, h1, h2, h3⟩ => ⟨i, hi, by omega, h2, h3⟩⟩
theorem nk_in {t : List Nd} {pl : Nat → Nat} {k b : Nat} {O : Nat → Prop} (hO : ¬ O (pl k)) (hne : ∀ i, i < t.length → k < i → pl i ≠ pl k) : ((O b ∨ NK t pl k b) ∧ b ≠ pl k) ↔ (O b ∨ NK t pl (k + 1) b) := by
  constructor
  · rintro ⟨h | ⟨i, hi, h1, h2, h3⟩, h4⟩
    · exact .inl h
    · refine .inr ⟨i, hi, ?_, h2, h3⟩
      rcases Nat.lt_or_eq_of_le h1 with h1 | h1
      · exact h1
      · subst h1; exact absurd h3 h4
  · rintro (h | ⟨i, hi, h1, h2, h3⟩)
    · exact ⟨.inl h, fun e => hO (e ▸ h)⟩
    · exact ⟨.inr ⟨i, hi, by omega, h2, h3⟩, by rw [h3]; exact hne i hi (by omega)⟩
theorem nk_end {t : List Nd} {pl : Nat → Nat} {b : Nat} : ¬ NK t pl t.length b := fun ⟨_, hi, h1, _⟩ => by omega
end L25M
end Go.Proofs.Ytkmhfjnjfghnjaa

/- Layer 25: the walk of branch. -/
namespace Go.Proofs.Ytkmhfjnjfghnjaa
open Go.RowKit V
attribute [local go_sem] Oper.semAt_some Option.isSome_some
namespace L25M
open L25W
open L24 (may encN encN_len OwnN rdN_cell)
theorem boxed_new2 (wr : World) (o : Obj) (t : Nat) (v : Value) : Boxed ((wr.alloc o).alloc (.cells #[v] t)) (wr.heap.size + 1) t v := by
  have := Boxed.new (wr.alloc o) t v
  rwa [World.size_alloc] at this
set_option maxRecDepth 100000 in
set_option maxHeartbeats 4000000 in
theorem branch_calls {w0 W : World} {B : Nat} {O : Nat → Prop} {ss : List SS} (h : SW w0 B O ss W) (hl : ss.length ≤ 90000) (t : List Nd) (hm : may t = true) (htl : t.length ≤ 5000) (vt : Value) (bt : Nat) (ht : OwnN W bt vt t)
    (labs : List Nat) (hO : ∀ b ∈ labs, O b) (bg g cg : Nat) (hg : LP W bg g (labs.map some) cg) (hw : ∀ n ∈ t, n.leaf = true → 0 ≤ n.way ∧ n.way.toNat < labs.length) :
    Calls Try.prog 75 #[pv B, vt, .slice (some ⟨g, 0, none⟩) labs.length cg] W fun e w' => e = .returned (.tuple #[]) ∧ SW w0 B O (ss ++ branchS (gT t ss.length fun k => .lb (labs.getD k 0)) t) w' ∧ WT W w' := by
  obtain ⟨a, c, rfl, hac, hcell⟩ := rdN_cell ht.rd
  have hp := L24.may_pos hm
  have hget := fun j (hj : j < t.length) hl => L24.may_get hm hj hl
  have hgc := fun j (hj : j < labs.length) => by
    have := hg.cell j (by rw [List.length_map]; exact hj)
    rw [List.getElem_map] at this
    exact this
  have hwt : ∀ j (hj : j < t.length), t[j].leaf = true → ∃ (m : Nat) (hm : m < labs.length), t[j].way = (m : Int) ∧ labs.getD t[j].way.toNat 0 = labs[m] := fun j hj hl => by
    obtain ⟨m1, m2⟩ := hw _ (List.getElem_mem hj) hl
    refine ⟨t[j].way.toNat, m2, by omega, ?_⟩
    rw [List.getD_eq_getElem?_getD, List.getElem?_eq_getElem m2]; rfl
  have hOl : ∀ b, O b → b < W.heap.size := fun b hb => SW.olt h hb
  obtain ⟨i0, hi0, hz0, hz1, hz2⟩ := info_parts infoL
  have HS := Lib.hid h
  have Hht := Lib.hid ht
  clear ht
  have Hhg := Lib.hid hg
  clear hg
  have Hhgc := Lib.hid hgc
  clear hgc
  have Hhwt := Lib.hid hwt
  clear hwt
  have HhO := Lib.hid hO
  clear hO
  have HhOl := Lib.hid hOl
  clear hOl
  have Hhcell := Lib.hid hcell
  clear hcell
  have Hhget := Lib.hid hget
  clear hget
  have Hhm := Lib.hid hm
  clear hm
  clear hw h
  go_enter Try.func75, Try.ntmps75
  go_wp2_with (first
    | (at_make; refine wpList_make_full _ rfl _ _ 107 rfl W.heap.size 96 i0 (.pointer none) 1 Try.underlying107 hi0 hz0 hz1 _ _ _ _ t.length rfl rfl (by omega) (by omega) (by rw [hz2]; omega) (by unfold maxLen; omega) (Nat.le_refl _) ?_; intro w2 hown2 hg2; have hE2 : Ext W w2 := Ext.grown (Ext.refl _) hg2 (by intro k hk; cases hk)))
  rw [made_ptr] at hown2
  have hP0 : P1 W w2 W.heap.size W.heap.size t.length t labs 0 (List.replicate t.length none) (fun _ => 0) :=
    ⟨hE2, List.length_replicate, by unfold LP; rw [List.length_replicate]; exact hown2, fun i hi => by omega, fun i _ hi => by omega, fun i _ hi => by omega, fun i j _ _ _ hj => by omega⟩
  obtain ⟨P, hPe⟩ : ∃ P, P = W.heap.size := ⟨_, rfl⟩
  rw [← hPe] at hP0
  rw [← hPe]
  have hP0' : P1 W w2 P P t.length t labs 0 (List.replicate t.length none) (fun _ => 0) := hP0
  clear hown2 hg2 hE2 hP0
  have HP0 := Lib.hid hP0'
  have hPle : W.heap.size ≤ P := by omega
  have HPe := Lib.hid hPe
  clear hP0' hPe
  go_loopw [16] (fun i wr => ∃ (k : Nat) (ls : List (Option Nat)) (pl : Nat → Nat), k ≤ t.length ∧ i = .int .i64 k ∧ P1 W wr P P t.length t labs k ls pl) (fun i _ => t.length - (intOf i).toNat)
  case atStart => exact ⟨0, _, _, by omega, rfl, HP0.out⟩
  case round =>
    obtain ⟨k, ls, pl, hk, rfl, hP1⟩ := hrel
    have HP := Lib.hid hP1
    clear hP1
    by_cases hlt : k < t.length
    · obtain ⟨b, o, rfl, n1, n2, n3, n4, n5⟩ := Hhcell.out k hlt
      replace n1 := HP.out.ext.cell n1; replace n2 := HP.out.ext.cell n2; replace n3 := HP.out.ext.cell n3; replace n4 := HP.out.ext.cell n4; replace n5 := HP.out.ext.cell n5
      have hbw := Hhwt.out k hlt
      obtain ⟨-, Plt⟩ := LP.frozen HP.out.row k
      have hstep : ∀ lf : Bool, t[k].leaf = lf → ∃ W2, W2 = (wr.alloc (.cells #[.bool lf, .int .i64 t[k].way, .int .u32 (t[k].at_ : Int), .int .i64 t[k].less, .int .i64 t[k].more] 148)).alloc (.cells #[.int .i64 0] 98) := fun _ _ => ⟨_, rfl⟩
      cases hlf : t[k].leaf
      case false =>
        obtain ⟨W2, hW2⟩ := hstep _ hlf
        rw [hlf] at n1
        have hXn : Ext wr W2 := by rw [hW2]; exact ((Ext.refl wr).alloc _).alloc _
        have hP2 := HP.out.to hXn
        obtain ⟨cf, clt⟩ := LP.frozen hP2.row k
        obtain ⟨cv, cc⟩ : ∃ v, W2.cell? ⟨P, k, none⟩ = some v := ⟨_, hP2.row.cell k (by rw [hP2.len]; exact hlt)⟩
        have hbx : Boxed W2 (wr.heap.size + 1) 98 (.int .i64 0) := by rw [hW2]; exact boxed_new2 wr _ _ _
        have q0 : (W2.setCell ⟨P, k, none⟩ (.pointer (some ⟨wr.heap.size + 1, 0, none⟩))).cell? ⟨wr.heap.size, 0, none⟩ = some (.bool false) := by
          rw [World.cell?_setCell_other _ _ _ _ (by first | (simp; done) | (simp; omega) | omega), hW2]
          exact Ext.cell ((Ext.refl _).alloc _) (blk_cell (heap_alloc_new wr _) 0)
        have hS := hP2.step hPle hlt (wr.heap.size + 1) (fun e => by rw [hlf] at e; cases e) (fun _ => ⟨by have := HP.out.ext.size; omega, ⟨_, hbx⟩, fun i hi hik hl => by have := HP.out.rise i hi hik hl; omega⟩)
        unfold pv at hS
        have HS1 := Lib.hid hS
        rw [hW2] at cf cc clt
        have HW2 := Lib.hid hW2
        clear hS hbx hW2 hP2 hXn hstep
        clear Plt
        go_upto_region 5 with fail
        rw [← HW2.out]
        go_wp2_with fail
        go_roundw
        case rel => exact ⟨k + 1, _, _, by omega, by go_num, HS1.out⟩
        case measure => simp [intOf]; omega
      case true =>
        obtain ⟨m, hml, hwy, hgd⟩ := hbw hlf
        have cg := Hhgc.out m hml
        obtain ⟨W2, hW2⟩ := hstep _ hlf
        rw [hlf] at n1
        rw [hwy] at n2 hW2
        have hXn : Ext wr W2 := by rw [hW2]; exact ((Ext.refl wr).alloc _).alloc _
        have hP2 := HP.out.to hXn
        obtain ⟨cf, clt⟩ := LP.frozen hP2.row k
        obtain ⟨cv, cc⟩ : ∃ v, W2.cell? ⟨P, k, none⟩ = some v := ⟨_, hP2.row.cell k (by rw [hP2.len]; exact hlt)⟩
        have hpre := hP2.pre hPle hlt (wr.heap.size + 1)
        have q0 : (W2.setCell ⟨P, k, none⟩ (.pointer (some ⟨wr.heap.size + 1, 0, none⟩))).cell? ⟨wr.heap.size, 0, none⟩ = some (.bool true) := by
          rw [World.cell?_setCell_other _ _ _ _ (by first | (simp; done) | (simp; omega) | omega), hW2]
          exact Ext.cell ((Ext.refl _).alloc _) (blk_cell (heap_alloc_new wr _) 0)
        have q1 : (W2.setCell ⟨P, k, none⟩ (.pointer (some ⟨wr.heap.size + 1, 0, none⟩))).cell? ⟨wr.heap.size, 1, none⟩ = some (.int .i64 (m : Int)) := by
          rw [World.cell?_setCell_other _ _ _ _ (by first | (simp; done) | (simp; omega) | omega), hW2]
          exact Ext.cell ((Ext.refl _).alloc _) (blk_cell (heap_alloc_new wr _) 1)
        unfold pv at hpre
        have qg := hpre.ext.cell cg
        have qf := (LP.frozen hpre.row k).1
        obtain ⟨cv2, cc2⟩ : ∃ v, (W2.setCell ⟨P, k, none⟩ (.pointer (some ⟨wr.heap.size + 1, 0, none⟩))).cell? ⟨P, k, none⟩ = some v := ⟨_, hpre.row.cell k (by rw [hpre.len]; exact hlt)⟩
        have hS := hpre.step hPle hlt labs[m] (fun _ => hgd.symm) (fun e => by rw [hlf] at e; cases e)
        unfold pv at hS
        have HS1 := Lib.hid hS
        rw [hW2] at cf cc clt
        have HW2 := Lib.hid hW2
        have hm0 : (0 : Int) ≤ (m : Int) ∧ (m : Int) < (labs.length : Int) := by omega
        clear hS hW2 hpre hP2 hXn hstep
        clear Plt
        go_upto_region 5 with fail
        rw [← HW2.out]
        generalize W2.setCell ⟨P, k, none⟩ (.pointer (some ⟨wr.heap.size + 1, 0, none⟩)) = W3 at *
        go_wp2_with fail
        go_roundw
        case rel => exact ⟨k + 1, _, _, by omega, by go_num, HS1.out⟩
        case measure => simp [intOf]; omega
    · obtain rfl : k = t.length := by omega
      generalize wr = Wz at *
      have hN : ∀ b, NK t pl 0 b → W.heap.size ≤ b ∧ ∃ u, Boxed Wz b 98 u := by
        rintro b ⟨i, hi, -, hlf, rfl⟩
        exact HP.out.inn i hi hi hlf
      have hS2 := SW.labels (N := fun b => NK t pl 0 b) HS.out HP.out.ext hN
      have hne : ∀ i (hi : i < t.length) k (hk : k < t.length), t[k].leaf = false → (t[i].leaf = true ∨ k < i) → pl i ≠ pl k := fun i hi k hk hlk hx e => by
        have h1 := (HP.out.inn k hk hk hlk).1
        cases hli : t[i].leaf
        · rcases hx with hx | hx
          · rw [hli] at hx; cases hx
          · have := HP.out.ris k i hk hi hx hi hlk hli; omega
        · obtain ⟨m, hml, -, hgd⟩ := Hhwt.out i hi hli
          have h2 := HP.out.leaf i hi hi hli
          rw [hgd] at h2
          have := HhOl.out _ (HhO.out _ (List.getElem_mem hml))
          omega
      have hrow : ∀ i (hi : i < t.length), Wz.cell? ⟨P, i, none⟩ = some (pv (pl i)) := fun i hi => by
        have h1 := HP.out.row.cell i (by rw [HP.out.len]; exact hi)
        have h2 := HP.out.get i hi
        rw [List.getElem?_eq_getElem (by rw [HP.out.len]; exact hi)] at h2
        rw [h1, Option.some.inj h2]; rfl
      obtain ⟨b, o, rfl, n1, -, -, -, -⟩ := Hhcell.out 0 hp
      have hcq : ∀ wq, WT Wz wq → ∀ i (hi : i < t.length), wq.cell? ⟨b, o + i * 5, none⟩ = some (.bool t[i].leaf) ∧ wq.cell? ⟨b, o + i * 5 + 1, none⟩ = some (.int .i64 t[i].way) ∧ wq.cell? ⟨b, o + i * 5 + 2, none⟩ = some (.int .u32 (t[i].at_ : Int)) ∧ wq.cell? ⟨b, o + i * 5 + 3, none⟩ = some (.int .i64 t[i].less) ∧ wq.cell? ⟨b, o + i * 5 + 4, none⟩ = some (.int .i64 t[i].more) := fun wq hw i hi => by
        have h1 : OwnN wq bt (.slice (some ⟨b, o, none⟩) t.length c) t := rd_wt (Hht.out.ext HP.out.ext) hw (by decide) (by decide) (by decide) (by decide)
        obtain ⟨a', c', e, -, h2⟩ := rdN_cell h1.rd
        simp only [Value.slice.injEq] at e
        obtain ⟨b', o', e2, h3⟩ := h2 i hi
        rw [← e.1] at e2
        obtain ⟨rfl, rfl⟩ : b = b' ∧ o = o' := by simpa using e2
        exact h3
      have hpq : ∀ wq, WT Wz wq → ∀ i (hi : i < t.length), wq.cell? ⟨P, i, none⟩ = some (.pointer (some ⟨pl i, 0, none⟩)) := fun wq hw i hi => by
        have h1 := (HP.out.row.wt hw).cell i (by rw [HP.out.len]; exact hi)
        have h2 := HP.out.get i hi
        rw [List.getElem?_eq_getElem (by rw [HP.out.len]; exact hi)] at h2
        rw [h1, Option.some.inj h2]; rfl
      rw [Nat.zero_mul, Nat.add_zero] at n1
      replace n1 := HP.out.ext.cell n1
      have r0 := hpq Wz (WT.refl Wz) 0 hp
      have hre := root_eq hp
      have hr0 : rowK t pl ss.length 0 = if root t = true then [iJ 5 0 (.lb (pl 0)) (.pl 0)] else [] := by unfold rowK jmps; simp
      have hlen := fun k => @rowK_len t pl ss.length k
      have hrk : ∀ k, k ≤ t.length → rank t k ≤ 5001 := fun k hk => by have := rank_le (t := t) hk; have := rank_len t; omega
      have hleafO : ∀ i (hi : i < t.length), t[i].leaf = true → O (pl i) := fun i hi hli => by
        obtain ⟨m, hml, -, hgd⟩ := Hhwt.out i hi hli
        rw [HP.out.leaf i hi hi hli, hgd]
        exact HhO.out _ (List.getElem_mem hml)
      have Hhcq := Lib.hid hcq
      clear hcq
      have Hhpq := Lib.hid hpq
      clear hpq
      have Hhlen := Lib.hid hlen
      clear hlen
      have Hhrk := Lib.hid hrk
      clear hrk
      have HhleafO := Lib.hid hleafO
      clear hleafO
      have Hhne := Lib.hid hne
      clear hne
      have HhS2 := Lib.hid hS2
      clear hS2
      have Hhrow := Lib.hid hrow
      clear hrow
      have HWr := Lib.hid (WT.refl Wz)
      clear hN
      cases hlf : t[0].leaf
      focus
        rw [hlf] at n1 hre
        have hr1 : rowK t pl ss.length 0 = [] := by rw [hr0, hre]; rfl
        have HS1 : Hid (SW w0 B (fun b => O b ∨ NK t pl 0 b) (ss ++ rowK t pl ss.length 0) Wz) := Lib.hid (by rw [hr1, List.append_nil]; exact HhS2.out)
        have HT1 := Lib.hid (WT.refl Wz)
        clear hr0 hr1 hre
        go_wp2_with fail
      rotate_left 1
      focus
        rw [hlf] at n1 hre
        have hr1 : rowK t pl ss.length 0 = [iJ 5 0 (.lb (pl 0)) (.pl 0)] := by rw [hr0, hre]; rfl
        have HR1 := Lib.hid hr1
        have HOp := Lib.hid (HhleafO.out 0 hp hlf)
        clear hr0 hr1 hre
        go_wp2_with fail
        refine (SW.ja_calls HhS2.out (by omega) 0 (pl 0) (.inl HOp.out)).mono ?_
        rintro e W1 ⟨rfl, hs1, ht1⟩
        have HS1 : Hid (SW w0 B (fun b => O b ∨ NK t pl 0 b) (ss ++ rowK t pl ss.length 0) W1) := Lib.hid (by rw [HR1.out]; exact hs1)
        have HT1 := Lib.hid ht1
        clear hs1 ht1
        go_wp2_with fail
      all_goals
        go_loopw [48] (fun i wr => ∃ k : Nat, k ≤ t.length ∧ i = .int .i64 k ∧ SW w0 B (fun b => O b ∨ NK t pl k b) (ss ++ rowK t pl ss.length k) wr ∧ WT Wz wr) (fun i _ => t.length - (intOf i).toNat)
        case atStart => exact ⟨0, by omega, rfl, HS1.out, HT1.out⟩
        case round =>
          obtain ⟨k, hk, rfl, hs, hwt⟩ := hrel
          have HS2 := Lib.hid hs
          have HT2 := Lib.hid hwt
          clear hs hwt HS1 HT1
          by_cases hlt : k < t.length
          · obtain ⟨n1, n2, n3, n4, n5⟩ := Hhcq.out wr HT2.out k hlt
            cases hlk : t[k].leaf
            case true =>
              rw [hlk] at n1
              have hrl := rowK_leaf (pl := pl) (p0 := ss.length) Hhm.out hlt hlk
              have hsn := (HS2.out.ext ((Ext.refl wr).alloc (.cells #[.bool true, .int .i64 t[k].way, .int .u32 (t[k].at_ : Int), .int .i64 t[k].less, .int .i64 t[k].more] 148)))
              rw [← hrl] at hsn
              have hs3 := hsn.mono (O' := fun b => O b ∨ NK t pl (k + 1) b) (fun b => or_congr Iff.rfl (nk_leaf hlt hlk))
              have HS3 := Lib.hid hs3
              have HT3 := Lib.hid (HT2.out.trans (WT.of_ext ((Ext.refl wr).alloc (.cells #[.bool true, .int .i64 t[k].way, .int .u32 (t[k].at_ : Int), .int .i64 t[k].less, .int .i64 t[k].more] 148))))
              clear hsn hs3 hrl
              go_wp2_with fail
              go_roundw
              case rel => exact ⟨k + 1, by omega, by go_num, HS3.out, HT3.out⟩
              case measure => simp [intOf]; omega
            case false =>
              rw [hlk] at n1
              obtain ⟨m1, m2, m3, m4⟩ := Hhget.out k hlt hlk
              obtain ⟨ls1, hls1, hlsl⟩ : ∃ x : Nat, t[k].less = (x : Int) ∧ t[k].less.toNat = x := ⟨t[k].less.toNat, by omega, rfl⟩
              obtain ⟨mr1, hmr1, hmrl⟩ : ∃ x : Nat, t[k].more = (x : Int) ∧ t[k].more.toNat = x := ⟨t[k].more.toNat, by omega, rfl⟩
              rw [hls1] at n4 m1 m3
              rw [hmr1] at n5 m2 m4
              have hl1 : ls1 < t.length := by omega
              have hl2 : mr1 < t.length := by omega
              have hOk : ¬ O (pl k) := fun ho => by have := HhOl.out _ ho; have := (HP.out.inn k hlt hlt hlk).1; omega
              have hrh := rowK_here (pl := pl) (p0 := ss.length) Hhm.out hlt hlk (fun i hi hx => Hhne.out i hi k hlt hlk hx)
              rw [hlsl, hmrl] at hrh
              have hNb : ∀ x, k < x → x < t.length → O (pl x) ∨ NK t pl (k + 1) (pl x) := fun x hx hxl => by
                cases hlx : t[x].leaf
                · exact .inr ⟨x, hxl, by omega, hlx, rfl⟩
                · exact .inl (HhleafO.out x hxl hlx)
              have hN1 := hNb ls1 (by omega) hl1
              have hN2 := hNb mr1 (by omega) hl2
              have hb : (fun b => O b ∨ NK t pl k b) (pl k) := .inr ⟨k, hlt, Nat.le_refl _, hlk, rfl⟩
              have hHere := SW.here_calls (HS2.out.ext ((Ext.refl wr).alloc (.cells #[.bool false, .int .i64 t[k].way, .int .u32 (t[k].at_ : Int), .int .i64 ls1, .int .i64 mr1] 148))) hb
              have hnew := heap_alloc_new wr (.cells #[.bool false, .int .i64 t[k].way, .int .u32 (t[k].at_ : Int), .int .i64 ls1, .int .i64 mr1] 148)
              have hxw := WT.of_ext ((Ext.refl wr).alloc (.cells #[.bool false, .int .i64 t[k].way, .int .u32 (t[k].at_ : Int), .int .i64 ls1, .int .i64 mr1] 148))
              have hpk := Hhpq.out _ (HT2.out.trans hxw) k hlt
              have hmv : (ss ++ rowK t pl ss.length k).map (SS.mp (Tg.res (pl k) (ss ++ rowK t pl ss.length k).length)) = ss ++ (rowK t pl ss.length k).map (SS.mp (Tg.res (pl k) (ss.length + rank t k))) := by
                rw [List.map_append, res_hd HS.out hOk, List.length_append, rowK_len]
              have hnk := fun b => nk_in (t := t) (pl := pl) (k := k) (b := b) hOk (fun i hi hx => Hhne.out i hi k hlt hlk (.inr hx))
              have hlr : (ss ++ (rowK t pl ss.length k).map (SS.mp (Tg.res (pl k) (ss.length + rank t k)))).length ≤ 96000 := by
                rw [List.length_append, List.length_map, rowK_len]
                have := Hhrk.out k (by omega)
                omega
              have HhHere := Lib.hid hHere
              clear hHere
              have Hhnew := Lib.hid hnew
              clear hnew
              have Hhmv := Lib.hid hmv
              clear hmv
              have Hhnk := Lib.hid hnk
              clear hnk
              have Hhlr := Lib.hid hlr
              clear hlr
              have Hhxw := Lib.hid hxw
              clear hxw
              have Hhrh := Lib.hid hrh
              clear hrh
              have HhN1 := Lib.hid hN1
              clear hN1
              have HhN2 := Lib.hid hN2
              clear hN2
              clear hNb hb
              go_wp2_with fail
              refine HhHere.out.mono ?_
              rintro e w2 ⟨rfl, hs2, ht2⟩
              have hs2' := hs2.mono Hhnk.out
              rw [Hhmv.out] at hs2'
              have HS3 := Lib.hid hs2'
              have HT3 := Lib.hid (HT2.out.trans (Hhxw.out.trans ht2))
              have hbk := ht2.kept _ _ _ _ Hhnew.out (by decide) (by decide) (by decide) (by decide)
              have q2 : w2.cell? ⟨wr.heap.size, 2, none⟩ = some (.int .u32 (t[k].at_ : Int)) := blk_cell hbk 2
              have q3 : w2.cell? ⟨wr.heap.size, 3, none⟩ = some (.int .i64 (ls1 : Int)) := blk_cell hbk 3
              have q4 : w2.cell? ⟨wr.heap.size, 4, none⟩ = some (.int .i64 (mr1 : Int)) := blk_cell hbk 4
              have p1 := Hhpq.out _ HT3.out ls1 hl1
              have p2 := Hhpq.out _ HT3.out mr1 hl2
              clear hs2 hs2' ht2 hbk
              go_wp2_with fail
              go_still_tail 13, (by kernel_rfl)
              change wpList _ _ _ _ _ w2.drew
              have HS4 := Lib.hid (HS3.out.ext ((Ext.refl w2).drew))
              have HT4 := Lib.hid (HT3.out.trans (WT.of_ext ((Ext.refl w2).drew)))
              replace q2 := ((Ext.refl w2).drew).cell q2
              replace q3 := ((Ext.refl w2).drew).cell q3
              replace q4 := ((Ext.refl w2).drew).cell q4
              replace p1 := ((Ext.refl w2).drew).cell p1
              replace p2 := ((Ext.refl w2).drew).cell p2
              generalize w2.drew = w4 at *
              go_wp2_with fail
              refine (SW.jump_calls HS4.out (by have := Hhlr.out; omega) 53 t[k].at_ (pl mr1) (pl ls1) HhN2.out HhN1.out).mono ?_
              rintro e w5 ⟨rfl, hs5, ht5⟩
              have hs5' := hs5
              rw [List.append_assoc, Hhrh.out] at hs5'
              have HS5 := Lib.hid hs5'
              have HT5 := Lib.hid (HT4.out.trans ht5)
              clear hs5 hs5' ht5
              go_wp2_with fail
              go_roundw
              case rel => exact ⟨k + 1, by omega, by go_num, HS5.out, HT5.out⟩
              case measure => simp [intOf]; omega
          · obtain rfl : k = t.length := by omega
            have hfin := HS2.out.mono (O' := O) (fun b => ⟨fun h => h.elim id (fun h => absurd h nk_end), .inl⟩)
            rw [rowK_end (g := fun k => labs.getD k 0) Hhm.out (fun i hi hli => HP.out.leaf i hi hi hli)] at hfin
            have HF := Lib.hid hfin
            have HTF := Lib.hid ((WT.of_ext HP.out.ext).trans HT2.out)
            clear hfin
            go_wp2_with fail
            first | go_end0 | refine bodyPost_ret (results_none rfl _ _ _) rfl ?_
            exact ⟨rfl, HF.out, HTF.out⟩
end L25M
end Go.Proofs.Ytkmhfjnjfghnjaa

/- Layer 25: rows of one cell an element; the first loop of Emit. -/
namespace Go.Proofs.Ytkmhfjnjfghnjaa
open Go.RowKit V
namespace L25M
open L25W
open L21 (Test Rule Filter)
open L23 (encU encI)
theorem encU_len (n : Nat) : (encU n).length = 1 := rfl
theorem encI_len (n : Int) : (encI n).length = 1 := rfl
theorem infoUr : (Try.prog.info? 23).map (fun i => (i.zero, i.size, i.bytes)) = some (some (.int .u32 0), 1, 4) := by kernel_rfl
theorem infoIr : (Try.prog.info? 3).map (fun i => (i.zero, i.size, i.bytes)) = some (some (.int .i64 0), 1, 8) := by kernel_rfl
theorem made_one {α : Type} (z : Value) (hz : z.cells = #[z]) (enc : α → List Value) (x : α) (he : enc x = [z]) (n : Nat) : (madeCells z.cells (n * 1)).toList = (List.replicate n x).flatMap enc := by
  rw [Nat.mul_one]
  apply List.ext_getElem?
  intro i
  rw [show ((List.replicate n x).flatMap enc) = List.replicate n z by
    induction n with
    | zero => rfl
    | succ n ih => rw [List.replicate_succ, List.flatMap_cons, ih, he]; rfl]
  rw [hz]
  unfold madeCells
  by_cases h : i < n
  · simp [h, Nat.mod_one]
  · simp [h]
/-- a row of the call's own, one cell an element, in a block -/
def R1 {α : Type} (w : World) (base e g : Nat) (enc : α → List Value) (xs : List α) (c : Nat) : Prop := w.ownsRow base e 1 (.slice (some ⟨g, 0, none⟩) xs.length c) xs.length (xs.flatMap enc)
theorem R1.cell {α : Type} {w : World} {base e g c : Nat} {enc : α → List Value} {xs : List α} (h : R1 w base e g enc xs c) (he : ∀ x, (enc x).length = 1) (j : Nat) (hj : j < xs.length) : ∃ u, w.cell? ⟨g, j, none⟩ = some u := by
  obtain ⟨a, c', h1, h2, h3, h4⟩ := rd_of_own (n := 1) he h
  simp only [Value.slice.injEq] at h1
  obtain ⟨b, o, e2, k⟩ := h4 j hj
  rw [← h1.1] at e2
  obtain ⟨rfl, rfl⟩ : g = b ∧ 0 = o := by simpa using e2
  have := k 0 (by rw [he]; omega)
  rw [Nat.mul_one, Nat.zero_add] at this
  exact ⟨_, this⟩
theorem R1.frozen {α : Type} {w : World} {base e g c : Nat} {enc : α → List Value} {xs : List α} (h : R1 w base e g enc xs c) (j : Nat) : w.frozen? ⟨g, j, none⟩ = false ∧ g < w.heap.size := by
  obtain ⟨cur, hc⟩ := L21.own_typed h g rfl
  exact ⟨by simp [World.frozen?, hc], (Array.getElem?_eq_some_iff.1 hc).1⟩
theorem R1.set_ {α : Type} {w : World} {base e g c : Nat} {enc : α → List Value} {xs : List α} (h : R1 w base e g enc xs c) (he : ∀ x, (enc x).length = 1) (j : Nat) (y : α) (u : Value) (hu : enc y = [u]) (hj : j < xs.length) : R1 (w.setCell ⟨g, j, none⟩ u) base e g enc (xs.set j y) c := by
  have hst := own_store (e := e) he h j 0 u y hj (by decide) (by
    have h2 := he xs[j]
    rw [hu]
    match hx : enc xs[j] with
    | [a] => rfl
    | [] => rw [hx] at h2; cases h2
    | a :: b :: l => rw [hx] at h2; simp at h2)
  rw [Nat.mul_one, Nat.add_zero] at hst
  unfold R1
  rw [List.length_set]
  exact hst.1
theorem R1.far {α : Type} {w : World} {base e g c g' : Nat} {enc : α → List Value} {xs : List α} (h : R1 w base e g enc xs c) (hg : g' ≠ g) (j : Nat) (u : Value) : R1 (w.setCell ⟨g', j, none⟩ u) base e g enc xs c := ownsRow_setCell_other (a := ⟨g', j, none⟩) h (fun e => hg (by simpa [Value.ownBlock] using e.symm)) u
theorem R1.ext {α : Type} {w w' : World} {base e g c : Nat} {enc : α → List Value} {xs : List α} (h : R1 w base e g enc xs c) (hx : Ext w w') : R1 w' base e g enc xs c := L21.own_ext h hx
def fl {α : Type} (xs : List α) (z : α) (k : Nat) : List α := xs.take k ++ List.replicate (xs.length - k) z
theorem fl_len {α : Type} (xs : List α) (z : α) {k : Nat} (h : k ≤ xs.length) : (fl xs z k).length = xs.length := by unfold fl; simp; omega
theorem fl_zero {α : Type} (xs : List α) (z : α) : fl xs z 0 = List.replicate xs.length z := rfl
theorem fl_end {α : Type} (xs : List α) (z : α) : fl xs z xs.length = xs := by unfold fl; simp
theorem fl_set {α : Type} (xs : List α) (z : α) {k : Nat} (h : k < xs.length) : (fl xs z k).set k xs[k] = fl xs z (k + 1) := by
  unfold fl
  have e : (xs.take k).length = k := by simp; omega
  rw [List.set_append_right _ _ (by omega), e, Nat.sub_self, show xs.length - k = (xs.length - (k + 1)) + 1 by omega, List.replicate_succ, List.set_cons_zero, List.take_succ_eq_append_getElem h, List.append_assoc]
  rfl
/-- the labels of the ways -/
structure LL (W4 wr : World) (labs : List Nat) : Prop where
  nd : labs.Nodup
  each : ∀ b ∈ labs, W4.heap.size ≤ b ∧ ∃ u, Boxed wr b 98 u
theorem LL.ext {W4 wr wr' : World} {labs : List Nat} (h : LL W4 wr labs) (hx : Ext wr wr') : LL W4 wr' labs := ⟨h.nd, fun b hb => by
  obtain ⟨h1, u, h2⟩ := h.each b hb
  exact ⟨h1, u, (hx.block h2.lt).trans h2⟩⟩
theorem LL.keep {W4 wr wr' : World} {labs : List Nat} (h : LL W4 wr labs) (hk : ∀ b u, Boxed wr b 98 u → Boxed wr' b 98 u) : LL W4 wr' labs := ⟨h.nd, fun b hb => by
  obtain ⟨h1, u, h2⟩ := h.each b hb
  exact ⟨h1, u, hk b u h2⟩⟩
theorem LL.add {W4 wr wr' : World} {labs : List Nat} {b : Nat} {u : Value} (h : LL W4 wr labs) (hx : Ext wr wr') (h1 : W4.heap.size ≤ b) (h2 : wr.heap.size ≤ b) (h3 : Boxed wr' b 98 u) : LL W4 wr' (labs ++ [b]) :=
  ⟨List.nodup_append.2 ⟨h.nd, by simp, fun x hx' y hy e => by
    simp at hy
    obtain ⟨-, v, h5⟩ := h.each x hx'
    have := h5.lt
    omega⟩, fun x hx' => by
    rcases List.mem_append.1 hx' with hx' | hx'
    · exact (h.ext hx).each x hx'
    · simp at hx'; subst hx'; exact ⟨h1, u, h3⟩⟩
theorem boxed_far {α : Type} {w : World} {base e g c b j : Nat} {enc : α → List Value} {xs : List α} {u v : Value} (h : R1 w base e g enc xs c) (he : e ≠ 98) (hb : Boxed w b 98 u) : Boxed (w.setCell ⟨g, j, none⟩ v) b 98 u := by
  obtain ⟨cur, hc⟩ := L21.own_typed h g rfl
  refine (Below.heap_setCell _ _ _ b (fun e' => ?_)).trans hb
  have e' : b = g := e'
  subst e'
  have e2 := Option.some.inj (hc.symm.trans hb)
  simp only [Obj.cells.injEq] at e2
  exact he e2.2.1
theorem made_u (W : World) (n base : Nat) (hn : n ≤ 400) (hb : base ≤ W.heap.size) : R1 (W.alloc (.cells (madeCells #[Value.int .u32 0] n) 23)) base 23 W.heap.size encU (List.replicate n 0) n := by
  have e := made_one (Value.int .u32 0) rfl encU 0 rfl n
  rw [Nat.mul_one] at e
  have h := own_lit encU_len W (List.replicate n 0) 23 W.heap.size base rfl hb (by simp [maxLen]; omega)
  rw [← e, Array.toArray_toList, List.length_replicate] at h
  unfold R1
  rw [List.length_replicate, ← e]
  exact h
theorem made_i (W : World) (n base : Nat) (hn : n ≤ 400) (hb : base ≤ W.heap.size) : R1 (W.alloc (.cells (madeCells #[Value.int .i64 0] n) 3)) base 3 W.heap.size encI (List.replicate n 0) n := by
  have e := made_one (Value.int .i64 0) rfl encI 0 rfl n
  rw [Nat.mul_one] at e
  have h := own_lit encI_len W (List.replicate n 0) 3 W.heap.size base rfl hb (by simp [maxLen]; omega)
  rw [← e, Array.toArray_toList, List.length_replicate] at h
  unfold R1
  rw [List.length_replicate, ← e]
  exact h
/-- the row of the ways' labels -/
def RL (w : World) (base : Nat) (v : Value) (labs : List Nat) : Prop := w.ownsRow base 96 1 v (labs.map some).length ((labs.map some).flatMap encL)
theorem RL.ext {w w' : World} {base : Nat} {v : Value} {labs : List Nat} (h : RL w base v labs) (hx : Ext w w') : RL w' base v labs := L21.own_ext h hx
theorem RL.far {α : Type} {w : World} {base b' e g c j : Nat} {enc : α → List Value} {xs : List α} {v u : Value} {labs : List Nat} (h : RL w base v labs) (h1 : R1 w b' e g enc xs c) (he : e ≠ 96) : RL (w.setCell ⟨g, j, none⟩ u) base v labs := ownsRow_setCell_other (a := ⟨g, j, none⟩) h (fun e' => rows_ne h1 h he g rfl e'.symm) u
theorem RL.one (w : World) (b base : Nat) (hb : base ≤ w.heap.size) : RL (w.alloc (.cells #[.pointer (some ⟨b, 0, none⟩)] 96)) base (.slice (some ⟨w.heap.size, 0, none⟩) 1 1) [b] := own_lit encL_len w [some b] 96 w.heap.size base rfl hb (by simp [maxLen])
theorem RL.lp {w : World} {base : Nat} {v : Value} {labs : List Nat} (h : RL w base v labs) (hp : 0 < labs.length) : ∃ g c, v = .slice (some ⟨g, 0, none⟩) labs.length c ∧ LP w base g (labs.map some) c := by
  obtain ⟨g, c, rfl, -⟩ := own_parts h (by rw [List.length_map]; exact hp)
  exact ⟨g, c, by rw [List.length_map], h⟩
theorem RL.ne {w : World} {base b : Nat} {v u : Value} {labs : List Nat} (h : RL w base v labs) (hb : Boxed w b 98 u) : (some b : Option Nat) ≠ v.ownBlock := fun e => by
  obtain ⟨cur, hc⟩ := L21.own_typed h b e.symm
  have e2 := Option.some.inj (hc.symm.trans hb)
  simp only [Obj.cells.injEq] at e2
  exact absurd e2.2.1 (by decide)
theorem rows_step {w1 wr : World} {gN gW k n : Nat} {xs : List Nat} {ys : List Int} {labs : List Nat} {v : Value} (nr : Nat) (kk : Int) (bx lit : Obj)
    (hx : Ext w1 wr) (hN : R1 wr w1.heap.size 23 gN encU xs n) (hW : R1 wr w1.heap.size 3 gW encI ys n) (hne : gN ≠ gW) (h1 : w1.heap.size ≤ gN) (h2 : w1.heap.size ≤ gW) (hL : LL w1 wr labs) (hR : RL wr w1.heap.size v labs) (hk : k < xs.length) (hk2 : k < ys.length) :
    let Wb := (((((wr.setCell ⟨gN, k, none⟩ (.int .u32 (nr : Int))).setCell ⟨gW, k, none⟩ (.int .i64 kk)).alloc bx).alloc (.cells #[.int .i64 0] 98)).alloc lit)
    Ext w1 Wb ∧ R1 Wb w1.heap.size 23 gN encU (xs.set k nr) n ∧ R1 Wb w1.heap.size 3 gW encI (ys.set k kk) n ∧ LL w1 Wb (labs ++ [wr.heap.size + 1]) ∧ RL Wb w1.heap.size v labs := by
  intro Wb
  have hNa : R1 (wr.setCell ⟨gN, k, none⟩ (.int .u32 (nr : Int))) w1.heap.size 23 gN encU (xs.set k nr) n := hN.set_ encU_len k nr _ rfl hk
  have hWa : R1 (wr.setCell ⟨gN, k, none⟩ (.int .u32 (nr : Int))) w1.heap.size 3 gW encI ys n := hW.far hne k _
  have hRa : RL (wr.setCell ⟨gN, k, none⟩ (.int .u32 (nr : Int))) w1.heap.size v labs := hR.far hN (by decide)
  have hLa : LL w1 (wr.setCell ⟨gN, k, none⟩ (.int .u32 (nr : Int))) labs := hL.keep fun b u hb => boxed_far hN (by decide) hb
  have hxa : Ext w1 (wr.setCell ⟨gN, k, none⟩ (.int .u32 (nr : Int))) := hx.setCell h1 _
  have hNb := hNa.far (j := k) (fun e => hne e.symm) (.int .i64 kk)
  have hWb := hWa.set_ encI_len k kk (.int .i64 kk) rfl hk2
  have hRb := hRa.far (j := k) (u := .int .i64 kk) hWa (by decide)
  have hLb : LL w1 _ labs := hLa.keep fun b u hb => boxed_far (j := k) (v := .int .i64 kk) hWa (by decide) hb
  have hxb := hxa.setCell (p := ⟨gW, k, none⟩) h2 (.int .i64 kk)
  have hsz : ((wr.setCell ⟨gN, k, none⟩ (.int .u32 (nr : Int))).setCell ⟨gW, k, none⟩ (.int .i64 kk)).heap.size = wr.heap.size := by rw [size_set, size_set]
  have hE : Ext ((wr.setCell ⟨gN, k, none⟩ (.int .u32 (nr : Int))).setCell ⟨gW, k, none⟩ (.int .i64 kk)) Wb := (((Ext.refl _).alloc _).alloc _).alloc _
  have hnb := boxed_new2 ((wr.setCell ⟨gN, k, none⟩ (.int .u32 (nr : Int))).setCell ⟨gW, k, none⟩ (.int .i64 kk)) bx 98 (.int .i64 0)
  rw [hsz] at hnb
  have hnb2 : Boxed Wb (wr.heap.size + 1) 98 (.int .i64 0) := blk_ext hnb ((Ext.refl _).alloc lit)
  exact ⟨hxb.trans hE, hNb.ext hE, hWb.ext hE, hLb.add hE (by have := hx.size; omega) (by rw [hsz]; omega) hnb2, hRb.ext hE⟩
theorem rows_app {w1 Wb w' : World} {gN gW n : Nat} {xs : List Nat} {ys : List Int} {labs l2 : List Nat} {v : Value}
    (hx : Ext w1 Wb) (hN : R1 Wb w1.heap.size 23 gN encU xs n) (hW : R1 Wb w1.heap.size 3 gW encI ys n) (hL : LL w1 Wb l2) (hR : RL Wb w1.heap.size v labs) (hg : Wb.grownBy w' v.ownBlock) :
    Ext w1 w' ∧ R1 w' w1.heap.size 23 gN encU xs n ∧ R1 w' w1.heap.size 3 gW encI ys n ∧ LL w1 w' l2 :=
  ⟨hx.grown hg (fun k e => (hR.lt k e).1), own_other hN hg (rows_ne hN hR (by decide)), own_other hW hg (rows_ne hW hR (by decide)), hL.keep fun b u hb => (hg.block b hb.lt (hR.ne hb)).trans hb⟩
end L25M
end Go.Proofs.Ytkmhfjnjfghnjaa

/- Layer 25, plain: Emit's row as its labels are given places. -/
namespace Go.Proofs.Ytkmhfjnjfghnjaa
open Go.RowKit V
namespace L25M
open L25W
open L21 (Test Rule Filter mayF)
open L23 (Span OkS encU encI chain whole ofA)
open L24 (may buildA)
theorem chain_bound : ∀ {xs : List Span} {a m : Nat}, chain xs a = some m → a ≤ m ∧ ∀ s ∈ xs, s.lo ≤ s.hi ∧ s.hi < m
  | [], a, m, h => ⟨by simp [chain] at h; omega, fun s hs => by cases hs⟩
  | s :: r, a, m, h => by
    obtain ⟨h1, h2, h3⟩ := L23.chain_cons h
    obtain ⟨h4, h5⟩ := chain_bound h3
    refine ⟨by omega, fun x hx => ?_⟩
    rcases List.mem_cons.1 hx with rfl | hx
    · exact ⟨h2, by omega⟩
    · exact h5 x hx
theorem span_ok {f : Filter} (hm : mayF f = true) (hn : ∀ r ∈ f.rules, r.nr < 4294967296) : ∀ s ∈ spanF f, OkS s := fun s hs => by
  obtain ⟨-, h2, -, h4, -⟩ := treeF_facts hm hn
  obtain ⟨-, -, h5, -⟩ := may_rules hm
  obtain ⟨h6, h7⟩ := (chain_bound ((L23.whole_iff _).1 h2)).2 s hs
  obtain ⟨h8, h9⟩ := h4 s hs
  exact ⟨by omega, by omega, by omega, by omega⟩
theorem of_span {f : Filter} (hm : mayF f = true) (hn : ∀ r ∈ f.rules, r.nr < 4294967296) : ofA (nsF f) (wsF f) 0 = (spanF f, 0) := by
  obtain ⟨h1, -⟩ := treeF_facts hm hn
  unfold ofA
  rw [if_pos ⟨by rw [nsF_len, wsF_len], h1⟩]
  rfl
theorem build_tree {f : Filter} (hm : mayF f = true) (hn : ∀ r ∈ f.rules, r.nr < 4294967296) : buildA (spanF f) = (treeF f, 0) := by
  obtain ⟨-, h2, -⟩ := treeF_facts hm hn
  unfold buildA
  rw [if_pos h2]
  rfl
def row0 (f : Filter) (t : List Nd) (nt : Nat) (lab : Nat → Nat) : List SS := ownS (.lb nt) f.arch ++ branchS (gT t (oL f.arch) fun j => .lb (lab j)) t
def rowE (f : Filter) (t : List Nd) (nt : Nat) (lab : Nat → Nat) (k : Nat) : List SS := ownS (.lb nt) f.arch ++ (branchS (gT t (oL f.arch) fun j => if j < k + 1 then .pl (wP f t j) else .lb (lab j)) t ++ (iR f.dflt :: rulesS (dP f t + 1) (f.rules.take k)))
theorem row0_len (f : Filter) (t : List Nd) (nt : Nat) (lab : Nat → Nat) : (row0 f t nt lab).length = dP f t := by
  unfold row0 dP
  rw [List.length_append, ownS_len, branchS_len]
theorem rowE_len (f : Filter) (t : List Nd) (nt : Nat) (lab : Nat → Nat) {k : Nat} (hk : k ≤ f.rules.length) : (rowE f t nt lab k).length = wP f t (k + 1) := by
  unfold rowE wP
  rw [if_neg (by omega), Nat.add_sub_cancel, List.length_append, List.length_append, List.length_cons, ownS_len, branchS_len]
  have h2 := rpl_take (dP f t + 1) hk
  rw [← h2]
  unfold dP
  omega
/-- what is known of the labels -/
structure LabOk (f : Filter) (t : List Nd) (nt : Nat) (lab : Nat → Nat) : Prop where
  inj : ∀ i j, i ≤ f.rules.length → j ≤ f.rules.length → lab i = lab j → i = j
  nt : ∀ i, i ≤ f.rules.length → nt ≠ lab i
theorem row0_here {f : Filter} {t : List Nd} {nt : Nat} {lab : Nat → Nat} (hT : TOk f t) (h : LabOk f t nt lab) : (row0 f t nt lab).map (SS.mp (Tg.res (lab 0) (dP f t))) ++ [iR f.dflt] = rowE f t nt lab 0 := by
  unfold row0 rowE
  rw [List.map_append, ownS_res _ (h.nt 0 (by omega)), branch_res hT.may (g' := fun j => if j < 0 + 1 then .pl (wP f t j) else .lb (lab j)), List.append_assoc]
  · rfl
  · intro i hi hl
    obtain ⟨h1, h2⟩ := hT.ways i hi hl
    generalize hj : t[i].way.toNat = j
    have hjn : j ≤ f.rules.length := by omega
    show (if lab j = lab 0 then Tg.pl (dP f t) else .lb (lab j)) = _
    by_cases e : j = 0
    · subst e; rw [if_pos rfl, if_pos (by omega)]; rfl
    · rw [if_neg (fun e' => e (h.inj j 0 hjn (by omega) e')), if_neg (by omega)]
theorem rowE_here {f : Filter} {t : List Nd} {nt : Nat} {lab : Nat → Nat} (hT : TOk f t) (h : LabOk f t nt lab) {k : Nat} (hk : k < f.rules.length) :
    (rowE f t nt lab k).map (SS.mp (Tg.res (lab (k + 1)) (wP f t (k + 1)))) ++ ruleS (wP f t (k + 1)) f.rules[k].tests f.rules[k].action = rowE f t nt lab (k + 1) := by
  have hr : rulesS (dP f t + 1) (f.rules.take (k + 1)) = rulesS (dP f t + 1) (f.rules.take k) ++ ruleS (wP f t (k + 1)) f.rules[k].tests f.rules[k].action := by
    have h := rpl_app (dP f t + 1) hk
    rw [h]
    unfold wP
    rw [if_neg (by omega), Nat.add_sub_cancel]
  unfold rowE
  rw [List.map_append, List.map_append, List.map_cons, ownS_res _ (h.nt (k + 1) (by omega)), rules_res, branch_res hT.may (g' := fun j => if j < k + 1 + 1 then .pl (wP f t j) else .lb (lab j)), hr, List.append_assoc, List.append_assoc]
  · rfl
  · intro i hi hl
    obtain ⟨h1, h2⟩ := hT.ways i hi hl
    generalize hj : t[i].way.toNat = j
    have hjn : j ≤ f.rules.length := by omega
    try dsimp only
    rcases Nat.lt_trichotomy j (k + 1) with e | e | e
    · rw [if_pos e, if_pos (by omega)]; rfl
    · subst e
      rw [if_neg (by omega), if_pos (by omega), res_eq]
    · rw [if_neg (by omega), if_neg (by omega), res_ne (fun e' => by have := h.inj j (k + 1) hjn (by omega) e'; omega)]
theorem rowE_end {f : Filter} {t : List Nd} {nt : Nat} {lab : Nat → Nat} (hT : TOk f t) : (rowE f t nt lab f.rules.length).map (SS.mp (Tg.res nt (nP f t))) ++ [iR 2147418112] = emS f t := by
  unfold rowE emS
  rw [List.map_append, List.map_append, List.map_cons, ownS_end, rules_res, branch_res hT.may (g' := fun j => .pl (wP f t j)), List.take_length, List.append_assoc, List.append_assoc]
  · rw [branchS_congr (G := fun i => .pl (pN f t i)) hT.may]
    · rfl
    · intro x hx
      unfold gT pN
      rw [List.getElem?_eq_getElem hx]
      try dsimp only
      split <;> rfl
  · intro i hi hl
    obtain ⟨h1, h2⟩ := hT.ways i hi hl
    try dsimp only
    rw [if_pos (by omega)]; rfl
def OE (f : Filter) (nt : Nat) (lab : Nat → Nat) (k b : Nat) : Prop := b = nt ∨ ∃ j, k + 1 ≤ j ∧ j ≤ f.rules.length ∧ b = lab j
theorem oe_start {f : Filter} {t : List Nd} {nt : Nat} {labs : List Nat} (hl : labs.length = f.rules.length + 1) (h : LabOk f t nt fun j => labs.getD j 0) (b : Nat) : ((b = nt ∨ b ∈ labs) ∧ b ≠ labs.getD 0 0) ↔ OE f nt (fun j => labs.getD j 0) 0 b := by
  have hg : ∀ j (hj : j < labs.length), labs.getD j 0 = labs[j] := fun j hj => by rw [List.getD_eq_getElem?_getD, List.getElem?_eq_getElem hj]; rfl
  constructor
  · rintro ⟨h1 | h1, h2⟩
    · exact .inl h1
    · obtain ⟨j, hj, rfl⟩ := List.mem_iff_getElem.1 h1
      rw [← hg j hj] at h2 ⊢
      refine .inr ⟨j, ?_, by omega, rfl⟩
      rcases Nat.eq_zero_or_pos j with e | e
      · subst e; exact absurd rfl h2
      · omega
  · rintro (h1 | ⟨j, h1, h2, h3⟩)
    · exact ⟨.inl h1, fun e => h.nt 0 (by omega) (h1.symm.trans e)⟩
    · refine ⟨.inr (by rw [h3]; show labs.getD j 0 ∈ labs; rw [hg j (by omega)]; exact List.getElem_mem _), fun e => ?_⟩
      have := h.inj j 0 h2 (by omega) (h3.symm.trans e)
      omega
theorem oe_step {f : Filter} {t : List Nd} {nt : Nat} {lab : Nat → Nat} (h : LabOk f t nt lab) {k : Nat} (hk : k < f.rules.length) (b : Nat) : (OE f nt lab k b ∧ b ≠ lab (k + 1)) ↔ OE f nt lab (k + 1) b := by
  constructor
  · rintro ⟨h1 | ⟨j, h1, h2, h3⟩, h4⟩
    · exact .inl h1
    · refine .inr ⟨j, ?_, h2, h3⟩
      rcases Nat.lt_or_eq_of_le h1 with e | e
      · omega
      · subst e; exact absurd h3 h4
  · rintro (h1 | ⟨j, h1, h2, h3⟩)
    · exact ⟨.inl h1, fun e => h.nt (k + 1) (by omega) (h1.symm.trans e)⟩
    · refine ⟨.inr ⟨j, by omega, h2, h3⟩, fun e => ?_⟩
      have := h.inj j (k + 1) h2 (by omega) (h3.symm.trans e)
      omega
theorem oe_end {f : Filter} {nt : Nat} {lab : Nat → Nat} (b : Nat) : ¬ (OE f nt lab f.rules.length b ∧ b ≠ nt) := by
  rintro ⟨h1 | ⟨j, h1, h2, -⟩, h4⟩
  · exact h4 h1
  · omega
theorem labOk_of {f : Filter} {t : List Nd} {nt : Nat} {labs : List Nat} (hl : labs.length = f.rules.length + 1) (hn : labs.Nodup) (hnt : nt ∉ labs) : LabOk f t nt fun j => labs.getD j 0 := by
  have hg : ∀ j (hj : j < labs.length), labs.getD j 0 = labs[j] := fun j hj => by rw [List.getD_eq_getElem?_getD, List.getElem?_eq_getElem hj]; rfl
  refine ⟨fun i j hi hj e => ?_, fun i hi e => ?_⟩
  · try dsimp only at e
    rw [hg i (by omega), hg j (by omega)] at e
    have hp := List.pairwise_iff_getElem.1 hn
    rcases Nat.lt_trichotomy i j with h | h | h
    · exact absurd e (hp i j (by omega) (by omega) h)
    · exact h
    · exact absurd e.symm (hp j i (by omega) (by omega) h)
  · try dsimp only at e
    rw [hg i (by omega)] at e
    exact hnt (by rw [e]; exact List.getElem_mem _)
theorem rowE_bound {f : Filter} {t : List Nd} {nt : Nat} {lab : Nat → Nat} (hm : mayF f = true) (hT : TOk f t) {k : Nat} (hk : k ≤ f.rules.length) : (rowE f t nt lab k).length ≤ 93000 := by
  obtain ⟨-, -, h3, -, h5⟩ := may_rules hm
  rw [rowE_len _ _ _ _ hk]
  unfold wP
  rw [if_neg (by omega), Nat.add_sub_cancel]
  have h1 := rpl_mono (rs := f.rules) (p := dP f t + 1) (f.rules.length - k) (k := k) (by omega)
  rw [show k + (f.rules.length - k) = f.rules.length by omega] at h1
  have h2 := rpl_bound f.rules (dP f t + 1) (fun r hr => (h5 r hr).1)
  have h4 : dP f t ≤ 5 + 2001 := by
    unfold dP
    have := rank_len t
    have := hT.len
    have : oL f.arch ≤ 5 := by unfold oL; split <;> omega
    omega
  have : 225 * f.rules.length ≤ 90000 := by omega
  omega
theorem dP_le {f : Filter} {t : List Nd} (hT : TOk f t) : dP f t ≤ 6006 := by
  unfold dP
  have := rank_len t
  have := hT.len
  have : oL f.arch ≤ 5 := by unfold oL; split <;> omega
  omega
end L25M
end Go.Proofs.Ytkmhfjnjfghnjaa

