/- Layer 13: the walk of wrong. -/
import Derived.Lib.SlBytesConst
import Derived.Test.YteheegkdcphapaaLineJ
import Derived.Test.YteheegkdcphapaaUnitJ
namespace Go.Proofs.Yteheegkdcphapaa
open Go.RowKit Go.Shelf V
attribute [local go_sem] Oper.semAt_some Option.isSome_some
namespace L12
def wrongL (bs : List UInt8) : List Nat := if (parseL bs).2.all (fun x => x.2.1 == 130) = true then (parseL bs).2.map (·.1) else []
theorem infoI3 : (Try.prog.info? 3).map (fun i => (i.zero, i.size, i.bytes)) = some (some (.int .i64 0), 1, 8) := by kernel_rfl
theorem foldU_nl (bs : List UInt8) : (parseL bs).2.length ≤ 1001 := by
  have h := foldU_len (splitA bs).1 ⟨[], false, [], []⟩
  have h2 := splitA_len bs
  unfold parseL
  split
  · exact Nat.le_of_ble_eq_true rfl
  split
  · show (foldU bs).nl.length ≤ 1001
    have : foldU bs = (splitA bs).1.foldl stepU ⟨[], false, [], []⟩ := rfl
    rw [this]
    simp only [List.length_nil] at h
    omega
  · exact Nat.zero_le _
set_option maxRecDepth 100000 in
set_option maxHeartbeats 4000000 in
theorem wrong_fn_calls (s : ByteArray) (hs : s.size ≤ 1000000) (w : World) :
    Calls Try.prog 44 #[.string s] w fun e w' => ∃ v, e = .returned v ∧ Ext w w' ∧ Rd w' 1 encI3 v (wrongL (bytes s)) := by
  have hP := fun u W (h : Rd W 1 encB u (bytes s)) => Parse_calls ⟨#[102]⟩ 0 u (bytes s) (by rw [bytes_len]; exact hs) W h
  have hW : wrongL (bytes s) = if (parseL (bytes s)).2.all (fun x => x.2.1 == 130) = true then (parseL (bytes s)).2.map (·.1) else [] := rfl
  have hnl := foldU_nl (bytes s)
  rw [hW]
  clear hW
  obtain ⟨al, has⟩ : ∃ al, al = (parseL (bytes s)).1 := ⟨_, rfl⟩
  obtain ⟨ns, hns⟩ : ∃ ns, ns = (parseL (bytes s)).2 := ⟨_, rfl⟩
  rw [← hns] at hnl ⊢
  rw [← has, ← hns] at hP
  obtain ⟨R, hR⟩ : ∃ R, R = if ns.all (fun x => x.2.1 == 130) = true then ns.map (·.1) else [] := ⟨_, rfl⟩
  rw [← hR]
  have hcv := fun W => conv_str W s
  unfold fileV at hP
  have HhP := Lib.hid hP
  clear hP
  have Hhas := Lib.hid has
  clear has
  have Hhns := Lib.hid hns
  clear hns
  have HhR := Lib.hid hR
  clear hR
  go_enter Try.func44, Try.ntmps44
  go_wp2_with fail
  have hrd : Rd ((w.alloc (.cells (bytesRow s (grownCap w s.size 0 5)) 5 ((bytesRow s (grownCap w s.size 0 5)).size, (bytesRow s (grownCap w s.size 0 5)).size + 1))).drew) 1 encB (.slice (some ⟨w.heap.size, 0, none⟩) s.size (grownCap w s.size 0 5)) (bytes s) := rd_bytes w s _ (grownCap_ge _ _ _ _) _
  refine (HhP.out _ _ hrd).mono ?_
  rintro e w1 ⟨ua, un, rfl, hx, ho1, ho2⟩
  have HX1 : Hid (Ext w w1) := Lib.hid ((((Ext.refl w).alloc _).drew).trans hx)
  obtain ⟨aa, ca, rfl⟩ := own_form ho1
  obtain ⟨an, cn, rfl, hacn, hcn⟩ := rdNt_cell (rd_of_own (encNt_len _) ho2)
  have Hhcn := Lib.hid hcn
  clear hcn
  clear hrd hx ho1 ho2 hcv
  go_wp2_with fail
  go_loopw [5, 6] (fun u i wr => ∃ (k : Nat) (au : Option Addr) (cu : Nat), k ≤ ns.length ∧ i = .int .i64 k ∧ u = .slice au ((ns.take k).map (·.1)).length cu ∧ (ns.take k).all (fun x => x.2.1 == 130) = true ∧ wr.ownsRow w1.heap.size 3 1 u ((ns.take k).map (·.1)).length (((ns.take k).map (·.1)).flatMap encI3) ∧ Ext w1 wr) (fun _ i _ => ns.length - (intOf i).toNat)
  case atStart => exact ⟨0, none, 0, Nat.zero_le _, rfl, rfl, rfl, World.ownsRow_nil _ _ _ _, Ext.refl _⟩
  case round =>
    obtain ⟨k, au, cu, hk, rfl, rfl, hall, ho, hx⟩ := hrel
    have HX := Lib.hid hx
    have HO := Lib.hid ho
    have Hhall := Lib.hid hall
    clear hall
    clear ho
    by_cases hlt : k < ns.length
    · obtain ⟨b, o, rfl, d0, d1, d2, d3⟩ := Hhcn.out k hlt
      replace d0 := hx.cell d0
      replace d1 := hx.cell d1
      replace d2 := hx.cell d2
      have htk : ns.take (k + 1) = ns.take k ++ [ns[k]'hlt] := List.take_succ_eq_append_getElem hlt
      have hall2 : ns.all (fun x => x.2.1 == 130) = true → (ns[k]'hlt).2.1 = 130 := fun h => by
        have := List.all_eq_true.1 h _ (List.getElem_mem hlt)
        simpa using this
      have hwi : IntKind.i64.wrap ((k : Int) + 1) = (k : Int) + 1 := IntWalk.i64_in _ (by omega)
      clear hx
      generalize ns[k]'hlt = x at *
      obtain ⟨n, er, tx⟩ := x
      dsimp only at d0 d1 d2 hall2
      by_cases he : er = 130
      · subst he
        have hmp : (ns.take (k + 1)).map (·.1) = (ns.take k).map (·.1) ++ [n] := by rw [htk, List.map_append]; rfl
        have hal : (ns.take (k + 1)).all (fun x => x.2.1 == 130) = true := by rw [htk, List.all_append, Hhall.out]; rfl
        have hlen : ((ns.take (k + 1)).map (·.1)).length = ((ns.take k).map (·.1)).length + 1 := by rw [hmp, List.length_append]; rfl
        have hlen3 : ((ns.take k).map (·.1)).length ≤ 1001 := by rw [List.length_map, List.length_take]; omega
        have Hhtk := Lib.hid htk
        clear htk
        have Hhmp := Lib.hid hmp
        clear hmp
        have Hhal := Lib.hid hal
        clear hal
        have Hhlen := Lib.hid hlen
        clear hlen
        clear hall2
        generalize (ns.take k).map (·.1) = L at *
        have HOA := Lib.hid (World.ownsRow.alloc HO.out (.cells #[.int .i64 (n : Int)] 3))
        have HSZ : Hid (w1.heap.size ≤ (wr.alloc (.cells #[.int .i64 (n : Int)] 3)).heap.size) := Lib.hid (by have := HX.out.size; simp; omega)
        go_wp2_with (at_builtin
                     refine wpList_app_g rfl (.tmp 34) (.tmp 40) _ rfl Try.underlying78 infoI3 rfl (by decide) encI3_len encI3_one w1.heap.size _ _ L [n] rfl rfl (by exact HOA.out) (rd_lit encI3_len wr [n] _ _ rfl) (by simp; omega) (by decide) (by exact HSZ.out) ?_
                     intro au6 cu6 w6 ho6 hg6
                     have HX6 := Lib.hid ((HX.out.alloc _).grown hg6 (fun j e => (HOA.out.lt j e).1))
                     have HO6 := Lib.hid ho6
                     clear ho6 hg6)
        go_roundw
        case rel => exact ⟨k + 1, au6, cu6, by omega, by go_num, by rw [Hhlen.out], Hhal.out, by rw [Hhmp.out, List.length_append]; exact HO6.out, HX6.out⟩
        case measure => simp [intOf]; omega
      · have hne : ((er : Int) != 130) = true := by simp; omega
        have hf : R = [] := by
          rw [HhR.out, if_neg (fun h => he (hall2 h))]
        have Hhf := Lib.hid hf
        clear hf
        clear hall2
        go_wp2_with fail
        go_ret
        exact ⟨_, rfl, HX1.out.trans HX.out, by rw [Hhf.out]; exact rd_none _ _ _⟩
    · obtain rfl : k = ns.length := by omega
      have hf : R = ns.map (·.1) := by
        have := Hhall.out
        rw [List.take_length] at this
        rw [HhR.out, if_pos this]
      have ho9 := HO.out
      rw [List.take_length] at ho9 ⊢
      have Hhf := Lib.hid hf
      clear hf
      have HO9 := Lib.hid ho9
      clear ho9 hx
      go_wp2_with fail
      go_ret
      exact ⟨_, rfl, HX1.out.trans HX.out, by rw [Hhf.out]; exact rd_of_own encI3_len (by simpa using HO9.out)⟩
end L12
end Go.Proofs.Yteheegkdcphapaa
