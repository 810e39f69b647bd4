/- Layer 7: the walks of insn's by, Known, Of, Name, Code, WithX, and of asm's uses and plain. -/
import Derived.RangeFuncBox
import Derived.Test.YtbpmokffhmiacaaGreatDoorAsmC
namespace Go.Proofs.YtbpmokffhmiacaaGreatDoor
open Go.RowKit V
attribute [local go_sem] Oper.semAt_some
namespace L07
theorem box_cell (w : World) (t t2 : TypeId) (v : Value) (cs : Array Value) : ((w.alloc (.cells #[v] t)).alloc (.cells cs t2)).cell? ⟨w.heap.size, 0, none⟩ = some v := ((Boxed.new w t v).alloc _).cell
set_option maxRecDepth 100000 in
set_option maxHeartbeats 1000000 in
theorem by_calls (code : Nat) (w : World) :
    Calls Tryz.prog 57 #[.int .u16 (code : Int)] w fun r w' => r = .returned (.tuple #[enE (entry code), .bool (known code)]) ∧ Ext w w' := by
  have hF := fun Bc W h => findC_calls code Bc W h
  change ∀ Bc W, W.cell? ⟨Bc, 0, none⟩ = some (.int .u16 (code : Int)) → Calls Tryz.prog 38 #[.func (.func 72) #[] #[.pointer (some ⟨Bc, 0, none⟩)]] W fun r w' => r = .returned (.tuple #[enE (entry code), .bool (known code)]) ∧ Ext W w' at hF
  generalize entry code = e at *
  generalize known code = b at *
  obtain ⟨c, nm, cl⟩ := e
  unfold enE at *
  dsimp only at *
  generalize str nm = sn at *
  have HhF := Lib.hid hF
  clear hF
  go_enter Tryz.func57, Tryz.ntmps57
  go_wp2_with fail
  refine (HhF.out _ _ (box_cell _ _ _ _ _)).mono ?_
  rintro r w1 ⟨rfl, hx1⟩
  obtain ⟨c0, c1, c2, f0, f1, f2, -⟩ := blk3 hx1
  rw [World.size_alloc] at c0 c1 c2 f0 f1 f2
  have HX1 := Lib.hid (((Ext.refl w).alloc _ |>.alloc _).trans hx1)
  clear hx1
  go_wp2_with fail
  exact cell_end Tryz.results57 (by kernel_rfl) ⟨_, Tryz.underlying80⟩ rfl rfl rfl c0 c1 c2 HX1.out (Nat.le_succ _) (fun W' h => ⟨rfl, h⟩)
set_option maxRecDepth 100000 in
set_option maxHeartbeats 1000000 in
theorem Code_calls (s : ByteArray) (w : World) :
    Calls Tryz.prog 25 #[.string s] w fun r w' => r = .returned (.tuple #[.int .u16 (((tabI.find? (fun e => e.nm == bytes s)).getD none7).c : Int), .bool (tabI.find? (fun e => e.nm == bytes s)).isSome]) ∧ Ext w w' := by
  have hF := fun Bc W h => findN_calls s Bc W h
  generalize tabI.find? (fun e => e.nm == bytes s) = R at *
  generalize hb : R.isSome = b at *
  generalize he : R.getD none7 = e at *
  clear hb he
  obtain ⟨c, nm, cl⟩ := e
  unfold enE at *
  dsimp only at *
  generalize str nm = sn at *
  have HhF := Lib.hid hF
  clear hF
  go_enter Tryz.func25, Tryz.ntmps25
  go_wp2_with fail
  refine (HhF.out _ _ (by first | exact (Boxed.new w _ _).cell | exact box_cell _ _ _ _ _)).mono ?_
  rintro r w1 ⟨rfl, hx1⟩
  have HX1 := Lib.hid (((Ext.refl w).alloc _).trans hx1)
  clear hx1
  go_wp2_with fail
  go_ret2
  exact ⟨rfl, HX1.out.alloc _⟩
set_option maxRecDepth 100000 in
theorem Known_calls (code : Nat) (w : World) :
    Calls Tryz.prog 62 #[.int .u16 (code : Int)] w fun r w' => r = .returned (.bool (known code)) ∧ Ext w w' := by
  have hF := fun W => by_calls code W
  generalize entry code = e at *
  generalize known code = b at *
  obtain ⟨c, nm, cl⟩ := e
  unfold enE at *
  dsimp only at *
  generalize str nm = sn at *
  have HhF := Lib.hid hF
  clear hF
  go_enter Tryz.func62, Tryz.ntmps62
  go_wp2_with fail
  refine (HhF.out _).mono ?_
  rintro r w1 ⟨rfl, hx1⟩
  go_wp2_with fail
  go_ret
  exact ⟨rfl, hx1.alloc _⟩
set_option maxRecDepth 100000 in
theorem Of_calls (code : Nat) (w : World) :
    Calls Tryz.prog 40 #[.int .u16 (code : Int)] w fun r w' => r = .returned (.int .u8 (clsW code : Int)) ∧ Ext w w' := by
  have hF := fun W => by_calls code W
  unfold clsW
  generalize entry code = e at *
  generalize known code = b at *
  obtain ⟨c, nm, cl⟩ := e
  unfold enE at *
  dsimp only at *
  generalize str nm = sn at *
  have HhF := Lib.hid hF
  clear hF
  go_enter Tryz.func40, Tryz.ntmps40
  go_wp2_with fail
  refine (HhF.out _).mono ?_
  rintro r w1 ⟨rfl, hx1⟩
  go_wp2_with fail
  go_ret
  exact ⟨rfl, hx1.alloc _⟩
set_option maxRecDepth 100000 in
theorem Name_calls (code : Nat) (w : World) :
    Calls Tryz.prog 49 #[.int .u16 (code : Int)] w fun r w' => r = .returned (.string (str (entry code).nm)) ∧ Ext w w' := by
  have hF := fun W => by_calls code W
  generalize entry code = e at *
  generalize known code = b at *
  obtain ⟨c, nm, cl⟩ := e
  unfold enE at *
  dsimp only at *
  generalize str nm = sn at *
  have HhF := Lib.hid hF
  clear hF
  go_enter Tryz.func49, Tryz.ntmps49
  go_wp2_with fail
  refine (HhF.out _).mono ?_
  rintro r w1 ⟨rfl, hx1⟩
  go_wp2_with fail
  go_ret
  exact ⟨rfl, hx1.alloc _⟩
set_option maxRecDepth 100000 in
set_option maxHeartbeats 2000000 in
theorem WithX_calls (code : Nat) (hc : code < 65536) (w : World) :
    Calls Tryz.prog 41 #[.int .u16 (code : Int)] w fun r w' => r = .returned (.bool (wx code)) ∧ Ext w w' := by
  have hF := fun W => by_calls code W
  have hb := u16_and_nat code 8 hc (by decide)
  have hm : (((code &&& 8 : Nat) : Int) != 0) = (code &&& 8 != 0) := by rw [Bool.eq_iff_iff]; simp
  have hE : wx code = (known code && ((clsW code == 3 || clsW code == 4) && (code &&& 8 != 0))) := rfl
  rw [hE]
  unfold clsW
  clear hE
  generalize entry code = e at *
  generalize known code = b at *
  generalize code &&& 8 = m at *
  generalize (m != 0) = mb at *
  obtain ⟨c, nm, cl⟩ := e
  unfold enE at *
  dsimp only at *
  generalize str nm = sn at *
  have h3 : ((cl : Int) == 3) = (cl == 3) := by rw [Bool.eq_iff_iff]; simp; omega
  have h4 : ((cl : Int) == 4) = (cl == 4) := by rw [Bool.eq_iff_iff]; simp; omega
  generalize (cl == 3) = b3 at *
  generalize (cl == 4) = b4 at *
  have hb2 : bits .and .u16 (code : Int) 8 = (m : Int) := hb
  clear hb
  have HhF := Lib.hid hF
  clear hF
  cases b <;> cases b3 <;> cases b4 <;> cases mb
  all_goals
    go_enter Tryz.func41, Tryz.ntmps41
    go_wp2_with fail
    refine (HhF.out _).mono ?_
    rintro r w1 ⟨rfl, hx1⟩
    go_wp2_with fail
    go_ret
    exact ⟨rfl, hx1.alloc _⟩
end L07
end Go.Proofs.YtbpmokffhmiacaaGreatDoor
