/- Layer 8: the chapter's rows: awake. -/
import Derived.Test.YtimpokibippenaaArchC
import Derived.Test.YtimpokibippenaaArchD
namespace Go.Proofs.Ytimpokibippenaa
open Go.RowKit V
namespace L08
set_option maxRecDepth 100000 in
set_option maxHeartbeats 1000000 in
theorem awake_calls (w : World) : Calls Try.prog 12 #[] w fun e w' => e = .returned (.bool true) ∧ Ext w w' := by
  have p1 := fun w => Parse_calls ⟨#[120, 51, 50]⟩ w
  have p2 := fun w => Parse_calls ⟨#[110, 97, 116, 105, 118, 101]⟩ w
  have p3 := fun w => Parse_calls ⟨#[88, 56, 54]⟩ w
  rw [show parseA (⟨#[120, 51, 50]⟩ : ByteArray).toList = (2, 0) by rw [ByteArray.toList_eq]; decide] at p1
  rw [show parseA (⟨#[110, 97, 116, 105, 118, 101]⟩ : ByteArray).toList = (0, 0) by rw [ByteArray.toList_eq]; decide] at p2
  rw [show parseA (⟨#[88, 56, 54]⟩ : ByteArray).toList = (0, 80) by rw [ByteArray.toList_eq]; decide] at p3
  have o1 := fun w => Of_calls 3221225534 5 (by omega) w
  have o2 := fun w => Of_calls 3221225534 1073741829 (by omega) w
  have o3 := fun w => Of_calls 1073741864 1073741829 (by omega) w
  have o4 := fun w => Of_calls 7 5 (by omega) w
  rw [show ofA 3221225534 5 = (0, true) by decide] at o1
  rw [show ofA 3221225534 1073741829 = (2, true) by decide] at o2
  rw [show ofA 1073741864 1073741829 = (3, true) by decide] at o3
  rw [show ofA 7 5 = (0, false) by decide] at o4
  have n0 := fun w => Name_calls 0 w
  have n5 := fun w => Name_calls 5 w
  have n6 := fun w => Name_calls 6 w
  rw [show nameA 0 = ⟨#[120, 56, 54, 45, 54, 52]⟩ by rfl] at n0
  rw [show nameA 5 = ⟨#[114, 105, 115, 99, 118, 54, 52]⟩ by rfl] at n5
  rw [show nameA 6 = ⟨#[]⟩ by rfl] at n6
  have Hp1 := Lib.hid p1
  clear p1
  have Hp2 := Lib.hid p2
  clear p2
  have Hp3 := Lib.hid p3
  clear p3
  have Ho1 := Lib.hid o1
  clear o1
  have Ho2 := Lib.hid o2
  clear o2
  have Ho3 := Lib.hid o3
  clear o3
  have Ho4 := Lib.hid o4
  clear o4
  have Hn0 := Lib.hid n0
  clear n0
  have Hn5 := Lib.hid n5
  clear n5
  have Hn6 := Lib.hid n6
  clear n6
  go_enter Try.func12, Try.ntmps12
  go_wp2_with fail
  refine (Hp1.out _).mono ?_; rintro e w1 ⟨rfl, hx1⟩
  go_wp2_with fail
  refine (Hp2.out _).mono ?_; rintro e w2 ⟨rfl, hx2⟩
  go_wp2_with fail
  refine (Hp3.out _).mono ?_; rintro e w3 ⟨rfl, hx3⟩
  go_wp2_with fail
  refine (Ho1.out _).mono ?_; rintro e w4 ⟨rfl, hx4⟩
  go_wp2_with fail
  refine (Ho2.out _).mono ?_; rintro e w5 ⟨rfl, hx5⟩
  go_wp2_with fail
  refine (Ho3.out _).mono ?_; rintro e w6 ⟨rfl, hx6⟩
  go_wp2_with fail
  refine (Ho4.out _).mono ?_; rintro e w7 ⟨rfl, hx7⟩
  go_wp2_with fail
  refine (Hn0.out _).mono ?_; rintro e w8 ⟨rfl, hx8⟩
  go_wp2_with fail
  refine (Hn5.out _).mono ?_; rintro e w9 ⟨rfl, hx9⟩
  go_wp2_with fail
  refine (Hn6.out _).mono ?_; rintro e w10 ⟨rfl, hx10⟩
  go_wp2_with fail
  go_ret
  exact ⟨rfl, ((((((((hx1.trans hx2).trans hx3).trans hx4).trans hx5).trans hx6).trans hx7).trans hx8).trans hx9).trans hx10⟩
end L08
end Go.Proofs.Ytimpokibippenaa
