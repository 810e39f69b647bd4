/- A region that draws its order, whose operations read what is kept and whose calls keep it: walked once, in the order of the text. -/
import Derived.Test.YtbpmokffhmiacaaGreatDoorBase
namespace Go.Proofs.YtbpmokffhmiacaaGreatDoor
open Go.RowKit
namespace V
/-- a world in which all lies as it lay in W -/
structure XW (W : World) where
  w : World
  h : Ext W w
instance (W : World) : Nonempty (XW W) := ⟨⟨W, Ext.refl W⟩⟩
theorem xwc {W : World} {p : Addr} {v : Value} (h : W.cell? p = some v) : ∀ x : XW W, x.w.cell? p = some v := fun x => x.h.cell h
theorem wp_region_kept {P : Program} {id : Nat} {Q : Exit → Act → World → Prop} {a : Act} {w : World} {l : List Oper} (hm : P.follows .mixedOrders = true) (hB : Region.lexB .any l.toArray = true)
    (h : wpQuiet P l.toArray (fun w' => ∃ x : XW w, w' = x.w) (fun a' => ∀ w', (∃ x : XW w, w' = x.w) → Q .normal a' w') l a) : (Code.region id l.toArray true).wp P Q a w :=
  wp_region_quiet (C := fun w' => ∃ x : XW w, w' = x.w) hm hB ⟨⟨w.drew, (Ext.refl w).drew⟩, rfl⟩ (by simpa using h)
/-- a call that keeps what lay there -/
theorem calls_kept {P : Program} {f : FuncId} {args : Array Value} {W : World} {x : XW W} {v : Value} (h : Calls P f args x.w fun e w' => e = .returned v ∧ Ext x.w w') :
    Calls P f args x.w fun e w'' => e = .returned v ∧ ∃ y : XW W, w'' = y.w := h.mono fun _ w' ⟨he, hx⟩ => ⟨he, ⟨w', x.h.trans hx⟩, rfl⟩
end V
end Go.Proofs.YtbpmokffhmiacaaGreatDoor
