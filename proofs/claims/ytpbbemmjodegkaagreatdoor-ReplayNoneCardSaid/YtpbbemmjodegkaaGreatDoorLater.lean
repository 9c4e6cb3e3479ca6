/-
  A region that draws its order, whose operations read what lies and whose calls only make memory: one walk of the text's order serves all orders.
-/
import Derived.Test.YtpbbemmjodegkaaGreatDoorLaw
import Derived.Deep.QuietTactic
import Derived.BigQuiet
namespace Go.Proofs.YtpbbemmjodegkaaGreatDoor
open Go.RowKit

/-- A world that is w0 with more memory: below block B all is as it was. -/
structure Later (B : Nat) (w0 : World) where
  W : World
  h : Below B w0 W

instance {B : Nat} {w0 : World} : Nonempty (Later B w0) := ⟨⟨w0, Below.refl _ _⟩⟩

theorem wp_region_later {P : Program} {id : Nat} {Q : Exit → Act → World → Prop} {a : Act} {w : World} {l : List Oper} {B : Nat} {w0 : World} (h0 : Below B w0 w) (hm : P.follows .mixedOrders = true) (hB : Region.lexB .any l.toArray = true)
    (h : wpQuiet P l.toArray (fun w' => ∃ s : Later B w0, w' = s.W) (fun a' => ∀ w', (∃ s : Later B w0, w' = s.W) → Q .normal a' w') l a) : (Code.region id l.toArray true).wp P Q a w :=
  wp_region_quiet (C := fun w' => ∃ s : Later B w0, w' = s.W) hm hB ⟨⟨_, h0.drew⟩, rfl⟩ (by simpa using h)

section
variable {P : Program} {f : FuncId} {args : Array Value} {B : Nat} {w0 : World} {s : Later B w0} {v : Value}
/-- A call that only makes memory. -/
theorem Calls.later (hB : B ≤ w0.heap.size) (h : Calls P f args s.W fun e w' => e = .returned v ∧ Below s.W.heap.size s.W w') : Calls P f args s.W fun e w' => e = .returned v ∧ ∃ s' : Later B w0, w' = s'.W :=
  h.mono fun _ w' ⟨he, hb⟩ => ⟨he, ⟨w', below_call s.h hb (Nat.le_trans hB s.h.size)⟩, rfl⟩
/-- A call that leaves the world alone. -/
theorem Calls.later_same (h : Calls P f args s.W fun e w' => e = .returned v ∧ s.W = w') : Calls P f args s.W fun e w' => e = .returned v ∧ ∃ s' : Later B w0, w' = s'.W :=
  h.mono fun _ _ ⟨he, hb⟩ => ⟨he, s, hb.symm⟩
theorem Calls.later_same' (h : Calls P f args s.W fun e w' => e = .returned v ∧ w' = s.W) : Calls P f args s.W fun e w' => e = .returned v ∧ ∃ s' : Later B w0, w' = s'.W :=
  h.mono fun _ _ ⟨he, hb⟩ => ⟨he, s, hb⟩
theorem later_cell (s : Later B w0) (p : Addr) (hp : p.block < B) : s.W.cell? p = w0.cell? p := s.h.cell hp
end
end Go.Proofs.YtpbbemmjodegkaaGreatDoor
