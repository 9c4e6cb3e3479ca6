/-
  An argument that is a slice of games, opened.
-/
import Derived.Test.YtekbjlihpmjlfaaOpenRows
import Derived.Test.YtekbjlihpmjlfaaOpen
import Derived.Test.YtekbjlihpmjlfaaGms
set_option linter.unusedSimpArgs false
set_option linter.unusedVariables false
namespace Go.Proofs.Ytekbjlihpmjlfaa
open Go.Joins Go.ChangeShapes Go.WideShapes Go.ChangeAt Go.RowKit Go.Deep

section
variable {H : Type} {enc : TypeId × Value → H} {W : World} {base : Nat} {spare : Nat → Bool} {held : Bool}
theorem open_game_cells {fuel : Nat} {cs : List Value} {x : DataW H × List MemPlace} (h : DataW.trod enc Try.prog W base spare held fuel 30 cs = some x) : ∃ m : Gm, cs = m.cells ∧ True := by
  obtain ⟨hl, hg⟩ := row_cells Try.underlying30 (by kernel_rfl) (by kernel_rfl) h
  obtain ⟨v2, z2, m2, c2, u2⟩ := hg 0 _ rfl
  obtain ⟨v3, z3, m3, c3, u3⟩ := hg 1 _ rfl
  obtain ⟨v4, z4, m4, c4, u4⟩ := hg 2 _ rfl
  obtain ⟨q2, f2, _, _⟩ := DataW.trod_int Try.underlying3 u2
  obtain ⟨q3, f3, _, _⟩ := DataW.trod_int Try.underlying3 u3
  obtain ⟨q4, f4, _, _⟩ := DataW.trod_int Try.underlying28 u4
  have hl3 : cs.length = 3 := hl
  match cs, hl3 with
  | [a0, a1, a2], _ =>
    simp only [List.cons.injEq, and_true] at f2 f3 f4
    simp at c2 c3 c4
    subst f2 f3 f4 c2 c3 c4
    exact ⟨⟨q2, q3, q4⟩, rfl, trivial⟩
theorem open_games {a : Option Addr} {len cap : Nat} {d : DataW H} {p : List MemPlace} (h : DataW.Trod enc Try.prog W base spare held 22 (.slice a len cap) d p) :
    ∃ l : List Gm, Reads W 3 a len (gcells l) ∧ (a = none → cap = 0) := by
  obtain ⟨fuel, hf⟩ := h
  obtain ⟨a', len', cap', l, hcs, hr, hg, h1, h2, h3⟩ := open_rows (k := 3) Gm.cells (fun _ => True) Try.underlying22 (by kernel_rfl) (by decide) (fun _ => rfl) (fun _ _ _ h => open_game_cells h) hf
  simp [Value.cells] at hcs
  obtain ⟨rfl, rfl, rfl⟩ := hcs
  exact ⟨l, by have h := hr.1; simpa [gcells, List.flatMap] using h, h2⟩
end
end Go.Proofs.Ytekbjlihpmjlfaa
