/-
  An argument that is a slice of moves, opened.
-/
import Derived.Test.YthckmcpngpigkaaOpenRows
import Derived.Test.YthckmcpngpigkaaOpen
import Derived.Test.YthckmcpngpigkaaRep
set_option linter.unusedSimpArgs false
set_option linter.unusedVariables false
namespace Go.Proofs.Ythckmcpngpigkaa
open Go.Joins Go.ChangeShapes Go.WideShapes Go.ChangeAt Go.RowKit Go.Deep

/-- A move whose time is a number of 64 bits. -/
def GoodM (m : MoveV) : Prop := 0 ≤ m.at_ ∧ m.at_ ≤ 18446744073709551615
section
variable {H : Type} {enc : TypeId × Value → H} {W : World} {base : Nat} {spare : Nat → Bool} {held : Bool}
theorem wf_u64 {x : Int} (h : (Lit.int .u64 x).wf = true) : 0 ≤ x ∧ x ≤ 18446744073709551615 := by
  simpa [Lit.wf, IntKind.min, IntKind.max, IntKind.signed, IntKind.bits] using h
theorem open_move_cells {fuel : Nat} {cs : List Value} {x : DataW H × List MemPlace} (h : DataW.trod enc Try.prog W base spare held fuel 41 cs = some x) : ∃ m : MoveV, cs = m.cells ∧ GoodM m := by
  obtain ⟨hl, hf⟩ := field_cells Try.underlying41 h
  have hl6 : cs.length = 6 := hl.trans (by kernel_rfl)
  have k3 : Try.prog.cellsOf 3 = 1 := by kernel_rfl
  have k34 : Try.prog.cellsOf 34 = 1 := by kernel_rfl
  have k37 : Try.prog.cellsOf 37 = 3 := by kernel_rfl
  have k39 : Try.prog.cellsOf 39 = 1 := by kernel_rfl
  obtain ⟨y0, n0, t0⟩ := hf 0 0 _ 3 ⟨_, rfl, rfl, rfl⟩ k3
  obtain ⟨y1, n1, t1⟩ := hf 1 1 _ 34 ⟨_, rfl, rfl, rfl⟩ k34
  obtain ⟨y2, n2, t2⟩ := hf 2 2 _ 37 ⟨_, rfl, rfl, rfl⟩ k37
  obtain ⟨y3, n3, t3⟩ := hf 3 5 _ 39 ⟨_, rfl, rfl, rfl⟩ k39
  match cs, hl6 with
  | [a0, a1, a2, a3, a4, a5], _ =>
    simp only [List.drop_zero, List.take_succ_cons, List.take_zero, List.drop_succ_cons] at t0 t1 t2 t3
    obtain ⟨k0, e0, _, _⟩ := DataW.trod_int Try.underlying3 t0
    obtain ⟨k1, e1, _, _⟩ := DataW.trod_int Try.underlying34 t1
    obtain ⟨k5, e5, _, w5⟩ := DataW.trod_int Try.underlying39 t3
    obtain ⟨_, hg⟩ := row_cells Try.underlying37 (by kernel_rfl) (by kernel_rfl) t2
    obtain ⟨v2, z2, m2, c2, u2⟩ := hg 0 _ rfl
    obtain ⟨v3, z3, m3, c3, u3⟩ := hg 1 _ rfl
    obtain ⟨v4, z4, m4, c4, u4⟩ := hg 2 _ rfl
    obtain ⟨q2, f2, _, _⟩ := DataW.trod_int Try.underlying35 u2
    obtain ⟨q3, f3, _, _⟩ := DataW.trod_int Try.underlying3 u3
    obtain ⟨q4, f4, _, _⟩ := DataW.trod_int Try.underlying3 u4
    simp only [List.cons.injEq, and_true] at e0 e1 e5 f2 f3 f4
    simp at c2 c3 c4
    subst e0 e1 e5 f2 f3 f4 c2 c3 c4
    exact ⟨⟨k0, k1, q2, q3, q4, k5⟩, rfl, wf_u64 w5⟩
theorem open_moves {a : Option Addr} {len cap : Nat} {d : DataW H} {p : List MemPlace} (h : DataW.Trod enc Try.prog W base spare held 26 (.slice a len cap) d p) :
    ∃ l : List MoveV, Reads W 6 a len (mcells l) ∧ l.length = len ∧ (∀ m ∈ l, GoodM m) ∧ len ≤ cap ∧ (a = none → cap = 0) ∧ cap ≤ maxLen := by
  obtain ⟨fuel, hf⟩ := h
  obtain ⟨a', len', cap', l, hcs, hr, hg, h1, h2, h3⟩ := open_rows (k := 6) MoveV.cells GoodM Try.underlying26 (by kernel_rfl) (by decide) (fun _ => rfl) (fun _ _ _ h => open_move_cells h) hf
  simp [Value.cells] at hcs
  obtain ⟨rfl, rfl, rfl⟩ := hcs
  have hll : l.length = len := by have := hr.2.2; simpa using this
  refine ⟨l, ?_, hll, hg, h1, h2, h3⟩
  have := hr.1
  rwa [← List.flatMap_def] at this
end
end Go.Proofs.Ythckmcpngpigkaa
