/-
  A thing that was done, opened.
-/
import Derived.Test.YtpmlipcpohajgaaOpenRows
import Derived.Test.YtpmlipcpohajgaaOpenOps
import Derived.Test.YtpmlipcpohajgaaDids
set_option linter.unusedSimpArgs false
set_option linter.unusedVariables false
namespace Go.Proofs.Ytpmlipcpohajgaa
open Go.Joins Go.ChangeShapes Go.WideShapes Go.ChangeAt Go.RowKit Go.Deep

section
variable {H : Type} {enc : TypeId × Value → H} {W : World} {base : Nat} {spare : Nat → Bool} {held : Bool}

theorem open_sent_cells {fuel : Nat} {cs : List Value} {x : DataW H × List MemPlace} (h : DataW.trod enc Try.prog W base spare held fuel 62 cs = some x) : ∃ o : SentC, cs = o.cells ∧ (BReads W o.A o.v.d.length o.v.d ∧ (o.A = none → o.cap = 0)) := by
  obtain ⟨hl, hf⟩ := row_cells Try.underlying62 (by kernel_rfl) (by kernel_rfl) h
  obtain ⟨v0, y0, n0, c0, t0⟩ := hf 0 _ rfl
  obtain ⟨v1, y1, n1, c1, t1⟩ := hf 1 _ rfl
  obtain ⟨k0, e0, _, _⟩ := DataW.trod_int Try.underlying3 t0
  obtain ⟨A, len, cap, xs, e1, hr, _, hA, _⟩ := open_bytes_cells t1
  simp only [List.cons.injEq, and_true] at e0 e1
  subst e0 e1
  have hxl := hr.length
  refine ⟨⟨⟨k0, xs⟩, A, cap⟩, ?_, by simpa [hxl] using hr, hA⟩
  have hl2 : cs.length = 2 := hl
  match cs, hl2, c0, c1 with
  | [a0, a1], _, c0, c1 =>
    simp at c0 c1
    subst c0 c1
    simp [SentC.cells, hxl]

theorem open_move_cells {fuel : Nat} {cs : List Value} {x : DataW H × List MemPlace} (h : DataW.trod enc Try.prog W base spare held fuel 72 cs = some x) : ∃ m : MoveV, cs = m.cells ∧ True := by
  obtain ⟨hl, hf⟩ := field_cells Try.underlying72 h
  have hl6 : cs.length = 6 := hl.trans (by kernel_rfl)
  have k3 : Try.prog.cellsOf 3 = 1 := by kernel_rfl
  have k67 : Try.prog.cellsOf 67 = 1 := by kernel_rfl
  have k70 : Try.prog.cellsOf 70 = 3 := by kernel_rfl
  have k44 : Try.prog.cellsOf 44 = 1 := by kernel_rfl
  obtain ⟨y0, n0, t0⟩ := hf 0 0 _ 3 ⟨_, rfl, rfl, rfl⟩ k3
  obtain ⟨y1, n1, t1⟩ := hf 1 1 _ 67 ⟨_, rfl, rfl, rfl⟩ k67
  obtain ⟨y2, n2, t2⟩ := hf 2 2 _ 70 ⟨_, rfl, rfl, rfl⟩ k70
  obtain ⟨y3, n3, t3⟩ := hf 3 5 _ 44 ⟨_, rfl, rfl, rfl⟩ k44
  match cs, hl6 with
  | [a0, a1, a2, a3, a4, a5], _ =>
    simp only [List.drop_zero, List.take_succ_cons, List.take_zero, List.drop_succ_cons] at t0 t1 t2 t3
    obtain ⟨k0, e0, _, _⟩ := DataW.trod_int Try.underlying3 t0
    obtain ⟨k1, e1, _, _⟩ := DataW.trod_int Try.underlying67 t1
    obtain ⟨k5, e5, _, _⟩ := DataW.trod_int Try.underlying44 t3
    obtain ⟨_, hg⟩ := row_cells Try.underlying70 (by kernel_rfl) (by kernel_rfl) t2
    obtain ⟨v2, z2, m2, c2, u2⟩ := hg 0 _ rfl
    obtain ⟨v3, z3, m3, c3, u3⟩ := hg 1 _ rfl
    obtain ⟨v4, z4, m4, c4, u4⟩ := hg 2 _ rfl
    obtain ⟨q2, f2, _, _⟩ := DataW.trod_int Try.underlying68 u2
    obtain ⟨q3, f3, _, _⟩ := DataW.trod_int Try.underlying3 u3
    obtain ⟨q4, f4, _, _⟩ := DataW.trod_int Try.underlying3 u4
    simp only [List.cons.injEq, and_true] at e0 e1 e5 f2 f3 f4
    simp at c2 c3 c4
    subst e0 e1 e5 f2 f3 f4 c2 c3 c4
    exact ⟨⟨k0, k1, q2, q3, q4, k5⟩, rfl, trivial⟩

theorem rows_map {α : Type} (l : List α) (cells : α → List Value) (k n : Nat) (A : Option Addr) (h : RowR W k A n (l.map cells)) : l.length = n := by
  have := h.2.2
  simpa using this
theorem open_did {r : Reach} {b0 : Nat} {v : Value} {d : DataW H} {p : List MemPlace} (hv : Value.okWide Try.prog W r b0 46 v) (h : DataW.Trod enc Try.prog W base spare held 46 v d p) :
    ∃ x : DidC, v = .agg #[.int .i64 x.sk, .int .i64 x.sc, .int .i64 x.sn, .slice x.dA x.sd.length x.dc, .int .i64 x.err, .int .i64 x.n, .slice x.sA x.sents.length x.sC, .slice x.mA x.moves.length x.mC, .int .i64 x.work, .int .u64 x.at_] ∧ DidIs W x := by
  obtain ⟨cs, rfl, hsz⟩ := okWide_struct Try.underlying46 hv
  obtain ⟨fuel, hf0⟩ := h
  obtain ⟨hl, hf⟩ := field_cells Try.underlying46 hf0
  have hl10 : (Value.agg cs).cells.toList.length = 10 := hl.trans (by kernel_rfl)
  have k3 : Try.prog.cellsOf 3 = 1 := by kernel_rfl
  have k40 : Try.prog.cellsOf 40 = 4 := by kernel_rfl
  have k25 : Try.prog.cellsOf 25 = 1 := by kernel_rfl
  have k41 : Try.prog.cellsOf 41 = 1 := by kernel_rfl
  have k42 : Try.prog.cellsOf 42 = 1 := by kernel_rfl
  have k44 : Try.prog.cellsOf 44 = 1 := by kernel_rfl
  obtain ⟨y0, n0, t0⟩ := hf 0 0 _ 40 ⟨_, rfl, rfl, rfl⟩ k40
  obtain ⟨y1, n1, t1⟩ := hf 1 4 _ 25 ⟨_, rfl, rfl, rfl⟩ k25
  obtain ⟨y2, n2, t2⟩ := hf 2 5 _ 3 ⟨_, rfl, rfl, rfl⟩ k3
  obtain ⟨y3, n3, t3⟩ := hf 3 6 _ 41 ⟨_, rfl, rfl, rfl⟩ k41
  obtain ⟨y4, n4, t4⟩ := hf 4 7 _ 42 ⟨_, rfl, rfl, rfl⟩ k42
  obtain ⟨y5, n5, t5⟩ := hf 5 8 _ 3 ⟨_, rfl, rfl, rfl⟩ k3
  obtain ⟨y6, n6, t6⟩ := hf 6 9 _ 44 ⟨_, rfl, rfl, rfl⟩ k44
  have hcs : cs = ((Value.agg cs).cells.toList).toArray := by simp [Value.cells]
  rw [hcs]
  clear hcs hf hl hf0 hsz hv
  generalize (Value.agg cs).cells.toList = l at *
  match l, hl10 with
  | [a0, a1, a2, a3, a4, a5, a6, a7, a8, a9], _ =>
    simp only [List.drop_zero, List.take_succ_cons, List.take_zero, List.drop_succ_cons] at t0 t1 t2 t3 t4 t5 t6
    obtain ⟨_, hg⟩ := row_cells Try.underlying40 (by kernel_rfl) (by kernel_rfl) t0
    obtain ⟨v0, z0, m0, c0, u0⟩ := hg 0 _ rfl
    obtain ⟨v1, z1, m1, c1, u1⟩ := hg 1 _ rfl
    obtain ⟨v2, z2, m2, c2, u2⟩ := hg 2 _ rfl
    obtain ⟨v3, z3, m3, c3, u3⟩ := hg 3 _ rfl
    obtain ⟨q0, f0, _, _⟩ := DataW.trod_int Try.underlying38 u0
    obtain ⟨q1, f1, _, _⟩ := DataW.trod_int Try.underlying3 u1
    obtain ⟨q2, f2, _, _⟩ := DataW.trod_int Try.underlying3 u2
    obtain ⟨A, len, cap, xs, f3, hr, hlc, hA, hcap⟩ := open_bytes_cells u3
    obtain ⟨q4, f4, _, _⟩ := DataW.trod_int Try.underlying25 t1
    obtain ⟨q5, f5, _, _⟩ := DataW.trod_int Try.underlying3 t2
    obtain ⟨q8, f8, _, _⟩ := DataW.trod_int Try.underlying3 t5
    obtain ⟨q9, f9, _, _⟩ := DataW.trod_int Try.underlying44 t6
    obtain ⟨sA, sl, sC, ls, f6, hs, hsg, hslc, _, hscap⟩ := open_rows (k := 2) SentC.cells _ Try.underlying41 (by kernel_rfl) (by decide) (fun _ => rfl) (fun _ _ _ h => open_sent_cells h) t3
    obtain ⟨mA, ml, mC, lm, f7, hm, _, hmlc, _, hmcap⟩ := open_rows (k := 6) MoveV.cells _ Try.underlying42 (by kernel_rfl) (by decide) (fun _ => rfl) (fun _ _ _ h => open_move_cells h) t4
    simp only [List.cons.injEq, and_true] at f0 f1 f2 f3 f4 f5 f6 f7 f8 f9
    simp at c0 c1 c2 c3
    subst f0 f1 f2 f3 f4 f5 f6 f7 f8 f9 c0 c1 c2 c3
    have e1 := hr.length
    have e2 := rows_map _ _ _ _ _ hs
    have e3 := rows_map _ _ _ _ _ hm
    unfold maxLen at hcap hscap hmcap
    refine ⟨⟨q0, q1, q2, A, cap, xs, q4, q5, sA, sC, ls.map SentC.v, mA, mC, lm, q8, q9⟩, ?_, by rw [e1]; exact hr, ⟨ls, by simpa [e2] using hs, rfl, hsg⟩, by simpa [MReads, e3] using hm, by simp [e2]; omega, by simp [e3]; omega, by simp [e1]; omega⟩
    simp [e1, e2, e3]
end
end Go.Proofs.Ytpmlipcpohajgaa
