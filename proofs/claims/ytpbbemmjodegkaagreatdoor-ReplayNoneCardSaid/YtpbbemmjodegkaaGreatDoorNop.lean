/-
  A move, a configuration and a setup that came in as arguments, opened: only what ReplayNone wants.
-/
import Derived.Test.YtpbbemmjodegkaaGreatDoorOpenRows
import Derived.Test.YtpbbemmjodegkaaGreatDoorNlaw
set_option linter.unusedSimpArgs false
set_option linter.unusedVariables false
namespace Go.Proofs.YtpbbemmjodegkaaGreatDoor
open Go.Joins Go.ChangeShapes Go.WideShapes Go.ChangeAt Go.RowKit Go.Deep

section
variable {H : Type} {enc : TypeId × Value → H} {W : World} {base : Nat} {spare : Nat → Bool} {held : Bool}
theorem open_sl {t e : TypeId} {fuel : Nat} {cs : List Value} {x : DataW H × List MemPlace} (ht : Tryz.prog.underlying t = some (.slice e)) (h : DataW.trod enc Tryz.prog W base spare held fuel t cs = some x) : ∃ (A : Option Addr) (n k : Nat), cs = [.slice A n k] := by
  rcases open_slice ht h with ⟨hcs, _⟩ | ⟨b, l, c, m, n, D, Pl, hcs, _⟩
  · exact ⟨none, 0, 0, hcs⟩
  · exact ⟨some b, l, c, hcs⟩
theorem agg_cells (cs : Array Value) : cs = ((Value.agg cs).cells.toList).toArray := by simp [Value.cells]
set_option maxRecDepth 100000 in
theorem open_move {r : Reach} {b0 : Nat} {v : Value} {d : DataW H} {p : List MemPlace} (hv : Value.okWide Tryz.prog W r b0 48 v) (h : DataW.Trod enc Tryz.prog W base spare held 48 v d p) :
    ∃ a0 a1 a2 a3 a4 a5 : Int, v = .agg #[.int .i64 a0, .int .i64 a1, .int .i64 a2, .int .i64 a3, .int .i64 a4, .int .u64 a5] := by
  obtain ⟨cs, rfl, hsz⟩ := okWide_struct Tryz.underlying48 hv
  obtain ⟨fuel, hf0⟩ := h
  obtain ⟨hl, hf⟩ := field_cells Tryz.underlying48 hf0
  have hl6 : ((Value.agg cs).cells.toList).length = 6 := hl.trans (by kernel_rfl)
  rw [agg_cells cs]
  obtain ⟨l, hll⟩ : ∃ l, (Value.agg cs).cells.toList = l := ⟨_, rfl⟩
  rw [hll] at hf hl6 ⊢
  clear hll hf0 hl hv hsz
  obtain ⟨y0, n0, t0⟩ := hf 0 0 1 3 ⟨_, rfl, rfl, rfl⟩ (by kernel_rfl)
  obtain ⟨y1, n1, t1⟩ := hf 1 1 1 41 ⟨_, rfl, rfl, rfl⟩ (by kernel_rfl)
  obtain ⟨y2, n2, t2⟩ := hf 2 2 3 44 ⟨_, rfl, rfl, rfl⟩ (by kernel_rfl)
  obtain ⟨y3, n3, t3⟩ := hf 3 5 1 46 ⟨_, rfl, rfl, rfl⟩ (by kernel_rfl)
  match l, hl6 with
  | [a0, a1, a2, a3, a4, a5], _ =>
    simp only [List.drop_zero, List.take_succ_cons, List.take_zero, List.drop_succ_cons] at t0 t1 t2 t3
    obtain ⟨k0, e0, _, _⟩ := DataW.trod_int Tryz.underlying3 t0
    obtain ⟨k1, e1, _, _⟩ := DataW.trod_int Tryz.underlying41 t1
    obtain ⟨k5, e5, _, _⟩ := DataW.trod_int Tryz.underlying46 t3
    obtain ⟨_, hg⟩ := row_cells Tryz.underlying44 (by kernel_rfl) (by kernel_rfl) t2
    obtain ⟨v2, z2, m2, c2, u2⟩ := hg 0 _ rfl
    obtain ⟨v3, z3, m3, c3, u3⟩ := hg 1 _ rfl
    obtain ⟨v4, z4, m4, c4, u4⟩ := hg 2 _ rfl
    obtain ⟨q2, f2, _, _⟩ := DataW.trod_int Tryz.underlying42 u2
    obtain ⟨q3, f3, _, _⟩ := DataW.trod_int Tryz.underlying3 u3
    obtain ⟨q4, f4, _, _⟩ := DataW.trod_int Tryz.underlying3 u4
    simp only [List.cons.injEq, and_true] at e0 e1 e5 f2 f3 f4
    simp at c2 c3 c4
    subst e0 e1 e5 f2 f3 f4 c2 c3 c4
    exact ⟨k0, k1, q2, q3, q4, k5, rfl⟩
set_option maxRecDepth 100000 in
theorem open_cfg {r : Reach} {b0 : Nat} {v : Value} {d : DataW H} {p : List MemPlace} (hv : Value.okWide Tryz.prog W r b0 23 v) (h : DataW.Trod enc Tryz.prog W base spare held 23 v d p) :
    ∃ a0 a1 a2 a3 a4 a5 : Int, v = .agg #[.int .i64 a0, .int .i64 a1, .int .i64 a2, .int .i64 a3, .int .i64 a4, .int .i64 a5] := by
  obtain ⟨cs, rfl, hsz⟩ := okWide_struct Tryz.underlying23 hv
  obtain ⟨fuel, hf0⟩ := h
  obtain ⟨hl, hf⟩ := field_cells Tryz.underlying23 hf0
  have hl6 : ((Value.agg cs).cells.toList).length = 6 := hl.trans (by kernel_rfl)
  rw [agg_cells cs]
  obtain ⟨l, hll⟩ : ∃ l, (Value.agg cs).cells.toList = l := ⟨_, rfl⟩
  rw [hll] at hf hl6 ⊢
  clear hll hf0 hl hv hsz
  obtain ⟨y0, n0, t0⟩ := hf 0 0 1 3 ⟨_, rfl, rfl, rfl⟩ (by kernel_rfl)
  obtain ⟨y1, n1, t1⟩ := hf 1 1 1 3 ⟨_, rfl, rfl, rfl⟩ (by kernel_rfl)
  obtain ⟨y2, n2, t2⟩ := hf 2 2 1 3 ⟨_, rfl, rfl, rfl⟩ (by kernel_rfl)
  obtain ⟨y3, n3, t3⟩ := hf 3 3 1 3 ⟨_, rfl, rfl, rfl⟩ (by kernel_rfl)
  obtain ⟨y4, n4, t4⟩ := hf 4 4 1 3 ⟨_, rfl, rfl, rfl⟩ (by kernel_rfl)
  obtain ⟨y5, n5, t5⟩ := hf 5 5 1 3 ⟨_, rfl, rfl, rfl⟩ (by kernel_rfl)
  match l, hl6 with
  | [a0, a1, a2, a3, a4, a5], _ =>
    simp only [List.drop_zero, List.take_succ_cons, List.take_zero, List.drop_succ_cons] at t0 t1 t2 t3 t4 t5
    obtain ⟨k0, e0, _, _⟩ := DataW.trod_int Tryz.underlying3 t0
    obtain ⟨k1, e1, _, _⟩ := DataW.trod_int Tryz.underlying3 t1
    obtain ⟨k2, e2, _, _⟩ := DataW.trod_int Tryz.underlying3 t2
    obtain ⟨k3, e3, _, _⟩ := DataW.trod_int Tryz.underlying3 t3
    obtain ⟨k4, e4, _, _⟩ := DataW.trod_int Tryz.underlying3 t4
    obtain ⟨k5, e5, _, _⟩ := DataW.trod_int Tryz.underlying3 t5
    simp only [List.cons.injEq, and_true] at e0 e1 e2 e3 e4 e5
    subst e0 e1 e2 e3 e4 e5
    exact ⟨k0, k1, k2, k3, k4, k5, rfl⟩
set_option maxRecDepth 100000 in
theorem open_setup {r : Reach} {b0 : Nat} {v : Value} {d : DataW H} {p : List MemPlace} (hv : Value.okWide Tryz.prog W r b0 29 v) (h : DataW.Trod enc Tryz.prog W base spare held 29 v d p) :
    ∃ (A0 A1 A2 A3 : Option Addr) (n0 n1 n2 n3 k0 k1 k2 k3 : Nat), v = .agg #[.slice A0 n0 k0, .slice A1 n1 k1, .slice A2 n2 k2, .slice A3 n3 k3] := by
  obtain ⟨cs, rfl, hsz⟩ := okWide_struct Tryz.underlying29 hv
  obtain ⟨fuel, hf0⟩ := h
  obtain ⟨hl, hf⟩ := field_cells Tryz.underlying29 hf0
  have hl6 : ((Value.agg cs).cells.toList).length = 4 := hl.trans (by kernel_rfl)
  rw [agg_cells cs]
  obtain ⟨l, hll⟩ : ∃ l, (Value.agg cs).cells.toList = l := ⟨_, rfl⟩
  rw [hll] at hf hl6 ⊢
  clear hll hf0 hl hv hsz
  obtain ⟨y0, n0, t0⟩ := hf 0 0 1 24 ⟨_, rfl, rfl, rfl⟩ (by kernel_rfl)
  obtain ⟨y1, n1, t1⟩ := hf 1 1 2 26 ⟨_, rfl, rfl, rfl⟩ (by kernel_rfl)
  obtain ⟨y2, n2, t2⟩ := hf 2 3 1 27 ⟨_, rfl, rfl, rfl⟩ (by kernel_rfl)
  match l, hl6 with
  | [a0, a1, a2, a3], _ =>
    simp only [List.drop_zero, List.take_succ_cons, List.take_zero, List.drop_succ_cons] at t0 t1 t2
    obtain ⟨A0, m0, k0, e0⟩ := open_sl Tryz.underlying24 t0
    obtain ⟨A3, m3, k3, e3⟩ := open_sl Tryz.underlying27 t2
    obtain ⟨ys, m, _, _, _, hyl, hg⟩ := DataW.trod_array Tryz.underlying26 t1
    have hc1 : Tryz.prog.cellsOf 25 = 1 := by kernel_rfl
    have g0 := hg 0 (by decide)
    have g1 := hg 1 (by decide)
    rw [hc1] at g0 g1
    rw [List.getElem?_eq_getElem (show 0 < ys.length by omega)] at g0
    rw [List.getElem?_eq_getElem (show 1 < ys.length by omega)] at g1
    simp only [Nat.zero_mul, Nat.one_mul, List.drop_zero, List.take_succ_cons, List.take_zero, List.drop_succ_cons] at g0 g1
    obtain ⟨A1, m1, k1, e1⟩ := open_sl Tryz.underlying25 g0
    obtain ⟨A2, m2, k2, e2⟩ := open_sl Tryz.underlying25 g1
    simp only [List.cons.injEq, and_true] at e0 e1 e2 e3
    subst e0 e1 e2 e3
    exact ⟨A0, A1, A2, A3, m0, m1, m2, m3, k0, k1, k2, k3, rfl⟩
end
end Go.Proofs.YtpbbemmjodegkaaGreatDoor
