/-
  The arguments of the statements, opened: an operation, a row of operations.
-/
import Derived.Test.YtpmlipcpohajgaaOpen
import Derived.Test.YtpmlipcpohajgaaOps
import Derived.Deep.Slices
import Derived.Deep.Fields
set_option linter.unusedSimpArgs false
set_option linter.unusedVariables false
namespace Go.Proofs.Ytpmlipcpohajgaa
open Go.Joins Go.ChangeShapes Go.WideShapes Go.ChangeAt Go.RowKit Go.Deep

theorem list_of {α : Type} {P : Nat → α → Prop} : ∀ n : Nat, (∀ i, i < n → ∃ o, P i o) → ∃ cs : List α, cs.length = n ∧ ∀ i o, cs[i]? = some o → P i o := by
  intro n
  induction n with
  | zero => intro _; exact ⟨[], rfl, fun i o h => by simp at h⟩
  | succ n ih =>
    intro h
    obtain ⟨cs, h1, h2⟩ := ih (fun i hi => h i (by omega))
    obtain ⟨o, ho⟩ := h n (by omega)
    refine ⟨cs ++ [o], by simp [h1], fun i o' hi => ?_⟩
    rcases Nat.lt_or_ge i n with hlt | hge
    · rw [List.getElem?_append_left (by omega)] at hi
      exact h2 i o' hi
    · rw [List.getElem?_append_right (by omega)] at hi
      obtain rfl : i = n := by
        rcases Nat.lt_or_ge (i - cs.length) 1 with h' | h'
        · omega
        · rw [List.getElem?_eq_none (by simpa using h')] at hi; cases hi
      rw [h1, Nat.sub_self] at hi
      injection hi with hi
      exact hi ▸ ho

section
variable {H : Type} {enc : TypeId × Value → H} {W : World} {base : Nat} {spare : Nat → Bool} {held : Bool}

theorem elem_cells {P : Program} {fuel : Nat} {e : TypeId} {fs : Array Field} {cs : List Value} {x : DataW H × List MemPlace} (he : P.underlying e = some (.struct fs)) (hone : oneCellFields P fs = true) (hC : P.cellsOf e = fs.size)
    (h : DataW.trod enc P W base spare held fuel e cs = some x) : cs.length = fs.size ∧ ∀ (j : Nat) (f : Field), fs[j]? = some f → ∃ (v : Value) (y : DataW H × List MemPlace) (n : Nat), cs[j]? = some v ∧ DataW.trod enc P W base spare held n f.type [v] = some y := by
  obtain ⟨ys, n, _, _, hlen, hyl, hf⟩ := DataW.trod_struct he h
  refine ⟨hlen.trans hC, fun j f hj => ?_⟩
  have hjl : j < fs.size := (Array.getElem?_eq_some_iff.1 hj).1
  have hcl : j < cs.length := by omega
  obtain ⟨ho, hk⟩ := hone_of hone j f hj
  have h1 := hf j f hj
  rw [ho, hk, List.drop_eq_getElem_cons hcl] at h1
  refine ⟨cs[j], ys[j]'(by omega), n, List.getElem?_eq_getElem hcl, ?_⟩
  rw [List.getElem?_eq_getElem (by omega)] at h1
  exact h1

def OpIs (W : World) (cs : List Value) (o : OpC) : Prop := cs = o.cells ∧ BReads W o.A o.v.d.length o.v.d ∧ (o.A = none → o.cap = 0)

theorem open_op_cells {fuel : Nat} {cs : List Value} {x : DataW H × List MemPlace} (h : DataW.trod enc Try.prog W base spare held fuel 33 cs = some x) : ∃ o : OpC, OpIs W cs o := by
  obtain ⟨hl, hf⟩ := elem_cells Try.underlying33 (by kernel_rfl) (by kernel_rfl) h
  obtain ⟨v0, y0, n0, c0, t0⟩ := hf 0 _ rfl
  obtain ⟨v1, y1, n1, c1, t1⟩ := hf 1 _ rfl
  obtain ⟨v2, y2, n2, c2, t2⟩ := hf 2 _ rfl
  obtain ⟨v3, y3, n3, c3, t3⟩ := hf 3 _ rfl
  obtain ⟨v4, y4, n4, c4, t4⟩ := hf 4 _ rfl
  obtain ⟨k0, e0, _, _⟩ := DataW.trod_int Try.underlying31 t0
  obtain ⟨k1, e1, _, _⟩ := DataW.trod_int Try.underlying3 t1
  obtain ⟨k2, e2, _, _⟩ := DataW.trod_int Try.underlying3 t2
  obtain ⟨k3, e3, _, _⟩ := DataW.trod_int Try.underlying3 t3
  obtain ⟨A, len, cap, xs, e4, hr, _, hA, _⟩ := open_bytes_cells t4
  simp only [List.cons.injEq, and_true] at e0 e1 e2 e3 e4
  subst e0 e1 e2 e3 e4
  have hxl := hr.length
  refine ⟨⟨⟨k0, k1, k2, k3, xs⟩, A, cap⟩, ?_, by simpa [hxl] using hr, hA⟩
  have hl5 : cs.length = 5 := hl
  match cs, hl5, c0, c1, c2, c3, c4 with
  | [a0, a1, a2, a3, a4], _, c0, c1, c2, c3, c4 =>
    simp at c0 c1 c2 c3 c4
    subst c0 c1 c2 c3 c4
    simp [OpC.cells, hxl]

theorem open_op {r : Reach} {b0 : Nat} {v : Value} {d : DataW H} {p : List MemPlace} (hv : Value.okWide Try.prog W r b0 33 v) (h : DataW.Trod enc Try.prog W base spare held 33 v d p) :
    ∃ o : OpC, v = .agg #[.int .i64 o.v.k, .int .i64 o.v.c, .int .i64 o.v.n, .int .i64 o.v.m, .slice o.A o.v.d.length o.cap] ∧ BReads W o.A o.v.d.length o.v.d ∧ (o.A = none → o.cap = 0) := by
  obtain ⟨cs, rfl, hsz⟩ := okWide_struct Try.underlying33 hv
  obtain ⟨fuel, hf⟩ := h
  obtain ⟨o, ho, h1, h2⟩ := open_op_cells hf
  refine ⟨o, ?_, h1, h2⟩
  have : cs = o.cells.toArray := by
    have h3 : (Value.agg cs).cells.toList = o.cells := ho
    simpa [Value.cells] using congrArg List.toArray h3
  rw [this]
  rfl

theorem open_ops {a : Option Addr} {len cap : Nat} {d : DataW H} {p : List MemPlace} (h : DataW.Trod enc Try.prog W base spare held 24 (.slice a len cap) d p) : ∃ l : List OpV, OReads W a len l ∧ len ≤ cap ∧ cap ≤ maxLen := by
  obtain ⟨fuel, hf⟩ := h
  have hC5 : Try.prog.cellsOf 33 = 5 := by kernel_rfl
  rcases open_slice Try.underlying24 hf with ⟨hcs, _⟩ | ⟨b, l, c, m, n, D, Pl, hcs, _, hl, hm, hmm, _, hi⟩
  · simp [Value.cells] at hcs
    obtain ⟨rfl, rfl, rfl⟩ := hcs
    exact ⟨[], OReads.nil _, Nat.le_refl _, Nat.zero_le _⟩
  · simp [Value.cells] at hcs
    obtain ⟨rfl, rfl, rfl⟩ := hcs
    have hlm : len ≤ m := by rw [hmm]; split <;> omega
    have hall : ∀ i, i < len → ∃ o : OpC, (∀ j u, o.cells[j]? = some u → W.cell? (b.add (i * 5 + j)) = some u) ∧ BReads W o.A o.v.d.length o.v.d ∧ (o.A = none → o.cap = 0) := by
      intro i hil
      obtain ⟨cs', hc, ht⟩ := hi i (by omega)
      rw [hC5] at hc
      obtain ⟨o, ho, h1, h2⟩ := open_op_cells ht
      obtain ⟨_, hcl, hat⟩ := World.cells?_some hc
      refine ⟨o, fun j u hu => ?_, h1, h2⟩
      have hj5 : j < 5 := by
        rcases Nat.lt_or_ge j 5 with h' | h'
        · exact h'
        · rw [List.getElem?_eq_none (by simpa [OpC.cells] using h')] at hu; cases hu
      have := hat j hj5
      rw [add_of_add] at this
      rw [this, ho]
      exact hu
    obtain ⟨cs, h1, h2⟩ := list_of len hall
    refine ⟨cs.map OpC.v, ⟨cs, ⟨by rw [opXs_length, h1], fun hn => ⟨b, rfl, ?_, fun j u hu => ?_⟩⟩, rfl, fun o ho => ?_⟩, hl, hm⟩
    · have h0 : cs[0]? = some (cs[0]'(by omega)) := List.getElem?_eq_getElem (by omega)
      have := (h2 0 _ h0).1 0 _ rfl
      have := cell_lt this
      rwa [block_of_add] at this
    · have hj : j < cs.length * 5 := by
        rcases Nat.lt_or_ge j (cs.length * 5) with h' | h'
        · exact h'
        · rw [List.getElem?_eq_none (by rw [opXs_length]; exact h')] at hu; cases hu
      have hg : cs[j / 5]? = some (cs[j / 5]'(by omega)) := List.getElem?_eq_getElem (by omega)
      have hx := opXs_at cs (j / 5) _ hg (j % 5) (by omega)
      rw [show j / 5 * 5 + j % 5 = j from by omega, hu] at hx
      have := (h2 _ _ hg).1 (j % 5) u hx.symm
      rwa [show j / 5 * 5 + j % 5 = j from by omega] at this
    · obtain ⟨i, hi1, hi2⟩ := List.getElem_of_mem ho
      exact (h2 i o (by rw [List.getElem?_eq_getElem hi1, hi2])).2
end
end Go.Proofs.Ytpmlipcpohajgaa
