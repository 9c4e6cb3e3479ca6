/-
  Rows of operations: what the call owns, what reads; an append.
-/
import Derived.Test.YtpmlipcpohajgaaOp
set_option linter.unusedSimpArgs false
set_option linter.unusedVariables false
namespace Go.Proofs.Ytpmlipcpohajgaa
open Go.RowKit

theorem Try.info33 : (Try.prog.info? 33).map (fun i => (i.zero, i.size, i.bytes)) = some (some (.agg #[.int .i64 0, .int .i64 0, .int .i64 0, .int .i64 0, .slice none 0 0]), 5, 56) := by kernel_rfl
theorem add_at' (g k : Nat) : (⟨g, 0, none⟩ : Addr).add k = ⟨g, k, none⟩ := by
  cases k <;> simp [Addr.add]

/-- An operation and where its data lie. -/
structure OpC where
  v : OpV
  A : Option Addr
  cap : Nat
def OpC.cells (o : OpC) : List Value := [.int .i64 o.v.k, .int .i64 o.v.c, .int .i64 o.v.n, .int .i64 o.v.m, .slice o.A o.v.d.length o.cap]
def opXs (cs : List OpC) : List Value := cs.flatMap OpC.cells
theorem opXs_append (a b : List OpC) : opXs (a ++ b) = opXs a ++ opXs b := by simp [opXs]
theorem opXs_one (o : OpC) : opXs [o] = o.cells := by simp [opXs]
theorem opXs_length (cs : List OpC) : (opXs cs).length = cs.length * 5 := by
  induction cs with
  | nil => rfl
  | cons c cs ih => simp only [opXs, List.flatMap_cons, List.length_append] at *; rw [ih]; simp [OpC.cells]; omega
theorem opXs_at (cs : List OpC) (i : Nat) (o : OpC) (h : cs[i]? = some o) (k : Nat) (hk : k < 5) : (opXs cs)[i * 5 + k]? = o.cells[k]? := by
  induction cs generalizing i with
  | nil => simp at h
  | cons c cs ih =>
    have hc : c.cells.length = 5 := rfl
    match i, h with
    | 0, h =>
      simp at h
      subst h
      simp only [opXs, List.flatMap_cons]
      rw [List.getElem?_append_left (by omega)]
      simp
    | i + 1, h =>
      simp only [opXs, List.flatMap_cons]
      rw [List.getElem?_append_right (by omega), show (i + 1) * 5 + k - c.cells.length = i * 5 + k from by rw [hc]; omega]
      exact ih i (by simpa using h)

/-- The slice is the call's own and holds these operations, whose data are its own, too. -/
def OOwns (w : World) (base : Nat) (A : Option Addr) (n cap : Nat) (l : List OpV) : Prop :=
  (A = none → cap = 0) ∧ ∃ cs : List OpC, w.ownsRow base 33 5 (.slice A n cap) n (opXs cs) ∧ cs.map OpC.v = l ∧ ∀ o ∈ cs, BOwns w base 5 o.A o.v.d.length o.cap o.v.d
/-- The slice reads as these operations. -/
def OReads (w : World) (A : Option Addr) (n : Nat) (l : List OpV) : Prop :=
  ∃ cs : List OpC, Reads w 5 A n (opXs cs) ∧ cs.map OpC.v = l ∧ ∀ o ∈ cs, BReads w o.A o.v.d.length o.v.d ∧ (o.A = none → o.cap = 0)

section
variable {w w' : World} {base : Nat} {A : Option Addr} {n cap : Nat} {l : List OpV}
theorem OOwns.nil (w : World) (base : Nat) : OOwns w base none 0 0 [] := ⟨fun _ => rfl, [], World.ownsRow_nil _ _ _ _, rfl, fun o h => by cases h⟩
theorem OOwns.length (h : OOwns w base A n cap l) : l.length = n := by
  obtain ⟨_, cs, h1, rfl, _⟩ := h
  have := h1.1
  rw [opXs_length] at this
  rw [List.length_map]
  omega
theorem OOwns.below (h : OOwns w base A n cap l) (hb : Below w.heap.size w w') : OOwns w' base A n cap l := by
  obtain ⟨h0, cs, h1, h2, h3⟩ := h
  exact ⟨h0, cs, own_below h1 hb, h2, fun o ho => (h3 o ho).below hb⟩
theorem OOwns.alloc (h : OOwns w base A n cap l) (o : Obj) : OOwns (w.alloc o) base A n cap l := h.below ((Below.refl _ _).alloc (Nat.le_refl _) _)
theorem OOwns.only {g : Nat} (h : OOwns w base A n cap l) (ho : w.grownBy w' (some g)) (hg : g < base) : OOwns w' base A n cap l := by
  obtain ⟨h0, cs, h1, h2, h3⟩ := h
  refine ⟨h0, cs, h1.kept ho ?_, h2, fun o hm => (h3 o hm).only ho hg⟩
  rcases hv : (Value.slice A n cap).ownBlock with _ | b
  · exact .inl rfl
  · refine .inr (fun e => ?_)
    injection e with e
    have := (h1.lt b hv).1
    omega
theorem OOwns.more {base' : Nat} (h : OOwns w base A n cap l) (hb : base' ≤ base) : OOwns w base' A n cap l := by
  obtain ⟨h0, cs, h1, h2, h3⟩ := h
  refine ⟨h0, cs, ⟨h1.1, ?_⟩, h2, fun o hm => (h3 o hm).more hb⟩
  rcases h1.2 with hh | ⟨g, c, cur, q1, q2, q3⟩
  · exact .inl hh
  · exact .inr ⟨g, c, cur, q1, by omega, q3⟩
theorem OOwns.reads (h : OOwns w base A n cap l) : OReads w A n l := by
  obtain ⟨h0, cs, h1, h2, h3⟩ := h
  exact ⟨cs, Reads.of_own h1, h2, fun o ho => ⟨(h3 o ho).reads, (h3 o ho).2.2⟩⟩
theorem OReads.length (h : OReads w A n l) : l.length = n := by
  obtain ⟨cs, h1, rfl, _⟩ := h
  have := h1.1
  rw [opXs_length] at this
  rw [List.length_map]
  omega
theorem OReads.below (h : OReads w A n l) (hb : Below w.heap.size w w') : OReads w' A n l := by
  obtain ⟨cs, h1, h2, h3⟩ := h
  exact ⟨cs, h1.below hb, h2, fun o ho => ⟨(h3 o ho).1.below hb, (h3 o ho).2⟩⟩
theorem OReads.nil (w : World) : OReads w none 0 [] := ⟨[], Reads.none_, rfl, fun o h => by cases h⟩
/-- The cells of an operation of the row. -/
theorem OReads.at_ (h : OReads w A n l) {k : Nat} (hk : k < n) : ∃ (ad : Addr) (v : OpV) (D : Option Addr) (dc : Nat), A = some ad ∧ l[k]? = some v ∧
    w.cell? (ad.add (k * 5)) = some (.int .i64 v.k) ∧ w.cell? (ad.add (k * 5 + 1)) = some (.int .i64 v.c) ∧ w.cell? (ad.add (k * 5 + 2)) = some (.int .i64 v.n) ∧ w.cell? (ad.add (k * 5 + 3)) = some (.int .i64 v.m) ∧
    w.cell? (ad.add (k * 5 + 4)) = some (.slice D v.d.length dc) ∧ BReads w D v.d.length v.d ∧ (D = none → dc = 0) := by
  have hl := h.length
  obtain ⟨cs, h1, rfl, h3⟩ := h
  rw [List.length_map] at hl
  obtain ⟨ad, e, _, hc⟩ := h1.2 (by omega)
  have hg : cs[k]? = some (cs[k]'(by omega)) := List.getElem?_eq_getElem (by omega)
  have hm := h3 (cs[k]'(by omega)) (List.getElem_mem _)
  have hx := opXs_at cs k _ hg
  exact ⟨ad, (cs[k]'(by omega)).v, _, _, e, by rw [List.getElem?_map, hg]; rfl, hc _ _ ((hx 0 (by omega)).trans rfl), hc _ _ ((hx 1 (by omega)).trans rfl), hc _ _ ((hx 2 (by omega)).trans rfl), hc _ _ ((hx 3 (by omega)).trans rfl), hc _ _ ((hx 4 (by omega)).trans rfl), hm.1, hm.2⟩
end

/-- What is owned of another element's type stays when a row grows. -/
theorem BOwns.row_grown {w w' : World} {base b2 : Nat} {e2 : TypeId} {size n2 : Nat} {v : Value} {xs2 : List Value} {A : Option Addr} {n cap : Nat} {xs : List Int} (h : BOwns w base 5 A n cap xs) (hrow : w.ownsRow b2 e2 size v n2 xs2) (hne : e2 ≠ 5) (hg : w.grownBy w' v.ownBlock) : BOwns w' base 5 A n cap xs := by
  refine ⟨h.1.kept hg ?_, h.2⟩
  rcases hv : (Value.slice A n cap).ownBlock with _ | b
  · exact .inl rfl
  · refine .inr (fun e => ?_)
    rcases h.1.2 with ⟨h0, _⟩ | ⟨g, c, cur, h1, _, h3, _⟩
    · rw [h0] at hv; simp [Value.ownBlock] at hv
    · rcases hrow.2 with ⟨h0, _⟩ | ⟨g', c', cur', h1', _, h3', _⟩
      · rw [h0] at e; simp [Value.ownBlock] at e
      · rw [h1] at hv; rw [h1'] at e
        have hgb : g = b := by simpa [Value.ownBlock] using hv
        have hgb' : b = g' := by simpa [Value.ownBlock] using e
        subst hgb; subst hgb'
        rw [h3] at h3'
        injection h3' with h3'
        injection h3' with _ ht
        exact hne ht.symm

theorem append_op (w : World) {ops : Array Oper} {rest : List Oper} {o : Oper} {a : Act} {Q : Exit → Act → World → Prop} (hgd : o.guard = none) (s x : Operand)
    (ho : o.op = .call { callee := .builtin .append, args := #[s, x], argTypes := #[24, 24] })
    (base : Nat) (A : Option Addr) (n cap : Nat) (l : List OpV) (hs : a.eval s = .slice A n cap) (hown : OOwns w base A n cap l)
    (gl c : Nat) (oc : OpC) (hx : a.eval x = .slice (some ⟨gl, 0, none⟩) 1 c) (hcells : ∀ j u, oc.cells[j]? = some u → w.cell? ⟨gl, j, none⟩ = some u) (hgl : gl < w.heap.size)
    (hoc : BOwns w base 5 oc.A oc.v.d.length oc.cap oc.v.d) (hn : n ≤ 1000000) (hbase : base ≤ w.heap.size)
    (h : ∀ A2 cap2 w', OOwns w' base A2 (n + 1) cap2 (l ++ [oc.v]) → Below base w w' → wpList Try.prog ops Q rest (a.put o.dst (.slice A2 (n + 1) cap2)) w') : wpList Try.prog ops Q (o :: rest) a w := by
  obtain ⟨i0, hi, hz0, hz1, hz2⟩ := info_parts Try.info33
  obtain ⟨h0, cs, h1, h2, h3⟩ := hown
  refine wpList_append_reads w hgd s x 24 ho base 33 i0 _ 5 56 Try.underlying24 hi hz0 hz1 hz2 rfl (by decide) _ n (opXs cs) hs h1 (some ⟨gl, 0, none⟩) 1 c (opXs [oc]) hx (fun h => by cases h) ⟨by rw [opXs_length]; rfl, fun _ => ⟨_, rfl, hgl, fun j u hu => ?_⟩⟩ ?_ (by unfold maxLen; omega) (by omega) hbase ?_
  · rw [add_at']
    rw [opXs_one] at hu
    exact hcells j u hu
  · intro u hu
    rw [opXs_one] at hu
    simp [OpC.cells] at hu
    rcases hu with rfl | rfl | rfl | rfl | rfl <;> rfl
  · intro v' w' ho' hg _
    have hb : Below base w w' := (Below.refl _ _).grown hg hbase (fun k hk => (h1.lt k hk).1)
    rw [← opXs_append] at ho'
    obtain ⟨g, c2, hv, _, _⟩ := ho'.form (by omega)
    subst hv
    refine h _ c2 w' ⟨(fun h => by cases h), cs ++ [oc], ho', by rw [List.map_append, h2]; rfl, fun o hm => ?_⟩ hb
    rw [List.mem_append, List.mem_singleton] at hm
    rcases hm with hm | rfl
    · exact (h3 o hm).row_grown h1 (by decide) hg
    · exact hoc.row_grown h1 (by decide) hg

end Go.Proofs.Ytpmlipcpohajgaa
