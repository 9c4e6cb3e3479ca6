/-
  Rows that the call makes: an append of whole rows of any width, a []byte of a length.
-/
import Derived.Test.YtleckpoppmecdaaDids
import Derived.Laws.AppendOwn
set_option linter.unusedSimpArgs false
set_option linter.unusedVariables false
namespace Go.Proofs.Ytleckpoppmecdaa
open Go.RowKit

theorem make_bytes_full {P : Program} (w : World) {ops : Array Oper} {rest : List Oper} {o : Oper} {a : Act} {Q : Exit → Act → World → Prop}
    (hg : o.guard = none) (l c : Operand) (t : TypeId) (hop : o.op = Op.makeSlice t l c)
    (base : Nat) (e : TypeId) (hrow : (P.info? e).map (fun i => (i.zero, i.size, i.bytes)) = some (some (.int .u8 0), 1, 1)) (ht : P.underlying t = some (.slice e))
    (kl kc : IntKind) (L C : Int) (n : Nat) (hl : a.eval l = .int kl L) (hc : a.eval c = .int kc C) (hL : L = (n : Int)) (hC : C = (n : Int)) (b2 : n ≤ 281474976710656) (b4 : base ≤ w.heap.size)
    (hK : ∀ w', BOwns w' base e (some ⟨w.heap.size, 0, none⟩) n n (List.replicate n 0) → Below w.heap.size w w' → wpList P ops Q rest (a.put o.dst (.slice (some ⟨w.heap.size, 0, none⟩) n n)) w') :
    wpList P ops Q (o :: rest) a w := by
  obtain ⟨i0, hi, hz0, hz1, hz2⟩ := info_parts hrow
  refine wpList_make_full w hg l c t hop base e i0 (.int .u8 0) 1 ht hi hz0 hz1 kl kc L C n hl hc hL hC (by rw [hz2]; omega) (by unfold maxLen; omega) b4 ?_
  intro w' ho hgr
  have hz : (madeCells (Value.int .u8 0).cells (n * 1)).toList = bys (List.replicate n 0) := by
    rw [Nat.mul_one]
    show (madeCells #[Value.int .u8 0] n).toList = _
    rw [toList_madeCells_one, bys, List.map_replicate]
  rw [hz] at ho
  exact hK w' ⟨ho, (fun z hz => by rw [List.eq_of_mem_replicate hz]; decide), fun h => by cases h⟩ ((Below.refl _ _).grown hgr (Nat.le_refl _) (fun k hk => by cases hk))

theorem append_row {P : Program} (w : World) {ops : Array Oper} {rest : List Oper} {o : Oper} {a : Act} {Q : Exit → Act → World → Prop} (hgd : o.guard = none) (s x : Operand) (t : TypeId)
    (ho : o.op = .call { callee := .builtin .append, args := #[s, x], argTypes := #[t, t] })
    (base : Nat) (e : TypeId) (z : Value) (size bytes : Nat) (hrow : (P.info? e).map (fun i => (i.zero, i.size, i.bytes)) = some (some z, size, bytes)) (ht : P.underlying t = some (.slice e)) (hzs : z.cells.size = size) (hsz : 0 < size)
    (v : Value) (n : Nat) (xs : List Value) (hs : a.eval s = v) (hown : w.ownsRow base e size v n xs)
    (A' : Option Addr) (c : Nat) (news : List Value) (hx : a.eval x = .slice A' 1 c) (hA : A' = none → c = 0) (hr : Reads w size A' 1 news) (h1 : ∀ u ∈ news, u.oneCell' = true)
    (hbd : n + 1 ≤ 140737488355328) (hby : (n + 1) * bytes ≤ 140737488355328) (hbase : base ≤ w.heap.size)
    (h : ∀ g cap2 w', w'.ownsRow base e size (.slice (some ⟨g, 0, none⟩) (n + 1) cap2) (n + 1) (xs ++ news) → Below base w w' → wpList P ops Q rest (a.put o.dst (.slice (some ⟨g, 0, none⟩) (n + 1) cap2)) w') : wpList P ops Q (o :: rest) a w := by
  obtain ⟨i0, hi, hz0, hz1, hz2⟩ := info_parts hrow
  refine wpList_append_reads w hgd s x t ho base e i0 z size bytes ht hi hz0 hz1 hz2 hzs hsz _ n xs hs hown A' 1 c news hx hA hr h1 (by unfold maxLen; omega) hby hbase ?_
  intro v' w' ho' hg hiff
  have hb : Below base w w' := (Below.refl _ _).grown hg hbase (fun k hk => (hown.lt k hk).1)
  obtain ⟨g, c2, hv, _, _⟩ := ho'.form (by omega)
  subst hv
  exact h g c2 w' ho' hb

end Go.Proofs.Ytleckpoppmecdaa
