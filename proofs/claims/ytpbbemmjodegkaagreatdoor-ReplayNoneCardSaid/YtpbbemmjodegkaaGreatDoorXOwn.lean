/-
  A slice of the call's own, of whatever elements; what is appended to it.
-/
import Derived.Test.YtpbbemmjodegkaaGreatDoorOwn
import Derived.Test.YtpbbemmjodegkaaGreatDoorBlk
import Derived.Laws.AppendOwnNone
set_option linter.unusedSimpArgs false
set_option linter.unusedVariables false
namespace Go.Proofs.YtpbbemmjodegkaaGreatDoor
open Go.RowKit

/-- A slice of the call's own. -/
def XOwns (w : World) (base : Nat) (e : TypeId) (size : Nat) (A : Option Addr) (n cap : Nat) (xs : List Value) : Prop := w.ownsRow base e size (.slice A n cap) n xs ∧ (A = none → cap = 0)
section
variable {w w' : World} {base base' : Nat} {e e' : TypeId} {size size' : Nat} {A A' : Option Addr} {n n' cap cap' : Nat} {xs xs' : List Value} {r : Option Nat}
theorem XOwns.blk (h : XOwns w base e size A n cap xs) : blkOf A = none ∨ ∃ g cur, blkOf A = some g ∧ base ≤ g ∧ w.heap[g]? = some (.cells cur e (0, 0)) := by
  rcases h.1.2 with ⟨h0, _⟩ | ⟨g, c, cur, h1, h2, h3, _⟩
  · injection h0 with h0
    exact .inl (by rw [h0]; rfl)
  · injection h1 with h1
    exact .inr ⟨g, cur, by rw [h1]; rfl, h2, h3⟩
/-- Two rows of different elements lie apart. -/
theorem XOwns.apart (h : XOwns w base e size A n cap xs) (h' : XOwns w base' e' size' A' n' cap' xs') (hne : e ≠ e') : blkOf A = none ∨ blkOf A ≠ blkOf A' := by
  rcases h.blk with h0 | ⟨g, cur, h1, _, h2⟩
  · exact .inl h0
  · refine .inr fun he => ?_
    rw [h1] at he
    rcases h'.blk with h0 | ⟨g', cur', h1', _, h2'⟩
    · rw [h0] at he; cases he
    · rw [h1'] at he
      injection he with he
      subst he
      rw [h2] at h2'
      injection h2' with h2'
      injection h2' with _ h2'
      exact hne h2'
theorem XOwns.apart_blk {p : Nat} {t : TypeId} {cs : Array Value} (h : XOwns w base e size A n cap xs) (hb : Blk w p t cs) (hne : e ≠ t) : blkOf A ≠ some p := by
  intro he
  rcases h.blk with h0 | ⟨g, cur, h1, _, h2⟩
  · rw [h0] at he; cases he
  · rw [h1] at he
    injection he with he
    subst he
    unfold Blk at hb
    rw [h2] at hb
    injection hb with hb
    injection hb with _ hb
    exact hne hb
theorem XOwns.grown (h : XOwns w base e size A n cap xs) (hg : w.grownBy w' r) (hne : blkOf A = none ∨ blkOf A ≠ r) : XOwns w' base e size A n cap xs := ⟨h.1.kept hg (by rw [blkOf_own]; exact hne), h.2⟩
theorem XOwns.below (h : XOwns w base e size A n cap xs) (hb : Below w.heap.size w w') : XOwns w' base e size A n cap xs := ⟨own_below h.1 hb, h.2⟩
theorem XOwns.put {p : Nat} {i : Nat} {u : Value} (h : XOwns w base e size A n cap xs) (hne : blkOf A ≠ some p) : XOwns (w.setCell ⟨p, i, none⟩ u) base e size A n cap xs := h.grown (only_setCell (only_refl _ _) (.inl rfl) _) (.inr hne)
theorem XOwns.lt (h : XOwns w base e size A n cap xs) : ∀ g, blkOf A = some g → base ≤ g ∧ g < w.heap.size := fun g hg => h.1.lt g (by rw [blkOf_own]; exact hg)
theorem XOwns.len (h : XOwns w base e size A n cap xs) : xs.length = n * size := h.1.1
theorem XOwns.reads (h : XOwns w base e size A n cap xs) : Reads w size A n xs := Reads.of_own h.1
end
theorem BOwns.x {w : World} {base : Nat} {e : TypeId} {A : Option Addr} {n cap : Nat} {xs : List Int} (h : BOwns w base e A n cap xs) : XOwns w base e 1 A n cap (bys xs) := ⟨h.1, h.2.2⟩
theorem XOwns.b {w : World} {base : Nat} {e : TypeId} {A : Option Addr} {n cap : Nat} {xs : List Int} (h : XOwns w base e 1 A n cap (bys xs)) (hb : IsBytes xs) : BOwns w base e A n cap xs := ⟨h.1, hb, h.2⟩


/-- 'append(s, src...)', src not empty, at one operation. -/
theorem append_x_op {P : Program} {w : World} {o : Oper} {a : Act} {K : Act → World → Prop} {Q : Exit → Act → World → Prop} (s x : Operand) (t : TypeId)
    (ho : o.op = .call { callee := .builtin .append, args := #[s, x], argTypes := #[t, t] })
    (base : Nat) (e : TypeId) (z : Value) (size bytes : Nat) (hrow : (P.info? e).map (fun i => (i.zero, i.size, i.bytes)) = some (some z, size, bytes)) (ht : P.underlying t = some (.slice e)) (hzs : z.cells.size = size) (hsz : 0 < size)
    (A : Option Addr) (n cap : Nat) (xs : List Value) (hs : a.eval s = .slice A n cap) (hown : XOwns w base e size A n cap xs)
    (A' : Option Addr) (m c : Nat) (news : List Value) (hx : a.eval x = .slice A' m c) (hr : Reads w size A' m news) (h1 : ∀ u ∈ news, u.oneCell' = true) (hm : 0 < m)
    (hbd : (n + m) * bytes ≤ 140737488355328) (hbd2 : n + m ≤ 140737488355328) (hbase : base ≤ w.heap.size) (H : Nat) (hH : w.heap.size = H)
    (h : ∀ g cap2 w', XOwns w' base e size (some ⟨g, 0, none⟩) (n + m) cap2 (xs ++ news) → w.grownBy w' (blkOf A) → (blkOf A = some g ∨ g = H) → g < w'.heap.size → K (a.put o.dst (.slice (some ⟨g, 0, none⟩) (n + m) cap2)) w') : o.wp P a w K Q := by
  obtain ⟨i0, hi, hz0, hz1, hz2⟩ := info_parts hrow
  obtain ⟨ad, rfl, hb, hc⟩ := hr.2 hm
  refine wp_append_lies w s x t ho base e i0 z size bytes ht hi hz0 hz1 hz2 hzs hsz _ n xs hs hown.1 ad m c news hx hr.1 hc h1 hm (by unfold maxLen; omega) hbd hbase H hH ?_
  intro g cap2 w' ho' hg hiff hlt
  rw [blkOf_own] at hg hiff
  exact h g cap2 w' ⟨ho', fun h => by cases h⟩ hg hiff hlt
/-- The same at a plain region's list. -/
theorem append_x {P : Program} {w : World} {ops : Array Oper} {rest : List Oper} {o : Oper} {a : Act} {Q : Exit → Act → World → Prop} (hgd : o.guard = none) (s x : Operand) (t : TypeId)
    (ho : o.op = .call { callee := .builtin .append, args := #[s, x], argTypes := #[t, t] })
    (base : Nat) (e : TypeId) (z : Value) (size bytes : Nat) (hrow : (P.info? e).map (fun i => (i.zero, i.size, i.bytes)) = some (some z, size, bytes)) (ht : P.underlying t = some (.slice e)) (hzs : z.cells.size = size) (hsz : 0 < size)
    (A : Option Addr) (n cap : Nat) (xs : List Value) (hs : a.eval s = .slice A n cap) (hown : XOwns w base e size A n cap xs)
    (A' : Option Addr) (m c : Nat) (news : List Value) (hx : a.eval x = .slice A' m c) (hr : Reads w size A' m news) (h1 : ∀ u ∈ news, u.oneCell' = true) (hm : 0 < m)
    (hbd : (n + m) * bytes ≤ 140737488355328) (hbd2 : n + m ≤ 140737488355328) (hbase : base ≤ w.heap.size) (H : Nat) (hH : w.heap.size = H)
    (h : ∀ g cap2 w', XOwns w' base e size (some ⟨g, 0, none⟩) (n + m) cap2 (xs ++ news) → w.grownBy w' (blkOf A) → (blkOf A = some g ∨ g = H) → g < w'.heap.size → wpList P ops Q rest (a.put o.dst (.slice (some ⟨g, 0, none⟩) (n + m) cap2)) w') : wpList P ops Q (o :: rest) a w :=
  wpList_plain hgd fun _ hK => append_x_op s x t ho base e z size bytes hrow ht hzs hsz A n cap xs hs hown A' m c news hx hr h1 hm hbd hbd2 hbase H hH fun g cap2 w' h2 h3 h4 h5 => hK _ _ (h g cap2 w' h2 h3 h4 h5)
/-- 'append([]E(nil), src...)': a copy. -/
theorem append_nil_op {P : Program} {w : World} {o : Oper} {a : Act} {K : Act → World → Prop} {Q : Exit → Act → World → Prop} (s x : Operand) (t : TypeId)
    (ho : o.op = .call { callee := .builtin .append, args := #[s, x], argTypes := #[t, t] })
    (e : TypeId) (z : Value) (size bytes : Nat) (hrow : (P.info? e).map (fun i => (i.zero, i.size, i.bytes)) = some (some z, size, bytes)) (ht : P.underlying t = some (.slice e)) (hzs : z.cells.size = size) (hsz : 0 < size)
    (hs : a.eval s = .slice none 0 0) (A : Option Addr) (m c : Nat) (news : List Value) (hx : a.eval x = .slice A m c) (hA : A = none → c = 0) (hr : Reads w size A m news) (h1 : ∀ u ∈ news, u.oneCell' = true)
    (hbd : m * bytes ≤ 140737488355328) (hbd2 : m ≤ 140737488355328)
    (h : ∀ A2 c2 w', XOwns w' w.heap.size e size A2 m c2 news → Below w.heap.size w w' → K (a.put o.dst (.slice A2 m c2)) w') : o.wp P a w K Q := by
  obtain ⟨i0, hi, hz0, hz1, hz2⟩ := info_parts hrow
  cases A with
  | none =>
    have hc := hA rfl
    subst hc
    have hm : m = 0 := by
      rcases Nat.eq_zero_or_pos m with h0 | h0
      · exact h0
      · obtain ⟨ad, e, _⟩ := hr.2 h0
        cases e
    subst hm
    have hn : news = [] := List.eq_nil_of_length_eq_zero (by rw [hr.1]; simp)
    subst hn
    have hrun := run_append_owned_none (P := P) (w := w) w.heap.size t o.type e i0 size ht hi (.slice none 0 0) 0 [] (World.ownsRow_nil _ _ _ _)
    unfold Oper.wp
    simp [execOp, ho, resolve, invoke, builtin, hs, hx, hrun, Result.andThen]
    exact h none 0 w ⟨World.ownsRow_nil _ _ _ _, fun _ => rfl⟩ (Below.refl _ _)
  | some ad =>
    have hc : ∀ j u, news[j]? = some u → w.cell? (ad.add j) = some u := by
      intro j u hj
      have hm : 0 < m := by
        rcases Nat.eq_zero_or_pos m with h0 | h0
        · subst h0
          have hn : news = [] := List.eq_nil_of_length_eq_zero (by rw [hr.1]; simp)
          subst hn
          simp at hj
        · exact h0
      obtain ⟨ad', e', _, hc⟩ := hr.2 hm
      injection e' with e'
      subst e'
      exact hc j u hj
    refine wp_append_own w s x t ho w.heap.size e i0 z size bytes ht hi hz0 hz1 hz2 hzs hsz (.slice none 0 0) 0 [] hs (World.ownsRow_nil _ _ _ _) ad m c news hx hr.1 hc h1 (by unfold maxLen; omega) (by simpa using hbd) (Nat.le_refl _) ?_
    intro v' w' h2 hg _
    rw [Nat.zero_add, List.nil_append] at h2
    have hb : Below w.heap.size w w' := (Below.refl _ _).grown hg (Nat.le_refl _) (fun k hk => by cases hk)
    rcases h2.2 with ⟨h0, h00⟩ | ⟨g, cap, cur, h0, _⟩
    · subst h0
      subst h00
      exact h none 0 w' ⟨h2, fun _ => rfl⟩ hb
    · subst h0
      exact h _ cap w' ⟨h2, fun h => by cases h⟩ hb
theorem append_nil {P : Program} {w : World} {ops : Array Oper} {rest : List Oper} {o : Oper} {a : Act} {Q : Exit → Act → World → Prop} (hgd : o.guard = none) (s x : Operand) (t : TypeId)
    (ho : o.op = .call { callee := .builtin .append, args := #[s, x], argTypes := #[t, t] })
    (e : TypeId) (z : Value) (size bytes : Nat) (hrow : (P.info? e).map (fun i => (i.zero, i.size, i.bytes)) = some (some z, size, bytes)) (ht : P.underlying t = some (.slice e)) (hzs : z.cells.size = size) (hsz : 0 < size)
    (hs : a.eval s = .slice none 0 0) (A : Option Addr) (m c : Nat) (news : List Value) (hx : a.eval x = .slice A m c) (hA : A = none → c = 0) (hr : Reads w size A m news) (h1 : ∀ u ∈ news, u.oneCell' = true)
    (hbd : m * bytes ≤ 140737488355328) (hbd2 : m ≤ 140737488355328)
    (h : ∀ A2 c2 w', XOwns w' w.heap.size e size A2 m c2 news → Below w.heap.size w w' → wpList P ops Q rest (a.put o.dst (.slice A2 m c2)) w') : wpList P ops Q (o :: rest) a w :=
  wpList_plain hgd fun _ hK => append_nil_op s x t ho e z size bytes hrow ht hzs hsz hs A m c news hx hA hr h1 hbd hbd2 fun A2 c2 w' h2 h3 => hK _ _ (h A2 c2 w' h2 h3)
theorem reads_block {w : World} {g : Nat} {t : TypeId} {cs : Array Value} (h : Blk w g t cs) (size n : Nat) (hn : cs.size = n * size) : Reads w size (some ⟨g, 0, none⟩) n cs.toList :=
  ⟨by simpa using hn, fun _ => ⟨_, rfl, h.lt, fun j u hu => by
    have e : (⟨g, 0, none⟩ : Addr).add j = ⟨g, j, none⟩ := by unfold Addr.add; split <;> simp_all
    rw [e, h.at_]
    simpa using hu⟩⟩
end Go.Proofs.YtpbbemmjodegkaaGreatDoor
