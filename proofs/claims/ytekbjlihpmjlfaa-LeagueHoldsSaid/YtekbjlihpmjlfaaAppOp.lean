/-
  'append(b, src...)' over bytes at one operation: src nil, empty or not.
-/
import Derived.Test.YtekbjlihpmjlfaaXOwn
set_option linter.unusedSimpArgs false
set_option linter.unusedVariables false
namespace Go.Proofs.Ytekbjlihpmjlfaa
open Go.RowKit

theorem append_bytes_op {P : Program} {w : World} {o : Oper} {a : Act} {K : Act → World → Prop} {Q : Exit → Act → World → Prop} (s x : Operand) (t : TypeId)
    (ho : o.op = .call { callee := .builtin .append, args := #[s, x], argTypes := #[t, t] })
    (base : Nat) (e : TypeId) (hrow : (P.info? e).map (fun i => (i.zero, i.size, i.bytes)) = some (some (.int .u8 0), 1, 1)) (ht : P.underlying t = some (.slice e))
    (A : Option Addr) (n cap : Nat) (xs : List Int) (hs : a.eval s = .slice A n cap) (hown : BOwns w base e A n cap xs)
    (A' : Option Addr) (m c : Nat) (ys : List Int) (hx : a.eval x = .slice A' m c) (hA : A' = none → c = 0) (hr : BReads w A' m ys)
    (hbd : n + m ≤ 140737488355328) (hbase : base ≤ w.heap.size)
    (h : ∀ A2 cap2 w', BOwns w' base e A2 (n + m) cap2 (xs ++ ys) → Below base w w' → K (a.put o.dst (.slice A2 (n + m) cap2)) w') : o.wp P a w K Q := by
  obtain ⟨i0, hi, hz0, hz1, hz2⟩ := info_parts hrow
  cases A' with
  | none =>
    have hc := hA rfl
    subst hc
    have hm : m = 0 := by
      rcases Nat.eq_zero_or_pos m with h0 | h0
      · exact h0
      · obtain ⟨ad, e, _⟩ := hr.1.2 h0
        cases e
    subst hm
    have hn : ys = [] := List.eq_nil_of_length_eq_zero hr.length
    subst hn
    have hrun := run_append_owned_none (P := P) (w := w) base t o.type e i0 1 ht hi (.slice A n cap) n (bys xs) hown.1
    unfold Oper.wp
    simp [execOp, ho, resolve, invoke, builtin, hs, hx, hrun, Result.andThen]
    have := h A cap w (by simpa using hown) (Below.refl _ _)
    rw [Nat.add_zero] at this
    exact this
  | some ad =>
    have hc : ∀ j u, (bys ys)[j]? = some u → w.cell? (ad.add j) = some u := by
      intro j u hj
      have hm : 0 < m := by
        rcases Nat.eq_zero_or_pos m with h0 | h0
        · subst h0
          have hn : ys = [] := List.eq_nil_of_length_eq_zero hr.length
          subst hn
          simp [bys] at hj
        · exact h0
      obtain ⟨ad', e', _, hc⟩ := hr.1.2 hm
      injection e' with e'
      subst e'
      exact hc j u hj
    refine wp_append_own w s x t ho base e i0 (.int .u8 0) 1 1 ht hi hz0 hz1 hz2 rfl (by decide) _ n (bys xs) hs hown.1 ad m c (bys ys) hx hr.1.1 hc (bys_one _) (by unfold maxLen; omega) (by omega) hbase ?_
    intro v' w' ho' hg hiff
    have hb : Below base w w' := (Below.refl _ _).grown hg hbase (fun k hk => (hown.1.lt k hk).1)
    have hbs : IsBytes (xs ++ ys) := fun z hz => by
      rcases List.mem_append.1 hz with hz | hz
      · exact hown.2.1 z hz
      · exact hr.2 z hz
    have hm : bys xs ++ bys ys = bys (xs ++ ys) := by simp [bys]
    rw [hm] at ho'
    rcases ho'.2 with ⟨hv, hn⟩ | ⟨g, c2, cur, hv, h2⟩
    · subst hv
      have := h none 0 w' (by rw [hn]; rw [hn] at ho'; exact ⟨ho', hbs, fun _ => rfl⟩) hb
      rw [hn] at this
      exact this
    · subst hv
      exact h _ c2 w' ⟨ho', hbs, fun h => by cases h⟩ hb

/-- 'append(x, src...)' over any elements at one operation: src nil, empty or not. -/
theorem append_xr_op {P : Program} {w : World} {o : Oper} {a : Act} {K : Act → World → Prop} {Q : Exit → Act → World → Prop} (s x : Operand) (t : TypeId)
    (ho : o.op = .call { callee := .builtin .append, args := #[s, x], argTypes := #[t, t] })
    (base : Nat) (e : TypeId) (z : Value) (size bytes : Nat) (hrow : (P.info? e).map (fun i => (i.zero, i.size, i.bytes)) = some (some z, size, bytes)) (ht : P.underlying t = some (.slice e)) (hzs : z.cells.size = size) (hsz : 0 < size)
    (A : Option Addr) (n cap : Nat) (xs : List Value) (hs : a.eval s = .slice A n cap) (hown : XOwns w base e size A n cap xs)
    (A' : Option Addr) (m c : Nat) (news : List Value) (hx : a.eval x = .slice A' m c) (hA : A' = none → c = 0) (hr : Reads w size A' m news) (h1 : ∀ u ∈ news, u.oneCell' = true)
    (hbd : (n + m) * bytes ≤ 140737488355328) (hbd2 : n + m ≤ 140737488355328) (hbase : base ≤ w.heap.size)
    (h : ∀ A2 cap2 w', XOwns w' base e size A2 (n + m) cap2 (xs ++ news) → Below base w w' → K (a.put o.dst (.slice A2 (n + m) cap2)) w') : o.wp P a w K Q := by
  obtain ⟨i0, hi, hz0, hz1, hz2⟩ := info_parts hrow
  cases A' with
  | none =>
    have hc := hA rfl
    subst hc
    have hm : m = 0 := by
      rcases Nat.eq_zero_or_pos m with h0 | h0
      · exact h0
      · obtain ⟨ad, e, _⟩ := hr.2 h0
        cases e
    subst hm
    have hn : news = [] := List.eq_nil_of_length_eq_zero (by rw [hr.1]; simp)
    subst hn
    have hrun := run_append_owned_none (P := P) (w := w) base t o.type e i0 size ht hi (.slice A n cap) n xs hown.1
    unfold Oper.wp
    simp [execOp, ho, resolve, invoke, builtin, hs, hx, hrun, Result.andThen]
    have := h A cap w (by simpa using hown) (Below.refl _ _)
    rw [Nat.add_zero] at this
    exact this
  | some ad =>
    have hc : ∀ j u, news[j]? = some u → w.cell? (ad.add j) = some u := by
      intro j u hj
      have hm : 0 < m := by
        rcases Nat.eq_zero_or_pos m with h0 | h0
        · subst h0
          have hn : news = [] := List.eq_nil_of_length_eq_zero (by rw [hr.1]; simp)
          subst hn
          simp at hj
        · exact h0
      obtain ⟨ad', e', _, hc⟩ := hr.2 hm
      injection e' with e'
      subst e'
      exact hc j u hj
    refine wp_append_own w s x t ho base e i0 z size bytes ht hi hz0 hz1 hz2 hzs hsz _ n xs hs hown.1 ad m c news hx hr.1 hc h1 (by unfold maxLen; omega) hbd hbase ?_
    intro v' w' ho' hg hiff
    have hb : Below base w w' := (Below.refl _ _).grown hg hbase (fun k hk => (hown.1.lt k hk).1)
    rcases ho'.2 with ⟨hv, hn⟩ | ⟨g, c2, cur, hv, h2⟩
    · subst hv
      have := h none 0 w' (by rw [hn]; rw [hn] at ho'; exact ⟨ho', fun _ => rfl⟩) hb
      rw [hn] at this
      exact this
    · subst hv
      exact h _ c2 w' ⟨ho', fun h => by cases h⟩ hb
theorem append_xr {P : Program} {w : World} {ops : Array Oper} {rest : List Oper} {o : Oper} {a : Act} {Q : Exit → Act → World → Prop} (hgd : o.guard = none) (s x : Operand) (t : TypeId)
    (ho : o.op = .call { callee := .builtin .append, args := #[s, x], argTypes := #[t, t] })
    (base : Nat) (e : TypeId) (z : Value) (size bytes : Nat) (hrow : (P.info? e).map (fun i => (i.zero, i.size, i.bytes)) = some (some z, size, bytes)) (ht : P.underlying t = some (.slice e)) (hzs : z.cells.size = size) (hsz : 0 < size)
    (A : Option Addr) (n cap : Nat) (xs : List Value) (hs : a.eval s = .slice A n cap) (hown : XOwns w base e size A n cap xs)
    (A' : Option Addr) (m c : Nat) (news : List Value) (hx : a.eval x = .slice A' m c) (hA : A' = none → c = 0) (hr : Reads w size A' m news) (h1 : ∀ u ∈ news, u.oneCell' = true)
    (hbd : (n + m) * bytes ≤ 140737488355328) (hbd2 : n + m ≤ 140737488355328) (hbase : base ≤ w.heap.size)
    (h : ∀ A2 cap2 w', XOwns w' base e size A2 (n + m) cap2 (xs ++ news) → Below base w w' → wpList P ops Q rest (a.put o.dst (.slice A2 (n + m) cap2)) w') : wpList P ops Q (o :: rest) a w :=
  wpList_plain hgd fun _ hK => append_xr_op s x t ho base e z size bytes hrow ht hzs hsz A n cap xs hs hown A' m c news hx hA hr h1 hbd hbd2 hbase fun A2 c2 w' h2 h3 => hK _ _ (h A2 c2 w' h2 h3)
end Go.Proofs.Ytekbjlihpmjlfaa
