/-
  Texts: XOwn, OnlyF, Cd.
-/
import Derived.Test.YtpbbemmjodegkaaDoorXk1
import Derived.Laws.AppendOwnNone
import Derived.IntWalk
set_option linter.unusedSimpArgs false
set_option linter.unusedVariables false
namespace Go.Proofs.YtpbbemmjodegkaaDoor
open Go.RowKit

def XOwns (w : World) (base : Nat) (e : TypeId) (size : Nat) (A : Option Addr) (n cap : Nat) (xs : List Value) : Prop := w.ownsRow base e size (.slice A n cap) n xs ∧ (A = none → cap = 0)
section
variable {w w' : World} {base base' : Nat} {e e' : TypeId} {size size' : Nat} {A A' : Option Addr} {n n' cap cap' : Nat} {xs xs' : List Value} {r : Option Nat}
theorem XOwns.blk (h : XOwns w base e size A n cap xs) : blkOf A = none ∨ ∃ g cur, blkOf A = some g ∧ base ≤ g ∧ w.heap[g]? = some (.cells cur e (0, 0)) := by
  rcases h.1.2 with ⟨h0, _⟩ | ⟨g, c, cur, h1, h2, h3, _⟩
  · injection h0 with h0
    exact .inl (by rw [h0]; rfl)
  · injection h1 with h1
    exact .inr ⟨g, cur, by rw [h1]; rfl, h2, h3⟩
theorem XOwns.apart (h : XOwns w base e size A n cap xs) (h' : XOwns w base' e' size' A' n' cap' xs') (hne : e ≠ e') : blkOf A = none ∨ blkOf A ≠ blkOf A' := by
  rcases h.blk with h0 | ⟨g, cur, h1, _, h2⟩
  · exact .inl h0
  · refine .inr fun he => ?_
    rw [h1] at he
    rcases h'.blk with h0 | ⟨g', cur', h1', _, h2'⟩
    · rw [h0] at he; cases he
    · rw [h1'] at he
      injection he with he
      subst he
      rw [h2] at h2'
      injection h2' with h2'
      injection h2' with _ h2'
      exact hne h2'
theorem XOwns.apart_blk {p : Nat} {t : TypeId} {cs : Array Value} (h : XOwns w base e size A n cap xs) (hb : Blk w p t cs) (hne : e ≠ t) : blkOf A ≠ some p := by
  intro he
  rcases h.blk with h0 | ⟨g, cur, h1, _, h2⟩
  · rw [h0] at he; cases he
  · rw [h1] at he
    injection he with he
    subst he
    unfold Blk at hb
    rw [h2] at hb
    injection hb with hb
    injection hb with _ hb
    exact hne hb
theorem XOwns.grown (h : XOwns w base e size A n cap xs) (hg : w.grownBy w' r) (hne : blkOf A = none ∨ blkOf A ≠ r) : XOwns w' base e size A n cap xs := ⟨h.1.kept hg (by rw [blkOf_own]; exact hne), h.2⟩
theorem XOwns.below (h : XOwns w base e size A n cap xs) (hb : Below w.heap.size w w') : XOwns w' base e size A n cap xs := ⟨own_below h.1 hb, h.2⟩
theorem XOwns.put {p : Nat} {i : Nat} {u : Value} (h : XOwns w base e size A n cap xs) (hne : blkOf A ≠ some p) : XOwns (w.setCell ⟨p, i, none⟩ u) base e size A n cap xs := h.grown (only_setCell (only_refl _ _) (.inl rfl) _) (.inr hne)
theorem XOwns.lt (h : XOwns w base e size A n cap xs) : ∀ g, blkOf A = some g → base ≤ g ∧ g < w.heap.size := fun g hg => h.1.lt g (by rw [blkOf_own]; exact hg)
theorem XOwns.len (h : XOwns w base e size A n cap xs) : xs.length = n * size := h.1.1
theorem XOwns.reads (h : XOwns w base e size A n cap xs) : Reads w size A n xs := Reads.of_own h.1
end
theorem BOwns.x {w : World} {base : Nat} {e : TypeId} {A : Option Addr} {n cap : Nat} {xs : List Int} (h : BOwns w base e A n cap xs) : XOwns w base e 1 A n cap (bys xs) := ⟨h.1, h.2.2⟩
theorem XOwns.b {w : World} {base : Nat} {e : TypeId} {A : Option Addr} {n cap : Nat} {xs : List Int} (h : XOwns w base e 1 A n cap (bys xs)) (hb : IsBytes xs) : BOwns w base e A n cap xs := ⟨h.1, hb, h.2⟩


theorem append_x_op {P : Program} {w : World} {o : Oper} {a : Act} {K : Act → World → Prop} {Q : Exit → Act → World → Prop} (s x : Operand) (t : TypeId)
    (ho : o.op = .call { callee := .builtin .append, args := #[s, x], argTypes := #[t, t] })
    (base : Nat) (e : TypeId) (z : Value) (size bytes : Nat) (hrow : (P.info? e).map (fun i => (i.zero, i.size, i.bytes)) = some (some z, size, bytes)) (ht : P.underlying t = some (.slice e)) (hzs : z.cells.size = size) (hsz : 0 < size)
    (A : Option Addr) (n cap : Nat) (xs : List Value) (hs : a.eval s = .slice A n cap) (hown : XOwns w base e size A n cap xs)
    (A' : Option Addr) (m c : Nat) (news : List Value) (hx : a.eval x = .slice A' m c) (hr : Reads w size A' m news) (h1 : ∀ u ∈ news, u.oneCell' = true) (hm : 0 < m)
    (hbd : (n + m) * bytes ≤ 140737488355328) (hbd2 : n + m ≤ 140737488355328) (hbase : base ≤ w.heap.size) (H : Nat) (hH : w.heap.size = H)
    (h : ∀ g cap2 w', XOwns w' base e size (some ⟨g, 0, none⟩) (n + m) cap2 (xs ++ news) → w.grownBy w' (blkOf A) → (blkOf A = some g ∨ g = H) → g < w'.heap.size → K (a.put o.dst (.slice (some ⟨g, 0, none⟩) (n + m) cap2)) w') : o.wp P a w K Q := by
  obtain ⟨i0, hi, hz0, hz1, hz2⟩ := info_parts hrow
  obtain ⟨ad, rfl, hb, hc⟩ := hr.2 hm
  refine wp_append_lies w s x t ho base e i0 z size bytes ht hi hz0 hz1 hz2 hzs hsz _ n xs hs hown.1 ad m c news hx hr.1 hc h1 hm (by unfold maxLen; omega) hbd hbase H hH ?_
  intro g cap2 w' ho' hg hiff hlt
  rw [blkOf_own] at hg hiff
  exact h g cap2 w' ⟨ho', fun h => by cases h⟩ hg hiff hlt
theorem append_x {P : Program} {w : World} {ops : Array Oper} {rest : List Oper} {o : Oper} {a : Act} {Q : Exit → Act → World → Prop} (hgd : o.guard = none) (s x : Operand) (t : TypeId)
    (ho : o.op = .call { callee := .builtin .append, args := #[s, x], argTypes := #[t, t] })
    (base : Nat) (e : TypeId) (z : Value) (size bytes : Nat) (hrow : (P.info? e).map (fun i => (i.zero, i.size, i.bytes)) = some (some z, size, bytes)) (ht : P.underlying t = some (.slice e)) (hzs : z.cells.size = size) (hsz : 0 < size)
    (A : Option Addr) (n cap : Nat) (xs : List Value) (hs : a.eval s = .slice A n cap) (hown : XOwns w base e size A n cap xs)
    (A' : Option Addr) (m c : Nat) (news : List Value) (hx : a.eval x = .slice A' m c) (hr : Reads w size A' m news) (h1 : ∀ u ∈ news, u.oneCell' = true) (hm : 0 < m)
    (hbd : (n + m) * bytes ≤ 140737488355328) (hbd2 : n + m ≤ 140737488355328) (hbase : base ≤ w.heap.size) (H : Nat) (hH : w.heap.size = H)
    (h : ∀ g cap2 w', XOwns w' base e size (some ⟨g, 0, none⟩) (n + m) cap2 (xs ++ news) → w.grownBy w' (blkOf A) → (blkOf A = some g ∨ g = H) → g < w'.heap.size → wpList P ops Q rest (a.put o.dst (.slice (some ⟨g, 0, none⟩) (n + m) cap2)) w') : wpList P ops Q (o :: rest) a w :=
  wpList_plain hgd fun _ hK => append_x_op s x t ho base e z size bytes hrow ht hzs hsz A n cap xs hs hown A' m c news hx hr h1 hm hbd hbd2 hbase H hH fun g cap2 w' h2 h3 h4 h5 => hK _ _ (h g cap2 w' h2 h3 h4 h5)
theorem append_nil_op {P : Program} {w : World} {o : Oper} {a : Act} {K : Act → World → Prop} {Q : Exit → Act → World → Prop} (s x : Operand) (t : TypeId)
    (ho : o.op = .call { callee := .builtin .append, args := #[s, x], argTypes := #[t, t] })
    (e : TypeId) (z : Value) (size bytes : Nat) (hrow : (P.info? e).map (fun i => (i.zero, i.size, i.bytes)) = some (some z, size, bytes)) (ht : P.underlying t = some (.slice e)) (hzs : z.cells.size = size) (hsz : 0 < size)
    (hs : a.eval s = .slice none 0 0) (A : Option Addr) (m c : Nat) (news : List Value) (hx : a.eval x = .slice A m c) (hA : A = none → c = 0) (hr : Reads w size A m news) (h1 : ∀ u ∈ news, u.oneCell' = true)
    (hbd : m * bytes ≤ 140737488355328) (hbd2 : m ≤ 140737488355328)
    (h : ∀ A2 c2 w', XOwns w' w.heap.size e size A2 m c2 news → Below w.heap.size w w' → K (a.put o.dst (.slice A2 m c2)) w') : o.wp P a w K Q := by
  obtain ⟨i0, hi, hz0, hz1, hz2⟩ := info_parts hrow
  cases A with
  | none =>
    have hc := hA rfl
    subst hc
    have hm : m = 0 := by
      rcases Nat.eq_zero_or_pos m with h0 | h0
      · exact h0
      · obtain ⟨ad, e, _⟩ := hr.2 h0
        cases e
    subst hm
    have hn : news = [] := List.eq_nil_of_length_eq_zero (by rw [hr.1]; simp)
    subst hn
    have hrun := run_append_owned_none (P := P) (w := w) w.heap.size t o.type e i0 size ht hi (.slice none 0 0) 0 [] (World.ownsRow_nil _ _ _ _)
    unfold Oper.wp
    simp [execOp, ho, resolve, invoke, builtin, hs, hx, hrun, Result.andThen]
    exact h none 0 w ⟨World.ownsRow_nil _ _ _ _, fun _ => rfl⟩ (Below.refl _ _)
  | some ad =>
    have hc : ∀ j u, news[j]? = some u → w.cell? (ad.add j) = some u := by
      intro j u hj
      have hm : 0 < m := by
        rcases Nat.eq_zero_or_pos m with h0 | h0
        · subst h0
          have hn : news = [] := List.eq_nil_of_length_eq_zero (by rw [hr.1]; simp)
          subst hn
          simp at hj
        · exact h0
      obtain ⟨ad', e', _, hc⟩ := hr.2 hm
      injection e' with e'
      subst e'
      exact hc j u hj
    refine wp_append_own w s x t ho w.heap.size e i0 z size bytes ht hi hz0 hz1 hz2 hzs hsz (.slice none 0 0) 0 [] hs (World.ownsRow_nil _ _ _ _) ad m c news hx hr.1 hc h1 (by unfold maxLen; omega) (by simpa using hbd) (Nat.le_refl _) ?_
    intro v' w' h2 hg _
    rw [Nat.zero_add, List.nil_append] at h2
    have hb : Below w.heap.size w w' := (Below.refl _ _).grown hg (Nat.le_refl _) (fun k hk => by cases hk)
    rcases h2.2 with ⟨h0, h00⟩ | ⟨g, cap, cur, h0, _⟩
    · subst h0
      subst h00
      exact h none 0 w' ⟨h2, fun _ => rfl⟩ hb
    · subst h0
      exact h _ cap w' ⟨h2, fun h => by cases h⟩ hb
theorem append_nil {P : Program} {w : World} {ops : Array Oper} {rest : List Oper} {o : Oper} {a : Act} {Q : Exit → Act → World → Prop} (hgd : o.guard = none) (s x : Operand) (t : TypeId)
    (ho : o.op = .call { callee := .builtin .append, args := #[s, x], argTypes := #[t, t] })
    (e : TypeId) (z : Value) (size bytes : Nat) (hrow : (P.info? e).map (fun i => (i.zero, i.size, i.bytes)) = some (some z, size, bytes)) (ht : P.underlying t = some (.slice e)) (hzs : z.cells.size = size) (hsz : 0 < size)
    (hs : a.eval s = .slice none 0 0) (A : Option Addr) (m c : Nat) (news : List Value) (hx : a.eval x = .slice A m c) (hA : A = none → c = 0) (hr : Reads w size A m news) (h1 : ∀ u ∈ news, u.oneCell' = true)
    (hbd : m * bytes ≤ 140737488355328) (hbd2 : m ≤ 140737488355328)
    (h : ∀ A2 c2 w', XOwns w' w.heap.size e size A2 m c2 news → Below w.heap.size w w' → wpList P ops Q rest (a.put o.dst (.slice A2 m c2)) w') : wpList P ops Q (o :: rest) a w :=
  wpList_plain hgd fun _ hK => append_nil_op s x t ho e z size bytes hrow ht hzs hsz hs A m c news hx hA hr h1 hbd hbd2 fun A2 c2 w' h2 h3 => hK _ _ (h A2 c2 w' h2 h3)
theorem reads_block {w : World} {g : Nat} {t : TypeId} {cs : Array Value} (h : Blk w g t cs) (size n : Nat) (hn : cs.size = n * size) : Reads w size (some ⟨g, 0, none⟩) n cs.toList :=
  ⟨by simpa using hn, fun _ => ⟨_, rfl, h.lt, fun j u hu => by
    have e : (⟨g, 0, none⟩ : Addr).add j = ⟨g, j, none⟩ := by unfold Addr.add; split <;> simp_all
    rw [e, h.at_]
    simpa using hu⟩⟩

structure OnlyF (F : Nat → Prop) (w w' : World) : Prop where
  os : w'.os = w.os
  tape : w'.tape = w.tape
  output : w'.output = w.output
  size : w.heap.size ≤ w'.heap.size
  block : ∀ i, i < w.heap.size → ¬ F i → w'.heap[i]? = w.heap[i]?
theorem OnlyF.below {F : Nat → Prop} {B : Nat} {w w' : World} (h : OnlyF F w w') (hB : B ≤ w.heap.size) (hF : ∀ i, F i → B ≤ i) : Below B w w' :=
  ⟨h.os, h.tape, h.output, h.size, fun i hi => h.block i (by omega) fun hf => by have := hF i hf; omega⟩
theorem OnlyF.of_grown {F : Nat → Prop} {w w' : World} {r : Option Nat} (h : w.grownBy w' r) (hF : ∀ i, r = some i → F i) : OnlyF F w w' :=
  ⟨h.os, h.tape, h.output, h.size, fun i hi hn => h.block i hi fun e => hn (hF i e.symm)⟩
theorem OnlyF.of_below {F : Nat → Prop} {w w' : World} (h : Below w.heap.size w w') : OnlyF F w w' := ⟨h.os, h.tape, h.output, h.size, fun i hi _ => h.block i hi⟩
theorem OnlyF.refl {F : Nat → Prop} (w : World) : OnlyF F w w := OnlyF.of_below (Below.refl _ _)
theorem OnlyF.trans {F G : Nat → Prop} {a b c : World} (h : OnlyF F a b) (h' : OnlyF G b c) (hG : ∀ i, G i → i < a.heap.size → F i) : OnlyF F a c :=
  ⟨h'.os.trans h.os, h'.tape.trans h.tape, h'.output.trans h.output, Nat.le_trans h.size h'.size, fun i hi hn => (h'.block i (Nat.lt_of_lt_of_le hi h.size) fun hg => hn (hG i hg hi)).trans (h.block i hi hn)⟩
theorem OnlyF.more {F G : Nat → Prop} {w w' : World} (h : OnlyF F w w') (hG : ∀ i, F i → G i) : OnlyF G w w' := ⟨h.os, h.tape, h.output, h.size, fun i hi hn => h.block i hi fun hf => hn (hG i hf)⟩
theorem OnlyF.then {F : Nat → Prop} {a b c : World} (h : OnlyF F a b) (h' : Below b.heap.size b c) : OnlyF F a c := h.trans (OnlyF.of_below (F := fun _ => False) h') fun _ hf => hf.elim
theorem OnlyF.drew {F : Nat → Prop} {w w' : World} (h : OnlyF F w w') : OnlyF F w w'.drew := h.then (Below.refl _ _).drew
theorem OnlyF.alloc {F : Nat → Prop} {w w' : World} (h : OnlyF F w w') (o : Obj) : OnlyF F w (w'.alloc o) := h.then ((Below.refl _ _).alloc (Nat.le_refl _) o)
theorem OnlyF.put {F : Nat → Prop} {w w' : World} (h : OnlyF F w w') {p : Addr} (hp : F p.block ∨ w.heap.size ≤ p.block) (u : Value) : OnlyF F w (w'.setCell p u) :=
  ⟨h.os, h.tape, h.output, by simpa [World.setCell] using h.size, fun i hi hn => (Below.heap_setCell w' p u i (by
    rintro rfl
    rcases hp with hp | hp
    · exact hn hp
    · omega)).trans (h.block i hi hn)⟩
section
variable {w w' : World}
theorem Reads.foot {size n : Nat} {A : Option Addr} {xs : List Value} (h : Reads w size A n xs) (hn : 0 < n) : ∀ i, blkOf A = some i → i < w.heap.size := by
  intro i hi
  obtain ⟨ad, rfl, hb, _⟩ := h.2 hn
  simp [blkOf] at hi
  omega
theorem Reads.onlyF {F : Nat → Prop} {size n : Nat} {A : Option Addr} {xs : List Value} (h : Reads w size A n xs) (ho : OnlyF F w w') (hF : 0 < n → ∀ i, blkOf A = some i → ¬ F i) : Reads w' size A n xs :=
  ⟨h.1, fun hn => by
    obtain ⟨ad, rfl, hb, hc⟩ := h.2 hn
    refine ⟨ad, rfl, Nat.lt_of_lt_of_le hb ho.size, fun j u hu => (World.cell?_of_block (ho.block _ (by rw [block_of_add]; exact hb) ?_)).trans (hc j u hu)⟩
    rw [block_of_add]
    exact hF hn _ rfl⟩
theorem Blk.onlyF {F : Nat → Prop} {g : Nat} {t : TypeId} {cs : Array Value} (h : Blk w g t cs) (ho : OnlyF F w w') (hF : ¬ F g) : Blk w' g t cs := (ho.block g h.lt hF).trans h
theorem XOwns.onlyF {F : Nat → Prop} {base : Nat} {e : TypeId} {size : Nat} {A : Option Addr} {n cap : Nat} {xs : List Value} (h : XOwns w base e size A n cap xs) (ho : OnlyF F w w') (hF : ∀ i, blkOf A = some i → ¬ F i) : XOwns w' base e size A n cap xs := by
  refine ⟨⟨h.1.1, ?_⟩, h.2⟩
  rcases h.1.2 with h0 | ⟨g, c, cur, h1, h2, h3, h4⟩
  · exact .inl h0
  · refine .inr ⟨g, c, cur, h1, h2, ?_, h4⟩
    injection h1 with h1
    have hlt : g < w.heap.size := by
      rcases Nat.lt_or_ge g w.heap.size with h' | h'
      · exact h'
      · rw [Array.getElem?_eq_none h'] at h3; cases h3
    exact (ho.block g hlt (hF g (by rw [h1]; rfl))).trans h3
theorem XOwns.more {base base' : Nat} {e : TypeId} {size : Nat} {A : Option Addr} {n cap : Nat} {xs : List Value} (h : XOwns w base e size A n cap xs) (hb : base' ≤ base) : XOwns w base' e size A n cap xs := by
  refine ⟨⟨h.1.1, ?_⟩, h.2⟩
  rcases h.1.2 with h0 | ⟨g, c, cur, h1, h2, h3⟩
  · exact .inl h0
  · exact .inr ⟨g, c, cur, h1, by omega, h3⟩
theorem XOwns.capOk {base : Nat} {e : TypeId} {size : Nat} {A : Option Addr} {n cap : Nat} {xs : List Value} (h : XOwns w base e size A n cap xs) : n ≤ cap ∧ cap ≤ 9223372036854775807 := by
  rcases h.1.2 with ⟨h0, h1⟩ | ⟨g, c, cur, h1, h2, h3, h4, h5, _⟩
  · injection h0 with _ _ h0
    omega
  · injection h1 with _ _ h1
    unfold maxLen at h5
    omega
theorem XOwns.nil_ (w : World) (base : Nat) (e : TypeId) (size : Nat) : XOwns w base e size none 0 0 [] := ⟨World.ownsRow_nil _ _ _ _, fun _ => rfl⟩
theorem XOwns.cell {base : Nat} {e : TypeId} {size : Nat} {A : Option Addr} {n cap : Nat} {xs : List Value} (h : XOwns w base e size A n cap xs) {j : Nat} {u : Value} (hj : xs[j]? = some u) : ∃ g, A = some ⟨g, 0, none⟩ ∧ base ≤ g ∧ g < w.heap.size ∧ w.cell? ⟨g, j, none⟩ = some u ∧ w.frozen? ⟨g, j, none⟩ = false := by
  have hn : 0 < n := by
    rcases Nat.eq_zero_or_pos n with h0 | h0
    · subst h0
      have := h.1.1
      simp at this
      subst this
      simp at hj
    · exact h0
  obtain ⟨g, c, hv, h1, h2⟩ := h.1.form hn
  injection hv with hv
  subst hv
  refine ⟨g, rfl, h1, h2, ?_, h.1.frozenAt j⟩
  have := h.1.cells (g := g) rfl j u hj
  have e : (⟨g, 0, none⟩ : Addr).add j = ⟨g, j, none⟩ := by unfold Addr.add; split <;> simp_all
  rwa [e] at this
end

def ics (l : List Int) : List Value := l.map (Value.int .i64)
theorem ics_one (l : List Int) : ∀ u ∈ ics l, u.oneCell' = true := by
  intro u hu
  obtain ⟨x, _, rfl⟩ := List.mem_map.1 hu
  rfl
def ith (xs : List Int) (k : Nat) : Int := xs.getD k 0
theorem ith_get {xs : List Int} {k : Nat} (h : k < xs.length) : xs[k]? = some (ith xs k) := by simp [ith, List.getD, List.getElem?_eq_getElem h]
theorem ilen {w : World} {A : Option Addr} {n : Nat} {xs : List Int} (h : Reads w 1 A n (ics xs)) : xs.length = n := by have := h.1; simpa [ics] using this
theorem int_at {w : World} {A : Option Addr} {n : Nat} {xs : List Int} (h : Reads w 1 A n (ics xs)) {k : Nat} (hk : k < n) : ∃ ad, A = some ad ∧ ad.block < w.heap.size ∧ w.cell? (ad.add k) = some (.int .i64 (ith xs k)) := by
  obtain ⟨ad, e, hb, hc⟩ := h.2 (by omega)
  refine ⟨ad, e, hb, hc k _ ?_⟩
  rw [ics, List.getElem?_map, ith_get (by have := ilen h; omega)]
  rfl
theorem take_snoc {α : Type} [Inhabited α] {l : List α} {k : Nat} {x : α} (h : l[k]? = some x) : l.take (k + 1) = l.take k ++ [x] := by
  have hk : k < l.length := by
    rcases Nat.lt_or_ge k l.length with h' | h'
    · exact h'
    · rw [List.getElem?_eq_none h'] at h; cases h
  rw [List.take_succ_eq_append_getElem hk]
  rw [List.getElem?_eq_getElem hk] at h
  rw [Option.some.inj h]

theorem get_of {α : Type} {l : List α} {k : Nat} (h : k < l.length) : ∃ x, l[k]? = some x := ⟨l[k], List.getElem?_eq_getElem h⟩
structure Sl where
  A : Option Addr
  c : Nat
deriving Inhabited
def Sl.v (s : Sl) (n : Nat) : Value := .slice s.A n s.c
def Sl.ok (s : Sl) (n : Nat) : Prop := n ≤ s.c ∧ (s.A = none → s.c = 0) ∧ s.c ≤ 9223372036854775807
theorem XOwns.okS {W : World} {base : Nat} {e : TypeId} {size n : Nat} {xs : List Value} {t : Sl} (h : XOwns W base e size t.A n t.c xs) : t.ok n := ⟨h.capOk.1, h.2, h.capOk.2⟩
section
variable {α : Type} {enc : α → List Value} {k : Nat}
theorem flatMap_at (hk : ∀ x, (enc x).length = k) : ∀ {l : List α} {i : Nat} {x : α}, l[i]? = some x → ∀ {j : Nat}, j < k → (l.flatMap enc)[i * k + j]? = (enc x)[j]?
  | [], i, x, h, _, _ => by simp at h
  | y :: l, 0, x, h, j, hj => by
    simp at h
    subst h
    rw [List.flatMap_cons, List.getElem?_append_left (by rw [hk]; omega)]
    simp
  | y :: l, i + 1, x, h, j, hj => by
    rw [List.flatMap_cons, List.getElem?_append_right (by rw [hk, Nat.add_mul]; omega), hk, show (i + 1) * k + j - k = i * k + j by rw [Nat.add_mul]; omega]
    exact flatMap_at hk (by simpa using h) hj
theorem row_cell {w : World} {A : Option Addr} {n : Nat} {l : List α} (hk : ∀ x, (enc x).length = k) (h : Reads w k A n (l.flatMap enc)) {i : Nat} {x : α} (hi : l[i]? = some x) (hin : i < n) : ∃ ad, A = some ad ∧ ad.block < w.heap.size ∧ ∀ j u, j < k → (enc x)[j]? = some u → w.cell? (ad.add (i * k + j)) = some u := by
  obtain ⟨ad, e, hb, hc⟩ := h.2 (by omega)
  exact ⟨ad, e, hb, fun j u hj hu => hc _ u (by rw [flatMap_at hk hi hj]; exact hu)⟩
end

/-! ### Effects, triggers, cards -/
structure Ef where
  code : Int
  tgt : Int
  n : Int
  m : Int
  col : Int
def Ef.cells (e : Ef) : List Value := [.int .i64 e.code, .int .i64 e.tgt, .int .i64 e.n, .int .i64 e.m, .int .i64 e.col]
def ecs (l : List Ef) : List Value := l.flatMap Ef.cells
structure Trg where
  wh : Int
  efs : List Ef
def Trg.cells (t : Trg) (s : Sl) : List Value := [.int .i64 t.wh, s.v t.efs.length]
def trcs (l : List (Trg × Sl)) : List Value := l.flatMap fun p => p.1.cells p.2
structure Cd where
  nm : ByteArray
  kind : Int
  o0 : Int
  o1 : Int
  o2 : Int
  o3 : Int
  any : Int
  mak : Int
  pow : Int
  tou : Int
  kw : Int
  efs : List Ef
  trs : List Trg
  rar : Int
structure CdM where
  E : Sl
  T : Sl
  TS : List Sl
deriving Inhabited
def Cd.cells (c : Cd) (m : CdM) : List Value := [.string c.nm, .int .i64 c.kind, .int .i64 c.o0, .int .i64 c.o1, .int .i64 c.o2, .int .i64 c.o3, .int .i64 c.any, .int .i64 c.mak, .int .i64 c.pow, .int .i64 c.tou, .int .i64 c.kw, m.E.v c.efs.length, m.T.v c.trs.length, .int .i64 c.rar]
def ccs (l : List (Cd × CdM)) : List Value := l.flatMap fun p => p.1.cells p.2
theorem one_ecs (l : List Ef) : ∀ u ∈ ecs l, u.oneCell' = true := by
  intro u hu
  unfold ecs at hu
  obtain ⟨p, _, hp⟩ := List.mem_flatMap.1 hu
  simp only [Ef.cells, List.mem_cons, List.not_mem_nil, or_false] at hp
  rcases hp with rfl | rfl | rfl | rfl | rfl <;> rfl
theorem one_trcs (l : List (Trg × Sl)) : ∀ u ∈ trcs l, u.oneCell' = true := by
  intro u hu
  unfold trcs at hu
  obtain ⟨p, _, hp⟩ := List.mem_flatMap.1 hu
  simp only [Trg.cells, Sl.v, List.mem_cons, List.not_mem_nil, or_false] at hp
  rcases hp with rfl | rfl <;> rfl
theorem one_cd (c : Cd) (m : CdM) : ∀ u ∈ c.cells m, u.oneCell' = true := by
  intro u hu
  simp only [Cd.cells, Sl.v, List.mem_cons, List.not_mem_nil, or_false] at hu
  rcases hu with rfl | rfl | rfl | rfl | rfl | rfl | rfl | rfl | rfl | rfl | rfl | rfl | rfl | rfl <;> rfl

/-! ### What reads -/
structure EsR (w : World) (s : Sl) (l : List Ef) : Prop where
  row : Reads w 5 s.A l.length (ecs l)
  ok : s.ok l.length
structure TsR (w : World) (s : Sl) (l : List Trg) (ts : List Sl) : Prop where
  len : ts.length = l.length
  row : Reads w 2 s.A l.length (trcs (l.zip ts))
  ok : s.ok l.length
  ef : ∀ (i : Nat) (t : Trg) (u : Sl), l[i]? = some t → ts[i]? = some u → EsR w u t.efs
structure CdR (w : World) (c : Cd) (m : CdM) : Prop where
  nm : c.nm.size ≤ 9223372036854775807
  E : EsR w m.E c.efs
  T : TsR w m.T c.trs m.TS
structure CsR (w : World) (s : Sl) (l : List Cd) (ms : List CdM) : Prop where
  len : ms.length = l.length
  row : Reads w 14 s.A l.length (ccs (l.zip ms))
  ok : s.ok l.length
  cd : ∀ (i : Nat) (c : Cd) (m : CdM), l[i]? = some c → ms[i]? = some m → CdR w c m
section
variable {w w' : World} {s : Sl}
theorem EsR.below {l : List Ef} (h : EsR w s l) (hb : Below w.heap.size w w') : EsR w' s l := ⟨h.row.below hb, h.ok⟩
theorem TsR.below {l : List Trg} {ts : List Sl} (h : TsR w s l ts) (hb : Below w.heap.size w w') : TsR w' s l ts := ⟨h.len, h.row.below hb, h.ok, fun i t u h1 h2 => (h.ef i t u h1 h2).below hb⟩
theorem CdR.below {c : Cd} {m : CdM} (h : CdR w c m) (hb : Below w.heap.size w w') : CdR w' c m := ⟨h.nm, h.E.below hb, h.T.below hb⟩
theorem CsR.below {l : List Cd} {ms : List CdM} (h : CsR w s l ms) (hb : Below w.heap.size w w') : CsR w' s l ms := ⟨h.len, h.row.below hb, h.ok, fun i c m h1 h2 => (h.cd i c m h1 h2).below hb⟩
theorem EsR.at_ {l : List Ef} (h : EsR w s l) {i : Nat} {e : Ef} (hi : l[i]? = some e) (hin : i < l.length) : ∃ ad, s.A = some ad ∧ ad.block < w.heap.size ∧ w.cell? (ad.add (i * 5)) = some (.int .i64 e.code) ∧ w.cell? ⟨(ad.add (i * 5)).block, (ad.add (i * 5)).off + 1, none⟩ = some (.int .i64 e.tgt) ∧ w.cell? ⟨(ad.add (i * 5)).block, (ad.add (i * 5)).off + 2, none⟩ = some (.int .i64 e.n) ∧ w.cell? ⟨(ad.add (i * 5)).block, (ad.add (i * 5)).off + 3, none⟩ = some (.int .i64 e.m) ∧ w.cell? ⟨(ad.add (i * 5)).block, (ad.add (i * 5)).off + 4, none⟩ = some (.int .i64 e.col) := by
  obtain ⟨ad, e1, hb, hc⟩ := row_cell (enc := Ef.cells) (fun _ => rfl) h.row hi hin
  exact ⟨ad, e1, hb, hc 0 _ (by decide) rfl, part_at 0 (hc 1 _ (by decide) rfl), part_at 1 (hc 2 _ (by decide) rfl), part_at 2 (hc 3 _ (by decide) rfl), part_at 3 (hc 4 _ (by decide) rfl)⟩
theorem TsR.at_ {l : List Trg} {ts : List Sl} (h : TsR w s l ts) {i : Nat} {t : Trg} (hi : l[i]? = some t) : ∃ u ad, ts[i]? = some u ∧ s.A = some ad ∧ ad.block < w.heap.size ∧ w.cell? (ad.add (i * 2)) = some (.int .i64 t.wh) ∧ w.cell? ⟨(ad.add (i * 2)).block, (ad.add (i * 2)).off + 1, none⟩ = some (.slice u.A t.efs.length u.c) ∧ EsR w u t.efs := by
  have hin : i < l.length := by
    rcases Nat.lt_or_ge i l.length with h' | h'
    · exact h'
    · rw [List.getElem?_eq_none h'] at hi; cases hi
  obtain ⟨u, hu⟩ := get_of (l := ts) (k := i) (by rw [h.len]; exact hin)
  have hz : (l.zip ts)[i]? = some (t, u) := by rw [List.getElem?_zip_eq_some]; exact ⟨hi, hu⟩
  obtain ⟨ad, e1, hb, hc⟩ := row_cell (enc := fun p : Trg × Sl => p.1.cells p.2) (fun _ => rfl) h.row hz hin
  exact ⟨u, ad, hu, e1, hb, hc 0 _ (by decide) rfl, part_at 0 (hc 1 _ (by decide) rfl), h.ef i t u hi hu⟩
theorem CsR.at_ {l : List Cd} {ms : List CdM} (h : CsR w s l ms) {i : Nat} {c : Cd} (hi : l[i]? = some c) : ∃ m ad, ms[i]? = some m ∧ s.A = some ad ∧ ad.block < w.heap.size ∧ (∀ j u, j < 14 → (c.cells m)[j]? = some u → w.cell? (ad.add (i * 14 + j)) = some u) ∧ CdR w c m := by
  have hin : i < l.length := by
    rcases Nat.lt_or_ge i l.length with h' | h'
    · exact h'
    · rw [List.getElem?_eq_none h'] at hi; cases hi
  obtain ⟨m, hm⟩ := get_of (l := ms) (k := i) (by rw [h.len]; exact hin)
  have hz : (l.zip ms)[i]? = some (c, m) := by rw [List.getElem?_zip_eq_some]; exact ⟨hi, hm⟩
  obtain ⟨ad, e1, hb, hc⟩ := row_cell (enc := fun p : Cd × CdM => p.1.cells p.2) (fun _ => rfl) h.row hz hin
  exact ⟨m, ad, hm, e1, hb, hc, h.cd i c m hi hm⟩
end
end Go.Proofs.YtpbbemmjodegkaaDoor
