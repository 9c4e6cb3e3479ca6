/-
  Texts: Law, Only, Own, Blk, XOwn.
-/
import Derived.Test.YtagpphelgghbpaaGreatHk1
import Derived.Laws.Rows
import Derived.Laws.AppendOwnNone
/-
  More words for memory: a []byte that is made; cells that stay behind a call.
-/
namespace Go.Proofs.YtagpphelgghbpaaGreat
open Go.RowKit

theorem keep_at {B : Nat} {W w1 : World} (hb : Below B W w1) (b : Nat) (h : b < B) : ∀ o, w1.cell? ⟨b, o, none⟩ = W.cell? ⟨b, o, none⟩ := fun o => hb.cell (p := ⟨b, o, none⟩) h
theorem keep_far {B : Nat} {W w1 : World} {obj : Obj} (hb : Below B (W.alloc obj) w1) (b : Nat) (h : b < W.heap.size) (h' : b < B) : ∀ o, w1.cell? ⟨b, o, none⟩ = W.cell? ⟨b, o, none⟩ := fun o => by
  rw [keep_at hb b h' o]
  exact World.cell?_alloc_lt W obj ⟨b, o, none⟩ h

theorem keepf_at {B : Nat} {W w1 : World} (hb : Below B W w1) (b : Nat) (h : b < B) : ∀ o, w1.frozen? ⟨b, o, none⟩ = W.frozen? ⟨b, o, none⟩ := fun o => hb.frozen (p := ⟨b, o, none⟩) h
theorem keepf_far {B : Nat} {W w1 : World} {obj : Obj} (hb : Below B (W.alloc obj) w1) (b : Nat) (h : b < W.heap.size) (h' : b < B) : ∀ o, w1.frozen? ⟨b, o, none⟩ = W.frozen? ⟨b, o, none⟩ := fun o => by
  rw [keepf_at hb b h' o]
  exact ((Below.refl W.heap.size W).alloc (Nat.le_refl _) obj).frozen (p := ⟨b, o, none⟩) h

theorem cell_new (w : World) (cs : Array Value) (t : TypeId) (o : Nat) : (w.alloc (.cells cs t)).cell? ⟨w.heap.size, o, none⟩ = cs[o]? := by
  exact World.cell?_alloc_new w cs t o
theorem frozen_new (w : World) (cs : Array Value) (t : TypeId) (o : Nat) : (w.alloc (.cells cs t)).frozen? ⟨w.heap.size, o, none⟩ = false := by
  exact World.frozen?_alloc_new w cs t o

theorem BOwns.setBelow {w : World} {base : Nat} {e : TypeId} {A : Option Addr} {n cap : Nat} {xs : List Int} (h : BOwns w base e A n cap xs) {p : Addr} (hp : p.block < base) (u : Value) : BOwns (w.setCell p u) base e A n cap xs :=
  ⟨ownsRow_setCell_below h.1 hp u, h.2⟩

theorem make_bytes {P : Program} (w : World) {ops : Array Oper} {rest : List Oper} {o : Oper} {a : Act} {Q : Exit → Act → World → Prop}
    (hg : o.guard = none) (l c : Operand) (t : TypeId) (hop : o.op = Op.makeSlice t l c)
    (base : Nat) (e : TypeId) (hrow : (P.info? e).map (fun i => (i.zero, i.size, i.bytes)) = some (some (.int .u8 0), 1, 1)) (ht : P.underlying t = some (.slice e))
    (kl kc : IntKind) (C : Int) (n : Nat) (hl : a.eval l = .int kl 0) (hc : a.eval c = .int kc C) (hC : C = (n : Int)) (b2 : n ≤ 281474976710656) (b4 : base ≤ w.heap.size)
    (hK : ∀ w', BOwns w' base e (some ⟨w.heap.size, 0, none⟩) 0 n [] → Below w.heap.size w w' → wpList P ops Q rest (a.put o.dst (.slice (some ⟨w.heap.size, 0, none⟩) 0 n)) w') :
    wpList P ops Q (o :: rest) a w := by
  obtain ⟨i0, hi, hz0, hz1, hz2⟩ := info_parts hrow
  refine wpList_make_own w hg l c t hop base e i0 (.int .u8 0) 1 ht hi hz0 hz1 kl kc C n hl hc hC (by rw [hz2]; omega) (by unfold maxLen; omega) b4 ?_
  intro w' ho hgr
  exact hK w' ⟨ho, (fun _ h => by cases h), fun h => by cases h⟩ ((Below.refl _ _).grown hgr (Nat.le_refl _) (fun k hk => by cases hk))

end Go.Proofs.YtagpphelgghbpaaGreat

/-
  More words for memory: a store into a row of the call's own; only one block has turned.
-/
namespace Go.Proofs.YtagpphelgghbpaaGreat
open Go.RowKit

section
variable {a w w' : World} {row : Option Nat} {g : Nat}
theorem only_refl (w : World) (row : Option Nat) : w.grownBy w row := ⟨rfl, rfl, rfl, Nat.le_refl _, fun _ _ _ => rfl⟩
theorem only_setCell (h : a.grownBy w (some g)) {p : Addr} (hp : p.block = g ∨ a.heap.size ≤ p.block) (u : Value) : a.grownBy (w.setCell p u) (some g) :=
  ⟨h.os, h.tape, h.output, by simpa [World.setCell] using h.size, fun i hi hne => (Below.heap_setCell w p u i (by
    rintro rfl
    rcases hp with hp | hp
    · exact hne (by rw [hp])
    · omega)).trans (h.block i hi hne)⟩
theorem only_cell (h : a.grownBy w (some g)) (b : Nat) (hb : b < a.heap.size) (hne : b ≠ g) : ∀ o, w.cell? ⟨b, o, none⟩ = a.cell? ⟨b, o, none⟩ := fun o =>
  World.cell?_of_block (h.block b hb (fun e => hne (by injection e)))
theorem only_frozen (h : a.grownBy w (some g)) (b : Nat) (hb : b < a.heap.size) (hne : b ≠ g) : ∀ o, w.frozen? ⟨b, o, none⟩ = a.frozen? ⟨b, o, none⟩ := fun o =>
  World.frozen?_of_block (h.block b hb (fun e => hne (by injection e)))
theorem only_below {B : Nat} {v : World} (h : a.grownBy w (some g)) (hv : Below B v a) (hB : B ≤ a.heap.size) (hg : B ≤ g) : Below B v w :=
  hv.grown h hB (fun k hk => by injection hk with hk; omega)
/-- What the call owns from 'base' on stays while a block below base alone turns. -/
theorem BOwns.only {base : Nat} {e : TypeId} {A : Option Addr} {n cap : Nat} {xs : List Int} (h : BOwns a base e A n cap xs) (ho : a.grownBy w (some g)) (hg : g < base) : BOwns w base e A n cap xs := by
  refine ⟨h.1.kept ho ?_, h.2⟩
  rcases hv : (Value.slice A n cap).ownBlock with _ | b
  · exact .inl rfl
  · refine .inr (fun e => ?_)
    injection e with e
    have := (h.1.lt b hv).1
    omega
theorem BReads.only {A : Option Addr} {n : Nat} {xs : List Int} (h : BReads a A n xs) (ho : a.grownBy w (some g)) (hg : ∀ ad, A = some ad → ad.block ≠ g) : BReads w A n xs := by
  refine ⟨⟨h.1.1, fun hn => ?_⟩, h.2⟩
  obtain ⟨ad, e, hb, hc⟩ := h.1.2 hn
  refine ⟨ad, e, Nat.lt_of_lt_of_le hb ho.size, fun j u hu => ?_⟩
  rw [← hc j u hu]
  refine World.cell?_of_block (ho.block _ (by rw [block_of_add]; exact hb) (fun e' => ?_))
  injection e' with e'
  rw [block_of_add] at e'
  exact hg ad e e'
end

/-- The head of what is owned. -/
theorem BOwns.head {w : World} {base : Nat} {e : TypeId} {A : Option Addr} {n cap : Nat} {xs : List Int} (h : BOwns w base e A n cap xs) (hn : 0 < n) :
    ∃ g, A = some ⟨g, 0, none⟩ ∧ base ≤ g ∧ g < w.heap.size := by
  obtain ⟨g, c, hv, h1, h2⟩ := h.1.form hn
  injection hv with hv
  exact ⟨g, hv, h1, h2⟩
theorem BOwns.cellAt {w : World} {base : Nat} {e : TypeId} {g n cap : Nat} {xs : List Int} (h : BOwns w base e (some ⟨g, 0, none⟩) n cap xs) {j : Nat} (hj : j < n) :
    w.cell? ⟨g, j, none⟩ = some (.int .u8 (nth xs j)) ∧ w.frozen? ⟨g, j, none⟩ = false ∧ 0 ≤ nth xs j ∧ nth xs j ≤ 255 := by
  have hl := h.length
  have hg : nth xs j = xs[j]'(by omega) := by simp [nth, List.getD, List.getElem?_eq_getElem (show j < xs.length by omega)]
  refine ⟨?_, h.1.frozenAt j, ?_⟩
  · rw [h.1.cellAt j (by omega), bys, List.getElem?_map, List.getElem?_eq_getElem (by omega), hg]
    rfl
  · rw [hg]
    exact h.2.1 _ (List.getElem_mem _)
theorem bys_set (xs : List Int) (j : Nat) (u : Int) : (bys xs).set j (.int .u8 u) = bys (xs.set j u) := by simp [bys]
theorem BOwns.stored {w : World} {base : Nat} {e : TypeId} {g n cap : Nat} {xs : List Int} (h : BOwns w base e (some ⟨g, 0, none⟩) n cap xs) {j : Nat} (u : Int) (_hj : j < n) (hu : 0 ≤ u ∧ u ≤ 255) :
    BOwns (w.setCell ⟨g, j, none⟩ (.int .u8 u)) base e (some ⟨g, 0, none⟩) n cap (xs.set j u) := by
  have hl := h.length
  refine ⟨?_, fun z hz => ?_, h.2.2⟩
  · rw [← bys_set]
    exact (h.1.stored j (.int .u8 u)).1
  · rcases List.mem_or_eq_of_mem_set hz with hz | rfl
    · exact h.2.1 z hz
    · exact hu

theorem make_bytes_full {P : Program} (w : World) {ops : Array Oper} {rest : List Oper} {o : Oper} {a : Act} {Q : Exit → Act → World → Prop}
    (hg : o.guard = none) (l c : Operand) (t : TypeId) (hop : o.op = Op.makeSlice t l c)
    (base : Nat) (e : TypeId) (hrow : (P.info? e).map (fun i => (i.zero, i.size, i.bytes)) = some (some (.int .u8 0), 1, 1)) (ht : P.underlying t = some (.slice e))
    (kl kc : IntKind) (L C : Int) (n : Nat) (hl : a.eval l = .int kl L) (hc : a.eval c = .int kc C) (hL : L = (n : Int)) (hC : C = (n : Int)) (b2 : n ≤ 281474976710656) (b4 : base ≤ w.heap.size)
    (hK : ∀ w', BOwns w' base e (some ⟨w.heap.size, 0, none⟩) n n (List.replicate n 0) → Below w.heap.size w w' → wpList P ops Q rest (a.put o.dst (.slice (some ⟨w.heap.size, 0, none⟩) n n)) w') :
    wpList P ops Q (o :: rest) a w := by
  obtain ⟨i0, hi, hz0, hz1, hz2⟩ := info_parts hrow
  refine wpList_make_full w hg l c t hop base e i0 (.int .u8 0) 1 ht hi hz0 hz1 kl kc L C n hl hc hL hC (by rw [hz2]; omega) (by unfold maxLen; omega) b4 ?_
  intro w' ho hgr
  have hz : (madeCells (Value.int .u8 0).cells (n * 1)).toList = bys (List.replicate n 0) := by
    rw [Nat.mul_one]
    show (madeCells #[Value.int .u8 0] n).toList = _
    rw [toList_madeCells_one, bys, List.map_replicate]
  rw [hz] at ho
  exact hK w' ⟨ho, (fun z hz => by rw [List.eq_of_mem_replicate hz]; decide), fun h => by cases h⟩ ((Below.refl _ _).grown hgr (Nat.le_refl _) (fun k hk => by cases hk))

end Go.Proofs.YtagpphelgghbpaaGreat

/-
  Appends, with what has turned: one block, or none.
-/
namespace Go.Proofs.YtagpphelgghbpaaGreat
open Go.RowKit

/-- The block where a slice lies. -/
def blkOf (A : Option Addr) : Option Nat := A.map (·.block)
theorem blkOf_own (A : Option Addr) (n c : Nat) : (Value.slice A n c).ownBlock = blkOf A := by cases A <;> rfl
/-- A' lies where A lies, or in a block that is new since w. -/
def sameOrNew (w : World) (A A' : Option Addr) : Prop := ∀ g, blkOf A' = some g → blkOf A = some g ∨ w.heap.size ≤ g
theorem sameOrNew.refl (w : World) (A : Option Addr) : sameOrNew w A A := fun _ h => .inl h
theorem sameOrNew.trans {w w1 : World} {A B C : Option Addr} (h : sameOrNew w A B) (h' : sameOrNew w1 B C) (hz : w.heap.size ≤ w1.heap.size) : sameOrNew w A C := fun g hg => by
  rcases h' g hg with h1 | h1
  · exact h g h1
  · exact .inr (by omega)
theorem grown_trans {a b c : World} {A B : Option Addr} (h : a.grownBy b (blkOf A)) (h' : b.grownBy c (blkOf B)) (hr : sameOrNew a A B) : a.grownBy c (blkOf A) :=
  ⟨h'.os.trans h.os, h'.tape.trans h.tape, h'.output.trans h.output, Nat.le_trans h.size h'.size, fun i hi hne => (h'.block i (Nat.lt_of_lt_of_le hi h.size) (fun e => by
    rcases hr i e.symm with h1 | h1
    · exact hne (by rw [h1])
    · omega)).trans (h.block i hi hne)⟩
theorem grown_alloc (w : World) (o : Obj) (r : Option Nat) : w.grownBy (w.alloc o) r :=
  ⟨rfl, rfl, rfl, by simp, fun i hi _ => ((Below.refl w.heap.size w).alloc (Nat.le_refl _) o).block i hi⟩
theorem grown_drew {a b : World} {r : Option Nat} (h : a.grownBy b r) : a.grownBy b.drew r := ⟨h.os, h.tape, h.output, h.size, h.block⟩
theorem grown_drewN {a b : World} {r : Option Nat} (h : a.grownBy b r) (n : Nat) : a.grownBy (b.drewN n) r := ⟨h.os, h.tape, h.output, h.size, h.block⟩
/-- First new memory alone, then one block. -/
theorem grown_pre {a b c : World} {r : Option Nat} (h : Below a.heap.size a b) (h' : b.grownBy c r) : a.grownBy c r :=
  ⟨h'.os.trans h.os, h'.tape.trans h.tape, h'.output.trans h.output, Nat.le_trans h.size h'.size, fun i hi hne => (h'.block i (Nat.lt_of_lt_of_le hi h.size) hne).trans (h.block i hi)⟩
/-- First one block, then new memory alone. -/
theorem grown_post {a b c : World} {r : Option Nat} (h : a.grownBy b r) (h' : Below b.heap.size b c) : a.grownBy c r :=
  ⟨h'.os.trans h.os, h'.tape.trans h.tape, h'.output.trans h.output, Nat.le_trans h.size h'.size, fun i hi hne => (h'.block i (Nat.lt_of_lt_of_le hi h.size)).trans (h.block i hi hne)⟩
theorem grown_below {B : Nat} {a b : World} {A : Option Addr} (h : a.grownBy b (blkOf A)) (hB : B ≤ a.heap.size) (hg : ∀ g, blkOf A = some g → B ≤ g) : Below B a b := (Below.refl _ _).grown h hB hg
theorem own_blk {w : World} {base : Nat} {e : TypeId} {A : Option Addr} {n cap : Nat} {xs : List Int} (h : BOwns w base e A n cap xs) : ∀ g, blkOf A = some g → base ≤ g := fun g hg => (h.1.lt g (by rw [blkOf_own]; exact hg)).1
theorem own_lt {w : World} {base : Nat} {e : TypeId} {A : Option Addr} {n cap : Nat} {xs : List Int} (h : BOwns w base e A n cap xs) : ∀ g, blkOf A = some g → g < w.heap.size := fun g hg => (h.1.lt g (by rw [blkOf_own]; exact hg)).2
/-- What reads elsewhere stays. -/
theorem Reads.grown {w w' : World} {size n : Nat} {A : Option Addr} {xs : List Value} {r : Option Nat} (h : Reads w size A n xs) (hg : w.grownBy w' r) (hne : 0 < n → blkOf A ≠ r) : Reads w' size A n xs :=
  ⟨h.1, fun hn => by
    obtain ⟨ad, rfl, hb, hc⟩ := h.2 hn
    refine ⟨ad, rfl, Nat.lt_of_lt_of_le hb hg.size, fun j u hu => (World.cell?_of_block (hg.block _ (by rw [block_of_add]; exact hb) ?_)).trans (hc j u hu)⟩
    rw [block_of_add]
    exact hne hn⟩
theorem BReads.grown {w w' : World} {n : Nat} {A : Option Addr} {xs : List Int} {r : Option Nat} (h : BReads w A n xs) (hg : w.grownBy w' r) (hne : 0 < n → blkOf A ≠ r) : BReads w' A n xs := ⟨h.1.grown hg hne, h.2⟩
theorem BOwns.grown {w w' : World} {base : Nat} {e : TypeId} {A : Option Addr} {n cap : Nat} {xs : List Int} {r : Option Nat} (h : BOwns w base e A n cap xs) (hg : w.grownBy w' r) (hne : blkOf A = none ∨ blkOf A ≠ r) : BOwns w' base e A n cap xs :=
  ⟨h.1.kept hg (by rw [blkOf_own]; exact hne), h.2⟩

/-- 'append(b, src...)' over bytes, src not empty: b the call's own. What has turned: b's block alone. -/
theorem append_bytes_at {P : Program} (w : World) {ops : Array Oper} {rest : List Oper} {o : Oper} {a : Act} {Q : Exit → Act → World → Prop} (hgd : o.guard = none) (s x : Operand) (t : TypeId)
    (ho : o.op = .call { callee := .builtin .append, args := #[s, x], argTypes := #[t, t] })
    (base : Nat) (e : TypeId) (hrow : (P.info? e).map (fun i => (i.zero, i.size, i.bytes)) = some (some (.int .u8 0), 1, 1)) (ht : P.underlying t = some (.slice e))
    (A : Option Addr) (n cap : Nat) (xs : List Int) (hs : a.eval s = .slice A n cap) (hown : BOwns w base e A n cap xs)
    (A' : Option Addr) (m c : Nat) (ys : List Int) (hx : a.eval x = .slice A' m c) (hr : BReads w A' m ys) (hm : 0 < m)
    (hbd : n + m ≤ 140737488355328) (hbase : base ≤ w.heap.size) (H : Nat) (hH : w.heap.size = H)
    (h : ∀ g cap2 w', BOwns w' base e (some ⟨g, 0, none⟩) (n + m) cap2 (xs ++ ys) → w.grownBy w' (blkOf A) → (blkOf A = some g ∨ g = H) → g < w'.heap.size → wpList P ops Q rest (a.put o.dst (.slice (some ⟨g, 0, none⟩) (n + m) cap2)) w') : wpList P ops Q (o :: rest) a w := by
  obtain ⟨i0, hi, hz0, hz1, hz2⟩ := info_parts hrow
  obtain ⟨ad, rfl, hb, hc⟩ := hr.1.2 hm
  refine wpList_append_lies w hgd s x t ho base e i0 (.int .u8 0) 1 1 ht hi hz0 hz1 hz2 rfl (by decide) _ n (bys xs) hs hown.1 ad m c (bys ys) hx hr.1.1 hc (bys_one _) hm (by unfold maxLen; omega) (by omega) hbase H hH ?_
  intro g cap2 w' ho' hg hiff hlt
  rw [blkOf_own] at hg hiff
  have hm : bys xs ++ bys ys = bys (xs ++ ys) := by simp [bys]
  rw [hm] at ho'
  exact h g cap2 w' ⟨ho', (fun z hz => by
    rcases List.mem_append.1 hz with hz | hz
    · exact hown.2.1 z hz
    · exact hr.2 z hz), fun h => by cases h⟩ hg hiff hlt
end Go.Proofs.YtagpphelgghbpaaGreat

/-
  A block of cells that is known whole.
-/
namespace Go.Proofs.YtagpphelgghbpaaGreat
open Go.RowKit

/-- Block g is just these cells; none of them is frozen. -/
def Blk (w : World) (g : Nat) (t : TypeId) (cs : Array Value) : Prop := w.heap[g]? = some (.cells cs t (0, 0))
section
variable {w w' : World} {g : Nat} {t : TypeId} {cs : Array Value}
theorem Blk.lt (h : Blk w g t cs) : g < w.heap.size := by
  rcases Nat.lt_or_ge g w.heap.size with h' | h'
  · exact h'
  · unfold Blk at h
    rw [Array.getElem?_eq_none h'] at h
    cases h
theorem Blk.at_ (h : Blk w g t cs) (i : Nat) : w.cell? ⟨g, i, none⟩ = cs[i]? := cell_of_row w g i cs t (0, 0) h
theorem Blk.free (h : Blk w g t cs) (i : Nat) : w.frozen? ⟨g, i, none⟩ = false := by
  unfold Blk at h
  simp [World.frozen?, h]
theorem Blk.mk_ (w : World) (t : TypeId) (cs : Array Value) (k : Nat) (hk : w.heap.size = k) : Blk (w.alloc (.cells cs t)) k t cs := by
  subst hk
  show (w.heap.push _)[w.heap.size]? = _
  simp
theorem Blk.below {B : Nat} (h : Blk w g t cs) (hb : Below B w w') (hg : g < B) : Blk w' g t cs := (hb.block g hg).trans h
theorem Blk.call (h : Blk w g t cs) (hb : Below w.heap.size w w') : Blk w' g t cs := h.below hb h.lt
theorem Blk.alloc (h : Blk w g t cs) (o : Obj) : Blk (w.alloc o) g t cs := h.call ((Below.refl _ _).alloc (Nat.le_refl _) o)
theorem Blk.drew (h : Blk w g t cs) : Blk w.drew g t cs := h
theorem Blk.drewN (h : Blk w g t cs) (k : Nat) : Blk (w.drewN k) g t cs := h
theorem Blk.far (h : Blk w g t cs) {p : Addr} (hp : g ≠ p.block) (u : Value) : Blk (w.setCell p u) g t cs := (Below.heap_setCell w p u g hp).trans h
theorem Blk.put (h : Blk w g t cs) (i : Nat) (u : Value) : Blk (w.setCell ⟨g, i, none⟩ u) g t (cs.setIfInBounds i u) := by
  unfold Blk at h ⊢
  simp [World.setCell, Array.getElem?_modify, h]
theorem Blk.grown {row : Option Nat} (h : Blk w g t cs) (hg : w.grownBy w' row) (hne : some g ≠ row) : Blk w' g t cs := (hg.block g h.lt hne).trans h
end
end Go.Proofs.YtagpphelgghbpaaGreat

/-
  A slice of the call's own, of whatever elements; what is appended to it.
-/
set_option linter.unusedSimpArgs false
set_option linter.unusedVariables false
namespace Go.Proofs.YtagpphelgghbpaaGreat
open Go.RowKit

/-- A slice of the call's own. -/
def XOwns (w : World) (base : Nat) (e : TypeId) (size : Nat) (A : Option Addr) (n cap : Nat) (xs : List Value) : Prop := w.ownsRow base e size (.slice A n cap) n xs ∧ (A = none → cap = 0)
section
variable {w w' : World} {base base' : Nat} {e e' : TypeId} {size size' : Nat} {A A' : Option Addr} {n n' cap cap' : Nat} {xs xs' : List Value} {r : Option Nat}
theorem XOwns.blk (h : XOwns w base e size A n cap xs) : blkOf A = none ∨ ∃ g cur, blkOf A = some g ∧ base ≤ g ∧ w.heap[g]? = some (.cells cur e (0, 0)) := by
  rcases h.1.2 with ⟨h0, _⟩ | ⟨g, c, cur, h1, h2, h3, _⟩
  · injection h0 with h0
    exact .inl (by rw [h0]; rfl)
  · injection h1 with h1
    exact .inr ⟨g, cur, by rw [h1]; rfl, h2, h3⟩
/-- Two rows of different elements lie apart. -/
theorem XOwns.apart (h : XOwns w base e size A n cap xs) (h' : XOwns w base' e' size' A' n' cap' xs') (hne : e ≠ e') : blkOf A = none ∨ blkOf A ≠ blkOf A' := by
  rcases h.blk with h0 | ⟨g, cur, h1, _, h2⟩
  · exact .inl h0
  · refine .inr fun he => ?_
    rw [h1] at he
    rcases h'.blk with h0 | ⟨g', cur', h1', _, h2'⟩
    · rw [h0] at he; cases he
    · rw [h1'] at he
      injection he with he
      subst he
      rw [h2] at h2'
      injection h2' with h2'
      injection h2' with _ h2'
      exact hne h2'
theorem XOwns.apart_blk {p : Nat} {t : TypeId} {cs : Array Value} (h : XOwns w base e size A n cap xs) (hb : Blk w p t cs) (hne : e ≠ t) : blkOf A ≠ some p := by
  intro he
  rcases h.blk with h0 | ⟨g, cur, h1, _, h2⟩
  · rw [h0] at he; cases he
  · rw [h1] at he
    injection he with he
    subst he
    unfold Blk at hb
    rw [h2] at hb
    injection hb with hb
    injection hb with _ hb
    exact hne hb
theorem XOwns.grown (h : XOwns w base e size A n cap xs) (hg : w.grownBy w' r) (hne : blkOf A = none ∨ blkOf A ≠ r) : XOwns w' base e size A n cap xs := ⟨h.1.kept hg (by rw [blkOf_own]; exact hne), h.2⟩
theorem XOwns.below (h : XOwns w base e size A n cap xs) (hb : Below w.heap.size w w') : XOwns w' base e size A n cap xs := ⟨own_below h.1 hb, h.2⟩
theorem XOwns.put {p : Nat} {i : Nat} {u : Value} (h : XOwns w base e size A n cap xs) (hne : blkOf A ≠ some p) : XOwns (w.setCell ⟨p, i, none⟩ u) base e size A n cap xs := h.grown (only_setCell (only_refl _ _) (.inl rfl) _) (.inr hne)
theorem XOwns.lt (h : XOwns w base e size A n cap xs) : ∀ g, blkOf A = some g → base ≤ g ∧ g < w.heap.size := fun g hg => h.1.lt g (by rw [blkOf_own]; exact hg)
theorem XOwns.len (h : XOwns w base e size A n cap xs) : xs.length = n * size := h.1.1
theorem XOwns.reads (h : XOwns w base e size A n cap xs) : Reads w size A n xs := Reads.of_own h.1
end
theorem BOwns.x {w : World} {base : Nat} {e : TypeId} {A : Option Addr} {n cap : Nat} {xs : List Int} (h : BOwns w base e A n cap xs) : XOwns w base e 1 A n cap (bys xs) := ⟨h.1, h.2.2⟩
theorem XOwns.b {w : World} {base : Nat} {e : TypeId} {A : Option Addr} {n cap : Nat} {xs : List Int} (h : XOwns w base e 1 A n cap (bys xs)) (hb : IsBytes xs) : BOwns w base e A n cap xs := ⟨h.1, hb, h.2⟩


/-- 'append(s, src...)', src not empty, at one operation. -/
theorem append_x_op {P : Program} {w : World} {o : Oper} {a : Act} {K : Act → World → Prop} {Q : Exit → Act → World → Prop} (s x : Operand) (t : TypeId)
    (ho : o.op = .call { callee := .builtin .append, args := #[s, x], argTypes := #[t, t] })
    (base : Nat) (e : TypeId) (z : Value) (size bytes : Nat) (hrow : (P.info? e).map (fun i => (i.zero, i.size, i.bytes)) = some (some z, size, bytes)) (ht : P.underlying t = some (.slice e)) (hzs : z.cells.size = size) (hsz : 0 < size)
    (A : Option Addr) (n cap : Nat) (xs : List Value) (hs : a.eval s = .slice A n cap) (hown : XOwns w base e size A n cap xs)
    (A' : Option Addr) (m c : Nat) (news : List Value) (hx : a.eval x = .slice A' m c) (hr : Reads w size A' m news) (h1 : ∀ u ∈ news, u.oneCell' = true) (hm : 0 < m)
    (hbd : (n + m) * bytes ≤ 140737488355328) (hbd2 : n + m ≤ 140737488355328) (hbase : base ≤ w.heap.size) (H : Nat) (hH : w.heap.size = H)
    (h : ∀ g cap2 w', XOwns w' base e size (some ⟨g, 0, none⟩) (n + m) cap2 (xs ++ news) → w.grownBy w' (blkOf A) → (blkOf A = some g ∨ g = H) → g < w'.heap.size → K (a.put o.dst (.slice (some ⟨g, 0, none⟩) (n + m) cap2)) w') : o.wp P a w K Q := by
  obtain ⟨i0, hi, hz0, hz1, hz2⟩ := info_parts hrow
  obtain ⟨ad, rfl, hb, hc⟩ := hr.2 hm
  refine wp_append_lies w s x t ho base e i0 z size bytes ht hi hz0 hz1 hz2 hzs hsz _ n xs hs hown.1 ad m c news hx hr.1 hc h1 hm (by unfold maxLen; omega) hbd hbase H hH ?_
  intro g cap2 w' ho' hg hiff hlt
  rw [blkOf_own] at hg hiff
  exact h g cap2 w' ⟨ho', fun h => by cases h⟩ hg hiff hlt
/-- The same at a plain region's list. -/
theorem append_x {P : Program} {w : World} {ops : Array Oper} {rest : List Oper} {o : Oper} {a : Act} {Q : Exit → Act → World → Prop} (hgd : o.guard = none) (s x : Operand) (t : TypeId)
    (ho : o.op = .call { callee := .builtin .append, args := #[s, x], argTypes := #[t, t] })
    (base : Nat) (e : TypeId) (z : Value) (size bytes : Nat) (hrow : (P.info? e).map (fun i => (i.zero, i.size, i.bytes)) = some (some z, size, bytes)) (ht : P.underlying t = some (.slice e)) (hzs : z.cells.size = size) (hsz : 0 < size)
    (A : Option Addr) (n cap : Nat) (xs : List Value) (hs : a.eval s = .slice A n cap) (hown : XOwns w base e size A n cap xs)
    (A' : Option Addr) (m c : Nat) (news : List Value) (hx : a.eval x = .slice A' m c) (hr : Reads w size A' m news) (h1 : ∀ u ∈ news, u.oneCell' = true) (hm : 0 < m)
    (hbd : (n + m) * bytes ≤ 140737488355328) (hbd2 : n + m ≤ 140737488355328) (hbase : base ≤ w.heap.size) (H : Nat) (hH : w.heap.size = H)
    (h : ∀ g cap2 w', XOwns w' base e size (some ⟨g, 0, none⟩) (n + m) cap2 (xs ++ news) → w.grownBy w' (blkOf A) → (blkOf A = some g ∨ g = H) → g < w'.heap.size → wpList P ops Q rest (a.put o.dst (.slice (some ⟨g, 0, none⟩) (n + m) cap2)) w') : wpList P ops Q (o :: rest) a w :=
  wpList_plain hgd fun _ hK => append_x_op s x t ho base e z size bytes hrow ht hzs hsz A n cap xs hs hown A' m c news hx hr h1 hm hbd hbd2 hbase H hH fun g cap2 w' h2 h3 h4 h5 => hK _ _ (h g cap2 w' h2 h3 h4 h5)
/-- 'append([]E(nil), src...)': a copy. -/
theorem append_nil_op {P : Program} {w : World} {o : Oper} {a : Act} {K : Act → World → Prop} {Q : Exit → Act → World → Prop} (s x : Operand) (t : TypeId)
    (ho : o.op = .call { callee := .builtin .append, args := #[s, x], argTypes := #[t, t] })
    (e : TypeId) (z : Value) (size bytes : Nat) (hrow : (P.info? e).map (fun i => (i.zero, i.size, i.bytes)) = some (some z, size, bytes)) (ht : P.underlying t = some (.slice e)) (hzs : z.cells.size = size) (hsz : 0 < size)
    (hs : a.eval s = .slice none 0 0) (A : Option Addr) (m c : Nat) (news : List Value) (hx : a.eval x = .slice A m c) (hA : A = none → c = 0) (hr : Reads w size A m news) (h1 : ∀ u ∈ news, u.oneCell' = true)
    (hbd : m * bytes ≤ 140737488355328) (hbd2 : m ≤ 140737488355328)
    (h : ∀ A2 c2 w', XOwns w' w.heap.size e size A2 m c2 news → Below w.heap.size w w' → K (a.put o.dst (.slice A2 m c2)) w') : o.wp P a w K Q := by
  obtain ⟨i0, hi, hz0, hz1, hz2⟩ := info_parts hrow
  cases A with
  | none =>
    have hc := hA rfl
    subst hc
    have hm : m = 0 := by
      rcases Nat.eq_zero_or_pos m with h0 | h0
      · exact h0
      · obtain ⟨ad, e, _⟩ := hr.2 h0
        cases e
    subst hm
    have hn : news = [] := List.eq_nil_of_length_eq_zero (by rw [hr.1]; simp)
    subst hn
    have hrun := run_append_owned_none (P := P) (w := w) w.heap.size t o.type e i0 size ht hi (.slice none 0 0) 0 [] (World.ownsRow_nil _ _ _ _)
    unfold Oper.wp
    simp [execOp, ho, resolve, invoke, builtin, hs, hx, hrun, Result.andThen]
    exact h none 0 w ⟨World.ownsRow_nil _ _ _ _, fun _ => rfl⟩ (Below.refl _ _)
  | some ad =>
    have hc : ∀ j u, news[j]? = some u → w.cell? (ad.add j) = some u := by
      intro j u hj
      have hm : 0 < m := by
        rcases Nat.eq_zero_or_pos m with h0 | h0
        · subst h0
          have hn : news = [] := List.eq_nil_of_length_eq_zero (by rw [hr.1]; simp)
          subst hn
          simp at hj
        · exact h0
      obtain ⟨ad', e', _, hc⟩ := hr.2 hm
      injection e' with e'
      subst e'
      exact hc j u hj
    refine wp_append_own w s x t ho w.heap.size e i0 z size bytes ht hi hz0 hz1 hz2 hzs hsz (.slice none 0 0) 0 [] hs (World.ownsRow_nil _ _ _ _) ad m c news hx hr.1 hc h1 (by unfold maxLen; omega) (by simpa using hbd) (Nat.le_refl _) ?_
    intro v' w' h2 hg _
    rw [Nat.zero_add, List.nil_append] at h2
    have hb : Below w.heap.size w w' := (Below.refl _ _).grown hg (Nat.le_refl _) (fun k hk => by cases hk)
    rcases h2.2 with ⟨h0, h00⟩ | ⟨g, cap, cur, h0, _⟩
    · subst h0
      subst h00
      exact h none 0 w' ⟨h2, fun _ => rfl⟩ hb
    · subst h0
      exact h _ cap w' ⟨h2, fun h => by cases h⟩ hb
theorem append_nil {P : Program} {w : World} {ops : Array Oper} {rest : List Oper} {o : Oper} {a : Act} {Q : Exit → Act → World → Prop} (hgd : o.guard = none) (s x : Operand) (t : TypeId)
    (ho : o.op = .call { callee := .builtin .append, args := #[s, x], argTypes := #[t, t] })
    (e : TypeId) (z : Value) (size bytes : Nat) (hrow : (P.info? e).map (fun i => (i.zero, i.size, i.bytes)) = some (some z, size, bytes)) (ht : P.underlying t = some (.slice e)) (hzs : z.cells.size = size) (hsz : 0 < size)
    (hs : a.eval s = .slice none 0 0) (A : Option Addr) (m c : Nat) (news : List Value) (hx : a.eval x = .slice A m c) (hA : A = none → c = 0) (hr : Reads w size A m news) (h1 : ∀ u ∈ news, u.oneCell' = true)
    (hbd : m * bytes ≤ 140737488355328) (hbd2 : m ≤ 140737488355328)
    (h : ∀ A2 c2 w', XOwns w' w.heap.size e size A2 m c2 news → Below w.heap.size w w' → wpList P ops Q rest (a.put o.dst (.slice A2 m c2)) w') : wpList P ops Q (o :: rest) a w :=
  wpList_plain hgd fun _ hK => append_nil_op s x t ho e z size bytes hrow ht hzs hsz hs A m c news hx hA hr h1 hbd hbd2 fun A2 c2 w' h2 h3 => hK _ _ (h A2 c2 w' h2 h3)
theorem reads_block {w : World} {g : Nat} {t : TypeId} {cs : Array Value} (h : Blk w g t cs) (size n : Nat) (hn : cs.size = n * size) : Reads w size (some ⟨g, 0, none⟩) n cs.toList :=
  ⟨by simpa using hn, fun _ => ⟨_, rfl, h.lt, fun j u hu => by
    have e : (⟨g, 0, none⟩ : Addr).add j = ⟨g, j, none⟩ := by unfold Addr.add; split <;> simp_all
    rw [e, h.at_]
    simpa using hu⟩⟩
end Go.Proofs.YtagpphelgghbpaaGreat
