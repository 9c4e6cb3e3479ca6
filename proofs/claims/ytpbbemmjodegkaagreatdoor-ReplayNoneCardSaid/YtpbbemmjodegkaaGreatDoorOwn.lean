/-
  Appends, with what has turned: one block, or none.
-/
import Derived.Test.YtpbbemmjodegkaaGreatDoorOnly
namespace Go.Proofs.YtpbbemmjodegkaaGreatDoor
open Go.RowKit

/-- The block where a slice lies. -/
def blkOf (A : Option Addr) : Option Nat := A.map (·.block)
theorem blkOf_own (A : Option Addr) (n c : Nat) : (Value.slice A n c).ownBlock = blkOf A := by cases A <;> rfl
/-- A' lies where A lies, or in a block that is new since w. -/
def sameOrNew (w : World) (A A' : Option Addr) : Prop := ∀ g, blkOf A' = some g → blkOf A = some g ∨ w.heap.size ≤ g
theorem sameOrNew.refl (w : World) (A : Option Addr) : sameOrNew w A A := fun _ h => .inl h
theorem sameOrNew.trans {w w1 : World} {A B C : Option Addr} (h : sameOrNew w A B) (h' : sameOrNew w1 B C) (hz : w.heap.size ≤ w1.heap.size) : sameOrNew w A C := fun g hg => by
  rcases h' g hg with h1 | h1
  · exact h g h1
  · exact .inr (by omega)
theorem grown_trans {a b c : World} {A B : Option Addr} (h : a.grownBy b (blkOf A)) (h' : b.grownBy c (blkOf B)) (hr : sameOrNew a A B) : a.grownBy c (blkOf A) :=
  ⟨h'.os.trans h.os, h'.tape.trans h.tape, h'.output.trans h.output, Nat.le_trans h.size h'.size, fun i hi hne => (h'.block i (Nat.lt_of_lt_of_le hi h.size) (fun e => by
    rcases hr i e.symm with h1 | h1
    · exact hne (by rw [h1])
    · omega)).trans (h.block i hi hne)⟩
theorem grown_alloc (w : World) (o : Obj) (r : Option Nat) : w.grownBy (w.alloc o) r :=
  ⟨rfl, rfl, rfl, by simp, fun i hi _ => ((Below.refl w.heap.size w).alloc (Nat.le_refl _) o).block i hi⟩
theorem grown_drew {a b : World} {r : Option Nat} (h : a.grownBy b r) : a.grownBy b.drew r := ⟨h.os, h.tape, h.output, h.size, h.block⟩
theorem grown_drewN {a b : World} {r : Option Nat} (h : a.grownBy b r) (n : Nat) : a.grownBy (b.drewN n) r := ⟨h.os, h.tape, h.output, h.size, h.block⟩
/-- First new memory alone, then one block. -/
theorem grown_pre {a b c : World} {r : Option Nat} (h : Below a.heap.size a b) (h' : b.grownBy c r) : a.grownBy c r :=
  ⟨h'.os.trans h.os, h'.tape.trans h.tape, h'.output.trans h.output, Nat.le_trans h.size h'.size, fun i hi hne => (h'.block i (Nat.lt_of_lt_of_le hi h.size) hne).trans (h.block i hi)⟩
/-- First one block, then new memory alone. -/
theorem grown_post {a b c : World} {r : Option Nat} (h : a.grownBy b r) (h' : Below b.heap.size b c) : a.grownBy c r :=
  ⟨h'.os.trans h.os, h'.tape.trans h.tape, h'.output.trans h.output, Nat.le_trans h.size h'.size, fun i hi hne => (h'.block i (Nat.lt_of_lt_of_le hi h.size)).trans (h.block i hi hne)⟩
theorem grown_below {B : Nat} {a b : World} {A : Option Addr} (h : a.grownBy b (blkOf A)) (hB : B ≤ a.heap.size) (hg : ∀ g, blkOf A = some g → B ≤ g) : Below B a b := (Below.refl _ _).grown h hB hg
theorem own_blk {w : World} {base : Nat} {e : TypeId} {A : Option Addr} {n cap : Nat} {xs : List Int} (h : BOwns w base e A n cap xs) : ∀ g, blkOf A = some g → base ≤ g := fun g hg => (h.1.lt g (by rw [blkOf_own]; exact hg)).1
theorem own_lt {w : World} {base : Nat} {e : TypeId} {A : Option Addr} {n cap : Nat} {xs : List Int} (h : BOwns w base e A n cap xs) : ∀ g, blkOf A = some g → g < w.heap.size := fun g hg => (h.1.lt g (by rw [blkOf_own]; exact hg)).2
/-- What reads elsewhere stays. -/
theorem Reads.grown {w w' : World} {size n : Nat} {A : Option Addr} {xs : List Value} {r : Option Nat} (h : Reads w size A n xs) (hg : w.grownBy w' r) (hne : 0 < n → blkOf A ≠ r) : Reads w' size A n xs :=
  ⟨h.1, fun hn => by
    obtain ⟨ad, rfl, hb, hc⟩ := h.2 hn
    refine ⟨ad, rfl, Nat.lt_of_lt_of_le hb hg.size, fun j u hu => (World.cell?_of_block (hg.block _ (by rw [block_of_add]; exact hb) ?_)).trans (hc j u hu)⟩
    rw [block_of_add]
    exact hne hn⟩
theorem BReads.grown {w w' : World} {n : Nat} {A : Option Addr} {xs : List Int} {r : Option Nat} (h : BReads w A n xs) (hg : w.grownBy w' r) (hne : 0 < n → blkOf A ≠ r) : BReads w' A n xs := ⟨h.1.grown hg hne, h.2⟩
theorem BOwns.grown {w w' : World} {base : Nat} {e : TypeId} {A : Option Addr} {n cap : Nat} {xs : List Int} {r : Option Nat} (h : BOwns w base e A n cap xs) (hg : w.grownBy w' r) (hne : blkOf A = none ∨ blkOf A ≠ r) : BOwns w' base e A n cap xs :=
  ⟨h.1.kept hg (by rw [blkOf_own]; exact hne), h.2⟩

/-- 'append(b, src...)' over bytes, src not empty: b the call's own. What has turned: b's block alone. -/
theorem append_bytes_at {P : Program} (w : World) {ops : Array Oper} {rest : List Oper} {o : Oper} {a : Act} {Q : Exit → Act → World → Prop} (hgd : o.guard = none) (s x : Operand) (t : TypeId)
    (ho : o.op = .call { callee := .builtin .append, args := #[s, x], argTypes := #[t, t] })
    (base : Nat) (e : TypeId) (hrow : (P.info? e).map (fun i => (i.zero, i.size, i.bytes)) = some (some (.int .u8 0), 1, 1)) (ht : P.underlying t = some (.slice e))
    (A : Option Addr) (n cap : Nat) (xs : List Int) (hs : a.eval s = .slice A n cap) (hown : BOwns w base e A n cap xs)
    (A' : Option Addr) (m c : Nat) (ys : List Int) (hx : a.eval x = .slice A' m c) (hr : BReads w A' m ys) (hm : 0 < m)
    (hbd : n + m ≤ 140737488355328) (hbase : base ≤ w.heap.size) (H : Nat) (hH : w.heap.size = H)
    (h : ∀ g cap2 w', BOwns w' base e (some ⟨g, 0, none⟩) (n + m) cap2 (xs ++ ys) → w.grownBy w' (blkOf A) → (blkOf A = some g ∨ g = H) → g < w'.heap.size → wpList P ops Q rest (a.put o.dst (.slice (some ⟨g, 0, none⟩) (n + m) cap2)) w') : wpList P ops Q (o :: rest) a w := by
  obtain ⟨i0, hi, hz0, hz1, hz2⟩ := info_parts hrow
  obtain ⟨ad, rfl, hb, hc⟩ := hr.1.2 hm
  refine wpList_append_lies w hgd s x t ho base e i0 (.int .u8 0) 1 1 ht hi hz0 hz1 hz2 rfl (by decide) _ n (bys xs) hs hown.1 ad m c (bys ys) hx hr.1.1 hc (bys_one _) hm (by unfold maxLen; omega) (by omega) hbase H hH ?_
  intro g cap2 w' ho' hg hiff hlt
  rw [blkOf_own] at hg hiff
  have hm : bys xs ++ bys ys = bys (xs ++ ys) := by simp [bys]
  rw [hm] at ho'
  exact h g cap2 w' ⟨ho', (fun z hz => by
    rcases List.mem_append.1 hz with hz | hz
    · exact hown.2.1 z hz
    · exact hr.2 z hz), fun h => by cases h⟩ hg hiff hlt
end Go.Proofs.YtpbbemmjodegkaaGreatDoor
