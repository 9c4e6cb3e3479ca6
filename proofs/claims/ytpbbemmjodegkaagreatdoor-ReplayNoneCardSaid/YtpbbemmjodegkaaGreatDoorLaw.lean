/-
  More words for memory: a []byte that is made; cells that stay behind a call.
-/
import Derived.Test.YtpbbemmjodegkaaGreatDoorMem
namespace Go.Proofs.YtpbbemmjodegkaaGreatDoor
open Go.RowKit

theorem keep_at {B : Nat} {W w1 : World} (hb : Below B W w1) (b : Nat) (h : b < B) : ∀ o, w1.cell? ⟨b, o, none⟩ = W.cell? ⟨b, o, none⟩ := fun o => hb.cell (p := ⟨b, o, none⟩) h
theorem keep_far {B : Nat} {W w1 : World} {obj : Obj} (hb : Below B (W.alloc obj) w1) (b : Nat) (h : b < W.heap.size) (h' : b < B) : ∀ o, w1.cell? ⟨b, o, none⟩ = W.cell? ⟨b, o, none⟩ := fun o => by
  rw [keep_at hb b h' o]
  exact World.cell?_alloc_lt W obj ⟨b, o, none⟩ h

theorem keepf_at {B : Nat} {W w1 : World} (hb : Below B W w1) (b : Nat) (h : b < B) : ∀ o, w1.frozen? ⟨b, o, none⟩ = W.frozen? ⟨b, o, none⟩ := fun o => hb.frozen (p := ⟨b, o, none⟩) h
theorem keepf_far {B : Nat} {W w1 : World} {obj : Obj} (hb : Below B (W.alloc obj) w1) (b : Nat) (h : b < W.heap.size) (h' : b < B) : ∀ o, w1.frozen? ⟨b, o, none⟩ = W.frozen? ⟨b, o, none⟩ := fun o => by
  rw [keepf_at hb b h' o]
  exact ((Below.refl W.heap.size W).alloc (Nat.le_refl _) obj).frozen (p := ⟨b, o, none⟩) h

theorem cell_new (w : World) (cs : Array Value) (t : TypeId) (o : Nat) : (w.alloc (.cells cs t)).cell? ⟨w.heap.size, o, none⟩ = cs[o]? := by
  exact World.cell?_alloc_new w cs t o
theorem frozen_new (w : World) (cs : Array Value) (t : TypeId) (o : Nat) : (w.alloc (.cells cs t)).frozen? ⟨w.heap.size, o, none⟩ = false := by
  exact World.frozen?_alloc_new w cs t o

theorem BOwns.setBelow {w : World} {base : Nat} {e : TypeId} {A : Option Addr} {n cap : Nat} {xs : List Int} (h : BOwns w base e A n cap xs) {p : Addr} (hp : p.block < base) (u : Value) : BOwns (w.setCell p u) base e A n cap xs :=
  ⟨ownsRow_setCell_below h.1 hp u, h.2⟩

theorem make_bytes {P : Program} (w : World) {ops : Array Oper} {rest : List Oper} {o : Oper} {a : Act} {Q : Exit → Act → World → Prop}
    (hg : o.guard = none) (l c : Operand) (t : TypeId) (hop : o.op = Op.makeSlice t l c)
    (base : Nat) (e : TypeId) (hrow : (P.info? e).map (fun i => (i.zero, i.size, i.bytes)) = some (some (.int .u8 0), 1, 1)) (ht : P.underlying t = some (.slice e))
    (kl kc : IntKind) (C : Int) (n : Nat) (hl : a.eval l = .int kl 0) (hc : a.eval c = .int kc C) (hC : C = (n : Int)) (b2 : n ≤ 281474976710656) (b4 : base ≤ w.heap.size)
    (hK : ∀ w', BOwns w' base e (some ⟨w.heap.size, 0, none⟩) 0 n [] → Below w.heap.size w w' → wpList P ops Q rest (a.put o.dst (.slice (some ⟨w.heap.size, 0, none⟩) 0 n)) w') :
    wpList P ops Q (o :: rest) a w := by
  obtain ⟨i0, hi, hz0, hz1, hz2⟩ := info_parts hrow
  refine wpList_make_own w hg l c t hop base e i0 (.int .u8 0) 1 ht hi hz0 hz1 kl kc C n hl hc hC (by rw [hz2]; omega) (by unfold maxLen; omega) b4 ?_
  intro w' ho hgr
  exact hK w' ⟨ho, (fun _ h => by cases h), fun h => by cases h⟩ ((Below.refl _ _).grown hgr (Nat.le_refl _) (fun k hk => by cases hk))

end Go.Proofs.YtpbbemmjodegkaaGreatDoor
