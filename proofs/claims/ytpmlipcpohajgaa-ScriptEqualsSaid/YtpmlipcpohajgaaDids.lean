/-
  Packets, moves, things that were done: how they read; when two are equal.
-/
import Derived.Test.YtpmlipcpohajgaaRowR
import Derived.Test.YtpmlipcpohajgaaEqual
set_option linter.unusedSimpArgs false
set_option linter.unusedVariables false
namespace Go.Proofs.Ytpmlipcpohajgaa
open Go.RowKit

structure SentV where
  c : Int
  d : List Int
structure SentC where
  v : SentV
  A : Option Addr
  cap : Nat
def SentC.cells (o : SentC) : List Value := [.int .i64 o.v.c, .slice o.A o.v.d.length o.cap]
def sentEq (a b : SentV) : Bool := a.c == b.c && a.d == b.d
theorem sentEq_iff (a b : SentV) : sentEq a b = true ↔ a = b := by
  cases a; cases b
  simp [sentEq]
def SReads (w : World) (A : Option Addr) (n : Nat) (l : List SentV) : Prop :=
  ∃ cs : List SentC, RowR w 2 A n (cs.map SentC.cells) ∧ cs.map SentC.v = l ∧ ∀ o ∈ cs, BReads w o.A o.v.d.length o.v.d ∧ (o.A = none → o.cap = 0)

structure MoveV where
  p : Int
  why : Int
  k : Int
  id : Int
  to : Int
  at_ : Int
def MoveV.cells (m : MoveV) : List Value := [.int .i64 m.p, .int .i64 m.why, .int .i64 m.k, .int .i64 m.id, .int .i64 m.to, .int .u64 m.at_]
def moveEq (a b : MoveV) : Bool := a.p == b.p && a.why == b.why && (a.k == b.k && a.id == b.id && a.to == b.to) && a.at_ == b.at_
theorem moveEq_iff (a b : MoveV) : moveEq a b = true ↔ a = b := by
  cases a; cases b
  simp [moveEq, and_assoc]
def MReads (w : World) (A : Option Addr) (n : Nat) (l : List MoveV) : Prop := RowR w 6 A n (l.map MoveV.cells)

section
variable {w w' : World} {A : Option Addr} {n : Nat} {l : List SentV} {m : List MoveV}
theorem SReads.below (h : SReads w A n l) (hb : Below w.heap.size w w') : SReads w' A n l := by
  obtain ⟨cs, h1, h2, h3⟩ := h
  exact ⟨cs, h1.below hb, h2, fun o ho => ⟨(h3 o ho).1.below hb, (h3 o ho).2⟩⟩
theorem SReads.length (h : SReads w A n l) : l.length = n := by
  obtain ⟨cs, h1, rfl, _⟩ := h
  have := h1.2.2
  simpa using this
theorem SReads.at_ (h : SReads w A n l) {k : Nat} (hk : k < n) : ∃ (ad : Addr) (v : SentV) (D : Option Addr) (dc : Nat), A = some ad ∧ ad.block < w.heap.size ∧ l[k]? = some v ∧
    w.cell? (ad.add (k * 2)) = some (.int .i64 v.c) ∧ w.cell? ⟨(ad.add (k * 2)).block, (ad.add (k * 2)).off + 1, none⟩ = some (.slice D v.d.length dc) ∧ BReads w D v.d.length v.d ∧ (D = none → dc = 0) := by
  obtain ⟨cs, h1, rfl, h3⟩ := h
  obtain ⟨ad, r, e, hb, hr, _, hc⟩ := h1.at_ hk
  rw [List.getElem?_map] at hr
  obtain ⟨o, ho, rfl⟩ := Option.map_eq_some_iff.1 hr
  have hm := h3 o (List.mem_of_getElem? ho)
  exact ⟨ad, o.v, o.A, o.cap, e, hb, by rw [List.getElem?_map, ho]; rfl, hc 0 _ rfl, part_at 0 (hc 1 _ rfl), hm.1, hm.2⟩
theorem MReads.below (h : MReads w A n m) (hb : Below w.heap.size w w') : MReads w' A n m := RowR.below h hb
theorem MReads.length (h : MReads w A n m) : m.length = n := by
  have := h.2.2
  simpa using this
theorem MReads.at_ (h : MReads w A n m) {k : Nat} (hk : k < n) : ∃ (ad : Addr) (v : MoveV), A = some ad ∧ ad.block < w.heap.size ∧ m[k]? = some v ∧
    w.cell? (ad.add (k * 6)) = some (.int .i64 v.p) ∧ w.cell? ⟨(ad.add (k * 6)).block, (ad.add (k * 6)).off + 1, none⟩ = some (.int .i64 v.why) ∧ w.cell? ⟨(ad.add (k * 6)).block, (ad.add (k * 6)).off + 2, none⟩ = some (.int .i64 v.k) ∧
    w.cell? ⟨(ad.add (k * 6)).block, (ad.add (k * 6)).off + 3, none⟩ = some (.int .i64 v.id) ∧ w.cell? ⟨(ad.add (k * 6)).block, (ad.add (k * 6)).off + 4, none⟩ = some (.int .i64 v.to) ∧ w.cell? ⟨(ad.add (k * 6)).block, (ad.add (k * 6)).off + 5, none⟩ = some (.int .u64 v.at_) := by
  obtain ⟨ad, r, e, hb, hr, _, hc⟩ := RowR.at_ h hk
  rw [List.getElem?_map] at hr
  obtain ⟨v, hv, rfl⟩ := Option.map_eq_some_iff.1 hr
  exact ⟨ad, v, e, hb, hv, hc 0 _ rfl, part_at 0 (hc 1 _ rfl), part_at 1 (hc 2 _ rfl), part_at 2 (hc 3 _ rfl), part_at 3 (hc 4 _ rfl), part_at 4 (hc 5 _ rfl)⟩
end

/-- Two lists, compared one element after the other. -/
def allEq {α : Type} (d : α) (eq : α → α → Bool) (l m : List α) : Bool := l.length == m.length && (List.range l.length).all fun i => eq (l.getD i d) (m.getD i d)
theorem allEq_iff {α : Type} (d : α) (eq : α → α → Bool) (h : ∀ a b, eq a b = true ↔ a = b) (l m : List α) : allEq d eq l m = true ↔ l = m := by
  unfold allEq
  rw [Bool.and_eq_true, beq_iff_eq, List.all_eq_true]
  constructor
  · rintro ⟨h1, h2⟩
    refine List.ext_getElem h1 fun i q1 q2 => ?_
    have := (h _ _).1 (h2 i (List.mem_range.2 q1))
    simpa [List.getD, List.getElem?_eq_getElem q1, List.getElem?_eq_getElem q2] using this
  · rintro rfl
    exact ⟨rfl, fun i _ => (h _ _).2 rfl⟩
def s0 : SentV := ⟨0, []⟩
def m0 : MoveV := ⟨0, 0, 0, 0, 0, 0⟩
def sentsEq (l m : List SentV) : Bool := allEq s0 sentEq l m
def movesEq (l m : List MoveV) : Bool := allEq m0 moveEq l m

/-- A thing that was done, and where its parts lie. -/
structure DidC where
  sk : Int
  sc : Int
  sn : Int
  dA : Option Addr
  dc : Nat
  sd : List Int
  err : Int
  n : Int
  sA : Option Addr
  sC : Nat
  sents : List SentV
  mA : Option Addr
  mC : Nat
  moves : List MoveV
  work : Int
  at_ : Int
def DidIs (w : World) (x : DidC) : Prop := BReads w x.dA x.sd.length x.sd ∧ SReads w x.sA x.sents.length x.sents ∧ MReads w x.mA x.moves.length x.moves ∧ x.sents.length ≤ 9223372036854775807 ∧ x.moves.length ≤ 9223372036854775807 ∧ x.sd.length ≤ 9223372036854775807
theorem DidIs.below {w w' : World} {x : DidC} (h : DidIs w x) (hb : Below w.heap.size w w') : DidIs w' x := ⟨h.1.below hb, h.2.1.below hb, h.2.2.1.below hb, h.2.2.2⟩
def stepEq (x y : DidC) : Bool := x.sk == y.sk && x.sc == y.sc && x.sn == y.sn && x.sd == y.sd
def didEq (x y : DidC) : Bool := stepEq x y && x.err == y.err && x.n == y.n && x.work == y.work && x.at_ == y.at_ && sentsEq x.sents y.sents && movesEq x.moves y.moves
theorem didEq_self (x : DidC) : didEq x x = true := by
  unfold didEq stepEq sentsEq movesEq
  rw [(allEq_iff s0 sentEq sentEq_iff _ _).2 rfl, (allEq_iff m0 moveEq moveEq_iff _ _).2 rfl]
  simp

end Go.Proofs.Ytpmlipcpohajgaa
