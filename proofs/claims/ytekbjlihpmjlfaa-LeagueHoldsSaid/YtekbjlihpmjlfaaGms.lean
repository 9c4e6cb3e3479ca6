/-
  Games, rows, duels, numbers in memory.
-/
import Derived.Test.YtekbjlihpmjlfaaPlain
import Derived.Test.YtekbjlihpmjlfaaRowR
import Derived.Test.YtekbjlihpmjlfaaOnlyF
set_option linter.unusedSimpArgs false
set_option linter.unusedVariables false
namespace Go.Proofs.Ytekbjlihpmjlfaa
open Go.RowKit

def ith (xs : List Int) (k : Nat) : Int := xs.getD k 0
theorem ith_get {xs : List Int} {k : Nat} (h : k < xs.length) : xs[k]? = some (ith xs k) := by simp [ith, List.getD, List.getElem?_eq_getElem h]
theorem ith_ext {xs ys : List Int} (hl : xs.length = ys.length) (h : ∀ j, j < xs.length → ith xs j = ith ys j) : xs = ys := by
  refine List.ext_getElem? fun j => ?_
  rcases Nat.lt_or_ge j xs.length with hj | hj
  · rw [ith_get hj, ith_get (by omega), h j hj]
  · rw [List.getElem?_eq_none hj, List.getElem?_eq_none (by omega)]
theorem ilen {w : World} {A : Option Addr} {n : Nat} {xs : List Int} (h : Reads w 1 A n (ics xs)) : xs.length = n := by have := h.1; simpa [ics] using this
theorem int_at {w : World} {A : Option Addr} {n : Nat} {xs : List Int} (h : Reads w 1 A n (ics xs)) {k : Nat} (hk : k < n) : ∃ ad, A = some ad ∧ ad.block < w.heap.size ∧ w.cell? (ad.add k) = some (.int .i64 (ith xs k)) := by
  obtain ⟨ad, e, hb, hc⟩ := h.2 (by omega)
  refine ⟨ad, e, hb, hc k _ ?_⟩
  rw [ics, List.getElem?_map, ith_get (by have := ilen h; omega)]
  rfl
def g0 : Gm := ⟨0, 0, 0⟩
def gth (l : List Gm) (k : Nat) : Gm := l.getD k g0
theorem gth_get {xs : List Gm} {k : Nat} (h : k < xs.length) : xs[k]? = some (gth xs k) := by simp [gth, List.getD, List.getElem?_eq_getElem h]
theorem gcells_len (l : List Gm) : (gcells l).length = l.length * 3 := by
  induction l with
  | nil => rfl
  | cons m l ih => simp only [gcells, List.flatMap_cons, List.length_append, List.length_cons] at ih ⊢; rw [ih]; simp [Gm.cells]; omega
theorem glen {w : World} {A : Option Addr} {n : Nat} {l : List Gm} (h : Reads w 3 A n (gcells l)) : l.length = n := by have := h.1; rw [gcells_len] at this; omega
theorem game_at {w : World} {A : Option Addr} {n : Nat} {l : List Gm} (h : Reads w 3 A n (gcells l)) {k : Nat} (hk : k < n) : ∃ ad, A = some ad ∧ ad.block < w.heap.size ∧
    w.cell? (ad.add (k * 3)) = some (.int .i64 (gth l k).a) ∧ w.cell? ⟨(ad.add (k * 3)).block, (ad.add (k * 3)).off + 1, none⟩ = some (.int .i64 (gth l k).b) ∧ w.cell? ⟨(ad.add (k * 3)).block, (ad.add (k * 3)).off + 2, none⟩ = some (.int .i64 (gth l k).o) := by
  have hr : RowR w 3 A n (l.map Gm.cells) := ⟨by simpa [gcells, List.flatMap] using h, fun r hr => by obtain ⟨m, _, rfl⟩ := List.mem_map.1 hr; rfl, by rw [List.length_map]; exact glen h⟩
  obtain ⟨ad, r, e, hb, hr, _, hc⟩ := RowR.at_ hr hk
  rw [List.getElem?_map, gth_get (by have := glen h; omega)] at hr
  simp only [Option.map_some, Option.some.injEq] at hr
  subst hr
  exact ⟨ad, e, hb, hc 0 _ rfl, part_at 0 (hc 1 _ rfl), part_at 1 (hc 2 _ rfl)⟩
theorem gcells_one (l : List Gm) : ∀ u ∈ gcells l, u.oneCell' = true := by
  intro u hu
  simp only [gcells, List.mem_flatMap] at hu
  obtain ⟨d, _, hd⟩ := hu
  simp [Gm.cells] at hd
  rcases hd with rfl | rfl | rfl <;> rfl
theorem below_drew_ {B : Nat} {a w : World} (h : Below B a w) (k : Nat) : Below B a (w.drewN k) := ⟨h.os, h.tape, h.output, h.size, h.block⟩
theorem ad_zero {g j : Nat} : (⟨g, 0, none⟩ : Addr).add j = ⟨g, j, none⟩ := by unfold Addr.add; split <;> simp_all
theorem own_lower {w : World} {b b' : Nat} {e : TypeId} {size n c : Nat} {A : Option Addr} {xs : List Value} (h : XOwns w b e size A n c xs) (hb : b' ≤ b) : XOwns w b' e size A n c xs := h.more hb
theorem XOwns.setX {w : World} {base : Nat} {e : TypeId} {size g n c : Nat} {xs : List Value} (h : XOwns w base e size (some ⟨g, 0, none⟩) n c xs) (j : Nat) (u : Value) : XOwns (w.setCell ⟨g, j, none⟩ u) base e size (some ⟨g, 0, none⟩) n c (xs.set j u) :=
  ⟨(h.1.stored j u).1, h.2⟩
end Go.Proofs.Ytekbjlihpmjlfaa
