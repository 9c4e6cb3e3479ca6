/-
  The reader of script: op.
-/
import Derived.Test.YtpmlipcpohajgaaRead
import Derived.Handy
set_option linter.unusedSimpArgs false
set_option linter.unusedVariables false
namespace Go.Proofs.Ytpmlipcpohajgaa
open Go.RowKit

/-- An operation: its kind, connection, numbers, data. -/
structure OpV where
  k : Int
  c : Int
  n : Int
  m : Int
  d : List Int

/-- The operation that bytes begin with, and how many bytes it takes. -/
def opS (xs : List Int) : OpV × Nat :=
  let x := nth xs 0
  let c := x / 16
  if x % 16 = 2 then (⟨1, 0, 0, 0, []⟩, 1)
  else if x % 16 = 3 then (⟨2, c, 0, 0, []⟩, 1)
  else if x % 16 = 10 then (⟨3, 0, 256 * nth xs 1 + nth xs 2, 0, []⟩, 3)
  else if x % 16 = 4 then (⟨3, 0, nth xs 1, 0, []⟩, 2)
  else if x % 16 = 5 then (⟨4, c, 0, 0, takeZ (nth xs 1).toNat (xs.drop 2)⟩, 2 + (nth xs 1).toNat)
  else if x % 16 = 6 then (⟨5, c, nth xs 1 % 3, 0, []⟩, 2)
  else if x % 16 = 7 then (⟨6, c, nth xs 1, nth xs 2, []⟩, 3)
  else if x % 16 = 8 then (⟨7, c, 0, nth xs 1, []⟩, 2)
  else if x % 16 = 9 then (⟨8, c, nth xs 1, 0, []⟩, 2)
  else (⟨6, c, nth xs 1, 0, []⟩, 2)

theorem tail_drop_ (xs : List Int) : ∀ k, (xs.drop k).tail = xs.drop (k + 1) := fun k => by rw [← List.drop_one, List.drop_drop]

def OpPost (w : World) (B p : Nat) (xs : List Int) (o : OpV) (j : Nat) (e : Ending) (w' : World) : Prop :=
  ∃ A n c, e = .returned (.agg #[.int .i64 o.k, .int .i64 o.c, .int .i64 o.n, .int .i64 o.m, .slice A n c]) ∧ BOwns w' w.heap.size 5 A n c o.d ∧ Rd w' B p (xs.drop j) ∧ w.grownBy w' (some p)

theorem op_fin {w w1 W : World} {B p : Nat} {xs : List Int} {o : OpV} {j : Nat} {e : Ending} (hb : Below w.heap.size w1 W) (hBw : B ≤ w.heap.size) (hR : Rd w1 B p (xs.drop j)) (hG : w.grownBy w1 (some p)) (A : Option Addr) (n c : Nat)
    (he : e = .returned (.agg #[.int .i64 o.k, .int .i64 o.c, .int .i64 o.n, .int .i64 o.m, .slice A n c])) (ho : BOwns W w.heap.size 5 A n c o.d) : OpPost w B p xs o j e W :=
  ⟨A, n, c, he, ho, hR.below (hb.mono hBw), only_then hG hb (Nat.le_refl _)⟩

set_option maxHeartbeats 400000 in
theorem op_2 (B p : Nat) (xs : List Int) (w : World) (h : Rd w B p xs) (h0 : 2 ≤ nth xs 0 % 16) (h1 : nth xs 0 % 16 ≤ 2) :
    Calls Try.prog 20 #[.pointer (some ⟨p, 0, none⟩)] w (OpPost w B p xs ⟨1, 0, 0, 0, []⟩ 1) := by
  have hb0 := nth_bd h.bytes 0
  have hb1 := nth_bd h.bytes 1
  have hb2 := nth_bd h.bytes 2
  have hpw := h.lt
  have hBw := h.1.2
  have HT1 := Lib.hid (nth_tail xs 0)
  have HT2 := Lib.hid (nth_tail xs.tail 0)
  have HT3 := Lib.hid (nth_tail xs 1)
  have HD := Lib.hid (tail_drop_ xs)
  have hR0 := h.alloc (.cells #[.int .i64 0, .int .i64 0, .int .i64 0, .int .i64 0, .slice none 0 0] 33)
  clear h
  go_enter Try.func20, Try.ntmps20
  go_wp2_with fail
  refine (next_any B p _ _ hR0).mono ?_
  rintro e w1 ⟨rfl, hR1, hg1⟩
  have hk1 := only_cell hg1 w.heap.size (by (focus (first | omega | (simp only [World.size_alloc]; done) | (simp only [World.size_alloc]; omega) | (simp; done) | (simp; omega)))) (by omega)
  have hkf1 := only_frozen hg1 w.heap.size (by (focus (first | omega | (simp only [World.size_alloc]; done) | (simp only [World.size_alloc]; omega) | (simp; done) | (simp; omega)))) (by omega)
  have hG : w.grownBy w1 (some p) := (World.grownBy_alloc w _ _).trans hg1
  have hZ1 : w.heap.size < w1.heap.size := by have := hg1.size; simp at this; omega
  clear hR0 hg1
  generalize hx : nth xs 0 = x at *
  have HX := Lib.hid hx
  clear hx
  rw [← List.drop_one] at hR1
  go_wp2
  refine bodyPost_ret (v := .agg #[.int .i64 (1), .int .i64 (0), .int .i64 (0), .int .i64 (0), .slice none 0 0]) (by simp [results, Try.results20, go_sem, hk1, hZ1]) rfl ?_
  refine op_fin (w1 := w1) ?_ hBw hR1 hG none 0 0 rfl (BOwns.nil _ _ _)
  (focus (repeat' (first | (with_reducible exact Below.refl _ _) | (with_reducible assumption) | (with_reducible refine Below.alloc ?_ ?_ _) | (with_reducible refine below_drewN ?_ _) | (with_reducible refine Below.drew ?_) | (with_reducible refine Below.setCell ?_ ?_ _) | omega | (simp; done) | (simp; omega))))

set_option maxHeartbeats 400000 in
theorem op_3 (B p : Nat) (xs : List Int) (w : World) (h : Rd w B p xs) (h0 : 3 ≤ nth xs 0 % 16) (h1 : nth xs 0 % 16 ≤ 3) :
    Calls Try.prog 20 #[.pointer (some ⟨p, 0, none⟩)] w (OpPost w B p xs ⟨2, nth xs 0 / 16, 0, 0, []⟩ 1) := by
  have hb0 := nth_bd h.bytes 0
  have hb1 := nth_bd h.bytes 1
  have hb2 := nth_bd h.bytes 2
  have hpw := h.lt
  have hBw := h.1.2
  have HT1 := Lib.hid (nth_tail xs 0)
  have HT2 := Lib.hid (nth_tail xs.tail 0)
  have HT3 := Lib.hid (nth_tail xs 1)
  have HD := Lib.hid (tail_drop_ xs)
  have hR0 := h.alloc (.cells #[.int .i64 0, .int .i64 0, .int .i64 0, .int .i64 0, .slice none 0 0] 33)
  clear h
  go_enter Try.func20, Try.ntmps20
  go_wp2_with fail
  refine (next_any B p _ _ hR0).mono ?_
  rintro e w1 ⟨rfl, hR1, hg1⟩
  have hk1 := only_cell hg1 w.heap.size (by (focus (first | omega | (simp only [World.size_alloc]; done) | (simp only [World.size_alloc]; omega) | (simp; done) | (simp; omega)))) (by omega)
  have hkf1 := only_frozen hg1 w.heap.size (by (focus (first | omega | (simp only [World.size_alloc]; done) | (simp only [World.size_alloc]; omega) | (simp; done) | (simp; omega)))) (by omega)
  have hG : w.grownBy w1 (some p) := (World.grownBy_alloc w _ _).trans hg1
  have hZ1 : w.heap.size < w1.heap.size := by have := hg1.size; simp at this; omega
  clear hR0 hg1
  generalize hx : nth xs 0 = x at *
  have HX := Lib.hid hx
  clear hx
  rw [← List.drop_one] at hR1
  go_wp2
  refine bodyPost_ret (v := .agg #[.int .i64 (2), .int .i64 (x / 16), .int .i64 (0), .int .i64 (0), .slice none 0 0]) (by simp [results, Try.results20, go_sem, hk1, hZ1]) rfl ?_
  refine op_fin (w1 := w1) ?_ hBw hR1 hG none 0 0 rfl (BOwns.nil _ _ _)
  (focus (repeat' (first | (with_reducible exact Below.refl _ _) | (with_reducible assumption) | (with_reducible refine Below.alloc ?_ ?_ _) | (with_reducible refine below_drewN ?_ _) | (with_reducible refine Below.drew ?_) | (with_reducible refine Below.setCell ?_ ?_ _) | omega | (simp; done) | (simp; omega))))

set_option maxHeartbeats 400000 in
theorem op_4 (B p : Nat) (xs : List Int) (w : World) (h : Rd w B p xs) (h0 : 4 ≤ nth xs 0 % 16) (h1 : nth xs 0 % 16 ≤ 4) :
    Calls Try.prog 20 #[.pointer (some ⟨p, 0, none⟩)] w (OpPost w B p xs ⟨3, 0, nth xs 1, 0, []⟩ 2) := by
  have hb0 := nth_bd h.bytes 0
  have hb1 := nth_bd h.bytes 1
  have hb2 := nth_bd h.bytes 2
  have hpw := h.lt
  have hBw := h.1.2
  have HT1 := Lib.hid (nth_tail xs 0)
  have HT2 := Lib.hid (nth_tail xs.tail 0)
  have HT3 := Lib.hid (nth_tail xs 1)
  have HD := Lib.hid (tail_drop_ xs)
  have hR0 := h.alloc (.cells #[.int .i64 0, .int .i64 0, .int .i64 0, .int .i64 0, .slice none 0 0] 33)
  clear h
  go_enter Try.func20, Try.ntmps20
  go_wp2_with fail
  refine (next_any B p _ _ hR0).mono ?_
  rintro e w1 ⟨rfl, hR1, hg1⟩
  have hk1 := only_cell hg1 w.heap.size (by (focus (first | omega | (simp only [World.size_alloc]; done) | (simp only [World.size_alloc]; omega) | (simp; done) | (simp; omega)))) (by omega)
  have hkf1 := only_frozen hg1 w.heap.size (by (focus (first | omega | (simp only [World.size_alloc]; done) | (simp only [World.size_alloc]; omega) | (simp; done) | (simp; omega)))) (by omega)
  have hG : w.grownBy w1 (some p) := (World.grownBy_alloc w _ _).trans hg1
  have hZ1 : w.heap.size < w1.heap.size := by have := hg1.size; simp at this; omega
  clear hR0 hg1
  generalize hx : nth xs 0 = x at *
  have HX := Lib.hid hx
  clear hx
  rw [← List.drop_one] at hR1
  go_wp2_with fail
  refine (next_any B p _ _ hR1).mono ?_
  rintro e w2 ⟨rfl, hR2, hg2⟩
  rw [HD.out] at hR2
  rw [show nth (xs.drop 1) 0 = nth xs 1 from by rw [nth_drop]]
  have hk2 := only_cell hg2 w.heap.size (by omega) (by omega)
  have hkf2 := only_frozen hg2 w.heap.size (by omega) (by omega)
  have hG := hG.trans hg2
  have hZ2 : w.heap.size < w2.heap.size := by have := hg2.size; omega
  clear hR1 hg2
  generalize hy : nth xs 1 = y at *
  clear hy
  go_wp2
  refine bodyPost_ret (v := .agg #[.int .i64 (3), .int .i64 (0), .int .i64 (y), .int .i64 (0), .slice none 0 0]) (by simp [results, Try.results20, go_sem, hk1, hZ1, hk2, hZ2]) rfl ?_
  refine op_fin (w1 := w2) ?_ hBw hR2 hG none 0 0 rfl (BOwns.nil _ _ _)
  (focus (repeat' (first | (with_reducible exact Below.refl _ _) | (with_reducible assumption) | (with_reducible refine Below.alloc ?_ ?_ _) | (with_reducible refine below_drewN ?_ _) | (with_reducible refine Below.drew ?_) | (with_reducible refine Below.setCell ?_ ?_ _) | omega | (simp; done) | (simp; omega))))

set_option maxHeartbeats 400000 in
theorem op_6 (B p : Nat) (xs : List Int) (w : World) (h : Rd w B p xs) (h0 : 6 ≤ nth xs 0 % 16) (h1 : nth xs 0 % 16 ≤ 6) :
    Calls Try.prog 20 #[.pointer (some ⟨p, 0, none⟩)] w (OpPost w B p xs ⟨5, nth xs 0 / 16, nth xs 1 % 3, 0, []⟩ 2) := by
  have hb0 := nth_bd h.bytes 0
  have hb1 := nth_bd h.bytes 1
  have hb2 := nth_bd h.bytes 2
  have hpw := h.lt
  have hBw := h.1.2
  have HT1 := Lib.hid (nth_tail xs 0)
  have HT2 := Lib.hid (nth_tail xs.tail 0)
  have HT3 := Lib.hid (nth_tail xs 1)
  have HD := Lib.hid (tail_drop_ xs)
  have hR0 := h.alloc (.cells #[.int .i64 0, .int .i64 0, .int .i64 0, .int .i64 0, .slice none 0 0] 33)
  clear h
  go_enter Try.func20, Try.ntmps20
  go_wp2_with fail
  refine (next_any B p _ _ hR0).mono ?_
  rintro e w1 ⟨rfl, hR1, hg1⟩
  have hk1 := only_cell hg1 w.heap.size (by (focus (first | omega | (simp only [World.size_alloc]; done) | (simp only [World.size_alloc]; omega) | (simp; done) | (simp; omega)))) (by omega)
  have hkf1 := only_frozen hg1 w.heap.size (by (focus (first | omega | (simp only [World.size_alloc]; done) | (simp only [World.size_alloc]; omega) | (simp; done) | (simp; omega)))) (by omega)
  have hG : w.grownBy w1 (some p) := (World.grownBy_alloc w _ _).trans hg1
  have hZ1 : w.heap.size < w1.heap.size := by have := hg1.size; simp at this; omega
  clear hR0 hg1
  generalize hx : nth xs 0 = x at *
  have HX := Lib.hid hx
  clear hx
  rw [← List.drop_one] at hR1
  go_wp2_with fail
  refine (next_any B p _ _ hR1).mono ?_
  rintro e w2 ⟨rfl, hR2, hg2⟩
  rw [HD.out] at hR2
  rw [show nth (xs.drop 1) 0 = nth xs 1 from by rw [nth_drop]]
  have hk2 := only_cell hg2 w.heap.size (by omega) (by omega)
  have hkf2 := only_frozen hg2 w.heap.size (by omega) (by omega)
  have hG := hG.trans hg2
  have hZ2 : w.heap.size < w2.heap.size := by have := hg2.size; omega
  clear hR1 hg2
  generalize hy : nth xs 1 = y at *
  clear hy
  go_wp2
  refine bodyPost_ret (v := .agg #[.int .i64 (5), .int .i64 (x / 16), .int .i64 (y % 3), .int .i64 (0), .slice none 0 0]) (by simp [results, Try.results20, go_sem, hk1, hZ1, hk2, hZ2]) rfl ?_
  refine op_fin (w1 := w2) ?_ hBw hR2 hG none 0 0 rfl (BOwns.nil _ _ _)
  (focus (repeat' (first | (with_reducible exact Below.refl _ _) | (with_reducible assumption) | (with_reducible refine Below.alloc ?_ ?_ _) | (with_reducible refine below_drewN ?_ _) | (with_reducible refine Below.drew ?_) | (with_reducible refine Below.setCell ?_ ?_ _) | omega | (simp; done) | (simp; omega))))

set_option maxHeartbeats 400000 in
theorem op_8 (B p : Nat) (xs : List Int) (w : World) (h : Rd w B p xs) (h0 : 8 ≤ nth xs 0 % 16) (h1 : nth xs 0 % 16 ≤ 8) :
    Calls Try.prog 20 #[.pointer (some ⟨p, 0, none⟩)] w (OpPost w B p xs ⟨7, nth xs 0 / 16, 0, nth xs 1, []⟩ 2) := by
  have hb0 := nth_bd h.bytes 0
  have hb1 := nth_bd h.bytes 1
  have hb2 := nth_bd h.bytes 2
  have hpw := h.lt
  have hBw := h.1.2
  have HT1 := Lib.hid (nth_tail xs 0)
  have HT2 := Lib.hid (nth_tail xs.tail 0)
  have HT3 := Lib.hid (nth_tail xs 1)
  have HD := Lib.hid (tail_drop_ xs)
  have hR0 := h.alloc (.cells #[.int .i64 0, .int .i64 0, .int .i64 0, .int .i64 0, .slice none 0 0] 33)
  clear h
  go_enter Try.func20, Try.ntmps20
  go_wp2_with fail
  refine (next_any B p _ _ hR0).mono ?_
  rintro e w1 ⟨rfl, hR1, hg1⟩
  have hk1 := only_cell hg1 w.heap.size (by (focus (first | omega | (simp only [World.size_alloc]; done) | (simp only [World.size_alloc]; omega) | (simp; done) | (simp; omega)))) (by omega)
  have hkf1 := only_frozen hg1 w.heap.size (by (focus (first | omega | (simp only [World.size_alloc]; done) | (simp only [World.size_alloc]; omega) | (simp; done) | (simp; omega)))) (by omega)
  have hG : w.grownBy w1 (some p) := (World.grownBy_alloc w _ _).trans hg1
  have hZ1 : w.heap.size < w1.heap.size := by have := hg1.size; simp at this; omega
  clear hR0 hg1
  generalize hx : nth xs 0 = x at *
  have HX := Lib.hid hx
  clear hx
  rw [← List.drop_one] at hR1
  go_wp2_with fail
  refine (next_any B p _ _ hR1).mono ?_
  rintro e w2 ⟨rfl, hR2, hg2⟩
  rw [HD.out] at hR2
  rw [show nth (xs.drop 1) 0 = nth xs 1 from by rw [nth_drop]]
  have hk2 := only_cell hg2 w.heap.size (by omega) (by omega)
  have hkf2 := only_frozen hg2 w.heap.size (by omega) (by omega)
  have hG := hG.trans hg2
  have hZ2 : w.heap.size < w2.heap.size := by have := hg2.size; omega
  clear hR1 hg2
  generalize hy : nth xs 1 = y at *
  clear hy
  go_wp2
  refine bodyPost_ret (v := .agg #[.int .i64 (7), .int .i64 (x / 16), .int .i64 (0), .int .i64 (y), .slice none 0 0]) (by simp [results, Try.results20, go_sem, hk1, hZ1, hk2, hZ2]) rfl ?_
  refine op_fin (w1 := w2) ?_ hBw hR2 hG none 0 0 rfl (BOwns.nil _ _ _)
  (focus (repeat' (first | (with_reducible exact Below.refl _ _) | (with_reducible assumption) | (with_reducible refine Below.alloc ?_ ?_ _) | (with_reducible refine below_drewN ?_ _) | (with_reducible refine Below.drew ?_) | (with_reducible refine Below.setCell ?_ ?_ _) | omega | (simp; done) | (simp; omega))))

set_option maxHeartbeats 400000 in
theorem op_9 (B p : Nat) (xs : List Int) (w : World) (h : Rd w B p xs) (h0 : 9 ≤ nth xs 0 % 16) (h1 : nth xs 0 % 16 ≤ 9) :
    Calls Try.prog 20 #[.pointer (some ⟨p, 0, none⟩)] w (OpPost w B p xs ⟨8, nth xs 0 / 16, nth xs 1, 0, []⟩ 2) := by
  have hb0 := nth_bd h.bytes 0
  have hb1 := nth_bd h.bytes 1
  have hb2 := nth_bd h.bytes 2
  have hpw := h.lt
  have hBw := h.1.2
  have HT1 := Lib.hid (nth_tail xs 0)
  have HT2 := Lib.hid (nth_tail xs.tail 0)
  have HT3 := Lib.hid (nth_tail xs 1)
  have HD := Lib.hid (tail_drop_ xs)
  have hR0 := h.alloc (.cells #[.int .i64 0, .int .i64 0, .int .i64 0, .int .i64 0, .slice none 0 0] 33)
  clear h
  go_enter Try.func20, Try.ntmps20
  go_wp2_with fail
  refine (next_any B p _ _ hR0).mono ?_
  rintro e w1 ⟨rfl, hR1, hg1⟩
  have hk1 := only_cell hg1 w.heap.size (by (focus (first | omega | (simp only [World.size_alloc]; done) | (simp only [World.size_alloc]; omega) | (simp; done) | (simp; omega)))) (by omega)
  have hkf1 := only_frozen hg1 w.heap.size (by (focus (first | omega | (simp only [World.size_alloc]; done) | (simp only [World.size_alloc]; omega) | (simp; done) | (simp; omega)))) (by omega)
  have hG : w.grownBy w1 (some p) := (World.grownBy_alloc w _ _).trans hg1
  have hZ1 : w.heap.size < w1.heap.size := by have := hg1.size; simp at this; omega
  clear hR0 hg1
  generalize hx : nth xs 0 = x at *
  have HX := Lib.hid hx
  clear hx
  rw [← List.drop_one] at hR1
  go_wp2_with fail
  refine (next_any B p _ _ hR1).mono ?_
  rintro e w2 ⟨rfl, hR2, hg2⟩
  rw [HD.out] at hR2
  rw [show nth (xs.drop 1) 0 = nth xs 1 from by rw [nth_drop]]
  have hk2 := only_cell hg2 w.heap.size (by omega) (by omega)
  have hkf2 := only_frozen hg2 w.heap.size (by omega) (by omega)
  have hG := hG.trans hg2
  have hZ2 : w.heap.size < w2.heap.size := by have := hg2.size; omega
  clear hR1 hg2
  generalize hy : nth xs 1 = y at *
  clear hy
  go_wp2
  refine bodyPost_ret (v := .agg #[.int .i64 (8), .int .i64 (x / 16), .int .i64 (y), .int .i64 (0), .slice none 0 0]) (by simp [results, Try.results20, go_sem, hk1, hZ1, hk2, hZ2]) rfl ?_
  refine op_fin (w1 := w2) ?_ hBw hR2 hG none 0 0 rfl (BOwns.nil _ _ _)
  (focus (repeat' (first | (with_reducible exact Below.refl _ _) | (with_reducible assumption) | (with_reducible refine Below.alloc ?_ ?_ _) | (with_reducible refine below_drewN ?_ _) | (with_reducible refine Below.drew ?_) | (with_reducible refine Below.setCell ?_ ?_ _) | omega | (simp; done) | (simp; omega))))

set_option maxHeartbeats 400000 in
theorem op_0 (B p : Nat) (xs : List Int) (w : World) (h : Rd w B p xs) (h0 : 0 ≤ nth xs 0 % 16) (h1 : nth xs 0 % 16 ≤ 1) :
    Calls Try.prog 20 #[.pointer (some ⟨p, 0, none⟩)] w (OpPost w B p xs ⟨6, nth xs 0 / 16, nth xs 1, 0, []⟩ 2) := by
  have hb0 := nth_bd h.bytes 0
  have hb1 := nth_bd h.bytes 1
  have hb2 := nth_bd h.bytes 2
  have hpw := h.lt
  have hBw := h.1.2
  have HT1 := Lib.hid (nth_tail xs 0)
  have HT2 := Lib.hid (nth_tail xs.tail 0)
  have HT3 := Lib.hid (nth_tail xs 1)
  have HD := Lib.hid (tail_drop_ xs)
  have hR0 := h.alloc (.cells #[.int .i64 0, .int .i64 0, .int .i64 0, .int .i64 0, .slice none 0 0] 33)
  clear h
  go_enter Try.func20, Try.ntmps20
  go_wp2_with fail
  refine (next_any B p _ _ hR0).mono ?_
  rintro e w1 ⟨rfl, hR1, hg1⟩
  have hk1 := only_cell hg1 w.heap.size (by (focus (first | omega | (simp only [World.size_alloc]; done) | (simp only [World.size_alloc]; omega) | (simp; done) | (simp; omega)))) (by omega)
  have hkf1 := only_frozen hg1 w.heap.size (by (focus (first | omega | (simp only [World.size_alloc]; done) | (simp only [World.size_alloc]; omega) | (simp; done) | (simp; omega)))) (by omega)
  have hG : w.grownBy w1 (some p) := (World.grownBy_alloc w _ _).trans hg1
  have hZ1 : w.heap.size < w1.heap.size := by have := hg1.size; simp at this; omega
  clear hR0 hg1
  generalize hx : nth xs 0 = x at *
  have HX := Lib.hid hx
  clear hx
  rw [← List.drop_one] at hR1
  go_wp2_with fail
  refine (next_any B p _ _ hR1).mono ?_
  rintro e w2 ⟨rfl, hR2, hg2⟩
  rw [HD.out] at hR2
  rw [show nth (xs.drop 1) 0 = nth xs 1 from by rw [nth_drop]]
  have hk2 := only_cell hg2 w.heap.size (by omega) (by omega)
  have hkf2 := only_frozen hg2 w.heap.size (by omega) (by omega)
  have hG := hG.trans hg2
  have hZ2 : w.heap.size < w2.heap.size := by have := hg2.size; omega
  clear hR1 hg2
  generalize hy : nth xs 1 = y at *
  clear hy
  go_wp2
  refine bodyPost_ret (v := .agg #[.int .i64 (6), .int .i64 (x / 16), .int .i64 (y), .int .i64 (0), .slice none 0 0]) (by simp [results, Try.results20, go_sem, hk1, hZ1, hk2, hZ2]) rfl ?_
  refine op_fin (w1 := w2) ?_ hBw hR2 hG none 0 0 rfl (BOwns.nil _ _ _)
  (focus (repeat' (first | (with_reducible exact Below.refl _ _) | (with_reducible assumption) | (with_reducible refine Below.alloc ?_ ?_ _) | (with_reducible refine below_drewN ?_ _) | (with_reducible refine Below.drew ?_) | (with_reducible refine Below.setCell ?_ ?_ _) | omega | (simp; done) | (simp; omega))))

set_option maxHeartbeats 400000 in
theorem op_11 (B p : Nat) (xs : List Int) (w : World) (h : Rd w B p xs) (h0 : 11 ≤ nth xs 0 % 16) (h1 : nth xs 0 % 16 ≤ 15) :
    Calls Try.prog 20 #[.pointer (some ⟨p, 0, none⟩)] w (OpPost w B p xs ⟨6, nth xs 0 / 16, nth xs 1, 0, []⟩ 2) := by
  have hb0 := nth_bd h.bytes 0
  have hb1 := nth_bd h.bytes 1
  have hb2 := nth_bd h.bytes 2
  have hpw := h.lt
  have hBw := h.1.2
  have HT1 := Lib.hid (nth_tail xs 0)
  have HT2 := Lib.hid (nth_tail xs.tail 0)
  have HT3 := Lib.hid (nth_tail xs 1)
  have HD := Lib.hid (tail_drop_ xs)
  have hR0 := h.alloc (.cells #[.int .i64 0, .int .i64 0, .int .i64 0, .int .i64 0, .slice none 0 0] 33)
  clear h
  go_enter Try.func20, Try.ntmps20
  go_wp2_with fail
  refine (next_any B p _ _ hR0).mono ?_
  rintro e w1 ⟨rfl, hR1, hg1⟩
  have hk1 := only_cell hg1 w.heap.size (by (focus (first | omega | (simp only [World.size_alloc]; done) | (simp only [World.size_alloc]; omega) | (simp; done) | (simp; omega)))) (by omega)
  have hkf1 := only_frozen hg1 w.heap.size (by (focus (first | omega | (simp only [World.size_alloc]; done) | (simp only [World.size_alloc]; omega) | (simp; done) | (simp; omega)))) (by omega)
  have hG : w.grownBy w1 (some p) := (World.grownBy_alloc w _ _).trans hg1
  have hZ1 : w.heap.size < w1.heap.size := by have := hg1.size; simp at this; omega
  clear hR0 hg1
  generalize hx : nth xs 0 = x at *
  have HX := Lib.hid hx
  clear hx
  rw [← List.drop_one] at hR1
  go_wp2_with fail
  refine (next_any B p _ _ hR1).mono ?_
  rintro e w2 ⟨rfl, hR2, hg2⟩
  rw [HD.out] at hR2
  rw [show nth (xs.drop 1) 0 = nth xs 1 from by rw [nth_drop]]
  have hk2 := only_cell hg2 w.heap.size (by omega) (by omega)
  have hkf2 := only_frozen hg2 w.heap.size (by omega) (by omega)
  have hG := hG.trans hg2
  have hZ2 : w.heap.size < w2.heap.size := by have := hg2.size; omega
  clear hR1 hg2
  generalize hy : nth xs 1 = y at *
  clear hy
  go_wp2
  refine bodyPost_ret (v := .agg #[.int .i64 (6), .int .i64 (x / 16), .int .i64 (y), .int .i64 (0), .slice none 0 0]) (by simp [results, Try.results20, go_sem, hk1, hZ1, hk2, hZ2]) rfl ?_
  refine op_fin (w1 := w2) ?_ hBw hR2 hG none 0 0 rfl (BOwns.nil _ _ _)
  (focus (repeat' (first | (with_reducible exact Below.refl _ _) | (with_reducible assumption) | (with_reducible refine Below.alloc ?_ ?_ _) | (with_reducible refine below_drewN ?_ _) | (with_reducible refine Below.drew ?_) | (with_reducible refine Below.setCell ?_ ?_ _) | omega | (simp; done) | (simp; omega))))

set_option maxHeartbeats 400000 in
theorem op_10 (B p : Nat) (xs : List Int) (w : World) (h : Rd w B p xs) (h0 : 10 ≤ nth xs 0 % 16) (h1 : nth xs 0 % 16 ≤ 10) :
    Calls Try.prog 20 #[.pointer (some ⟨p, 0, none⟩)] w (OpPost w B p xs ⟨3, 0, 256 * nth xs 1 + nth xs 2, 0, []⟩ 3) := by
  have hb0 := nth_bd h.bytes 0
  have hb1 := nth_bd h.bytes 1
  have hb2 := nth_bd h.bytes 2
  have hpw := h.lt
  have hBw := h.1.2
  have HT1 := Lib.hid (nth_tail xs 0)
  have HT2 := Lib.hid (nth_tail xs.tail 0)
  have HT3 := Lib.hid (nth_tail xs 1)
  have HD := Lib.hid (tail_drop_ xs)
  have hR0 := h.alloc (.cells #[.int .i64 0, .int .i64 0, .int .i64 0, .int .i64 0, .slice none 0 0] 33)
  clear h
  go_enter Try.func20, Try.ntmps20
  go_wp2_with fail
  refine (next_any B p _ _ hR0).mono ?_
  rintro e w1 ⟨rfl, hR1, hg1⟩
  have hk1 := only_cell hg1 w.heap.size (by (focus (first | omega | (simp only [World.size_alloc]; done) | (simp only [World.size_alloc]; omega) | (simp; done) | (simp; omega)))) (by omega)
  have hkf1 := only_frozen hg1 w.heap.size (by (focus (first | omega | (simp only [World.size_alloc]; done) | (simp only [World.size_alloc]; omega) | (simp; done) | (simp; omega)))) (by omega)
  have hG : w.grownBy w1 (some p) := (World.grownBy_alloc w _ _).trans hg1
  have hZ1 : w.heap.size < w1.heap.size := by have := hg1.size; simp at this; omega
  clear hR0 hg1
  generalize hx : nth xs 0 = x at *
  have HX := Lib.hid hx
  clear hx
  rw [← List.drop_one] at hR1
  go_wp2_with fail
  refine (two_any B p _ _ hR1).mono ?_
  rintro e w2 ⟨rfl, hR2, hg2⟩
  rw [List.drop_drop, show (1 + 2 : Nat) = 3 from rfl] at hR2
  rw [show nth (xs.drop 1) 0 = nth xs 1 from by rw [nth_drop], show nth (xs.drop 1) 1 = nth xs 2 from by rw [nth_drop]]
  have hk2 := only_cell hg2 w.heap.size (by omega) (by omega)
  have hkf2 := only_frozen hg2 w.heap.size (by omega) (by omega)
  have hG := hG.trans hg2
  have hZ2 : w.heap.size < w2.heap.size := by have := hg2.size; omega
  clear hR1 hg2
  generalize hy : nth xs 1 = y at *
  clear hy
  generalize hz : nth xs 2 = z at *
  clear hz
  go_wp2
  refine bodyPost_ret (v := .agg #[.int .i64 (3), .int .i64 (0), .int .i64 (256 * y + z), .int .i64 (0), .slice none 0 0]) (by simp [results, Try.results20, go_sem, hk1, hZ1, hk2, hZ2]) rfl ?_
  refine op_fin (w1 := w2) ?_ hBw hR2 hG none 0 0 rfl (BOwns.nil _ _ _)
  (focus (repeat' (first | (with_reducible exact Below.refl _ _) | (with_reducible assumption) | (with_reducible refine Below.alloc ?_ ?_ _) | (with_reducible refine below_drewN ?_ _) | (with_reducible refine Below.drew ?_) | (with_reducible refine Below.setCell ?_ ?_ _) | omega | (simp; done) | (simp; omega))))

set_option maxHeartbeats 400000 in
theorem op_7 (B p : Nat) (xs : List Int) (w : World) (h : Rd w B p xs) (h0 : 7 ≤ nth xs 0 % 16) (h1 : nth xs 0 % 16 ≤ 7) :
    Calls Try.prog 20 #[.pointer (some ⟨p, 0, none⟩)] w (OpPost w B p xs ⟨6, nth xs 0 / 16, nth xs 1, nth xs 2, []⟩ 3) := by
  have hb0 := nth_bd h.bytes 0
  have hb1 := nth_bd h.bytes 1
  have hb2 := nth_bd h.bytes 2
  have hpw := h.lt
  have hBw := h.1.2
  have HT1 := Lib.hid (nth_tail xs 0)
  have HT2 := Lib.hid (nth_tail xs.tail 0)
  have HT3 := Lib.hid (nth_tail xs 1)
  have HD := Lib.hid (tail_drop_ xs)
  have hR0 := h.alloc (.cells #[.int .i64 0, .int .i64 0, .int .i64 0, .int .i64 0, .slice none 0 0] 33)
  clear h
  go_enter Try.func20, Try.ntmps20
  go_wp2_with fail
  refine (next_any B p _ _ hR0).mono ?_
  rintro e w1 ⟨rfl, hR1, hg1⟩
  have hk1 := only_cell hg1 w.heap.size (by (focus (first | omega | (simp only [World.size_alloc]; done) | (simp only [World.size_alloc]; omega) | (simp; done) | (simp; omega)))) (by omega)
  have hkf1 := only_frozen hg1 w.heap.size (by (focus (first | omega | (simp only [World.size_alloc]; done) | (simp only [World.size_alloc]; omega) | (simp; done) | (simp; omega)))) (by omega)
  have hG : w.grownBy w1 (some p) := (World.grownBy_alloc w _ _).trans hg1
  have hZ1 : w.heap.size < w1.heap.size := by have := hg1.size; simp at this; omega
  clear hR0 hg1
  generalize hx : nth xs 0 = x at *
  have HX := Lib.hid hx
  clear hx
  rw [← List.drop_one] at hR1
  go_wp2_with fail
  refine (next_any B p _ _ hR1).mono ?_
  rintro e w2 ⟨rfl, hR2, hg2⟩
  rw [HD.out] at hR2
  rw [show nth (xs.drop 1) 0 = nth xs 1 from by rw [nth_drop]]
  have hk2 := only_cell hg2 w.heap.size (by omega) (by omega)
  have hkf2 := only_frozen hg2 w.heap.size (by omega) (by omega)
  have hG := hG.trans hg2
  have hZ2 : w.heap.size < w2.heap.size := by have := hg2.size; omega
  clear hR1 hg2
  generalize hy : nth xs 1 = y at *
  clear hy
  have hR2' := hR2.alloc (.cells #[.int .i64 6, .int .i64 (x / 16), .int .i64 y, .int .i64 0, .slice none 0 0] 33)
  go_wp2_with fail
  refine (next_any B p _ _ hR2').mono ?_
  rintro e w3 ⟨rfl, hR3, hg3⟩
  rw [HD.out] at hR3
  rw [show nth (xs.drop (1 + 1)) 0 = nth xs 2 from by rw [nth_drop]]
  have hp2 := hR2.1.1
  have hk3 := only_cell hg3 w.heap.size (by (focus (first | omega | (simp only [World.size_alloc]; done) | (simp only [World.size_alloc]; omega) | (simp; done) | (simp; omega)))) (by omega)
  have hkf3 := only_frozen hg3 w.heap.size (by (focus (first | omega | (simp only [World.size_alloc]; done) | (simp only [World.size_alloc]; omega) | (simp; done) | (simp; omega)))) (by omega)
  have hk3' := only_cell hg3 w2.heap.size (by (focus (first | omega | (simp only [World.size_alloc]; done) | (simp only [World.size_alloc]; omega) | (simp; done) | (simp; omega)))) (by omega)
  have hkf3' := only_frozen hg3 w2.heap.size (by (focus (first | omega | (simp only [World.size_alloc]; done) | (simp only [World.size_alloc]; omega) | (simp; done) | (simp; omega)))) (by omega)
  have hG := hG.trans ((World.grownBy_alloc w2 _ _).trans hg3)
  have hZ3 : w2.heap.size < w3.heap.size := by have := hg3.size; simp at this; omega
  have hZ3' : w.heap.size < w3.heap.size := by omega
  clear hR2 hg3 hR2'
  generalize hz : nth xs 2 = z at *
  clear hz
  go_wp2
  refine bodyPost_ret (v := .agg #[.int .i64 (6), .int .i64 (x / 16), .int .i64 (y), .int .i64 (z), .slice none 0 0]) (by simp [results, Try.results20, go_sem, hk1, hZ1, hk2, hZ2, hk3, hZ3, hZ3', hk3']) rfl ?_
  refine op_fin (w1 := w3) ?_ hBw hR3 hG none 0 0 rfl (BOwns.nil _ _ _)
  (focus (repeat' (first | (with_reducible exact Below.refl _ _) | (with_reducible assumption) | (with_reducible refine Below.alloc ?_ ?_ _) | (with_reducible refine below_drewN ?_ _) | (with_reducible refine Below.drew ?_) | (with_reducible refine Below.setCell ?_ ?_ _) | omega | (simp; done) | (simp; omega))))

set_option maxHeartbeats 400000 in
theorem op_5 (B p : Nat) (xs : List Int) (w : World) (h : Rd w B p xs) (h0 : 5 ≤ nth xs 0 % 16) (h1 : nth xs 0 % 16 ≤ 5) :
    Calls Try.prog 20 #[.pointer (some ⟨p, 0, none⟩)] w (OpPost w B p xs ⟨4, nth xs 0 / 16, 0, 0, takeZ (nth xs 1).toNat (xs.drop 2)⟩ (2 + (nth xs 1).toNat)) := by
  have hb0 := nth_bd h.bytes 0
  have hb1 := nth_bd h.bytes 1
  have hb2 := nth_bd h.bytes 2
  have hpw := h.lt
  have hBw := h.1.2
  have HT1 := Lib.hid (nth_tail xs 0)
  have HT2 := Lib.hid (nth_tail xs.tail 0)
  have HT3 := Lib.hid (nth_tail xs 1)
  have HD := Lib.hid (tail_drop_ xs)
  have hR0 := h.alloc (.cells #[.int .i64 0, .int .i64 0, .int .i64 0, .int .i64 0, .slice none 0 0] 33)
  clear h
  go_enter Try.func20, Try.ntmps20
  go_wp2_with fail
  refine (next_any B p _ _ hR0).mono ?_
  rintro e w1 ⟨rfl, hR1, hg1⟩
  have hk1 := only_cell hg1 w.heap.size (by (focus (first | omega | (simp only [World.size_alloc]; done) | (simp only [World.size_alloc]; omega) | (simp; done) | (simp; omega)))) (by omega)
  have hkf1 := only_frozen hg1 w.heap.size (by (focus (first | omega | (simp only [World.size_alloc]; done) | (simp only [World.size_alloc]; omega) | (simp; done) | (simp; omega)))) (by omega)
  have hG : w.grownBy w1 (some p) := (World.grownBy_alloc w _ _).trans hg1
  have hZ1 : w.heap.size < w1.heap.size := by have := hg1.size; simp at this; omega
  clear hR0 hg1
  generalize hx : nth xs 0 = x at *
  have HX := Lib.hid hx
  clear hx
  rw [← List.drop_one] at hR1
  go_wp2_with fail
  refine (data_any B p _ _ hR1).mono ?_
  rintro e w2 ⟨A, c, rfl, ho, hR2, hg2⟩
  rw [List.drop_drop, show nth (xs.drop 1) 0 = nth xs 1 from by rw [nth_drop]] at hR2
  rw [HD.out, show nth (xs.drop 1) 0 = nth xs 1 from by rw [nth_drop]] at ho
  rw [show nth (xs.drop 1) 0 = nth xs 1 from by rw [nth_drop]]
  have hk2 := only_cell hg2 w.heap.size (by omega) (by omega)
  have hkf2 := only_frozen hg2 w.heap.size (by omega) (by omega)
  have hG := hG.trans hg2
  have hZ2 : w.heap.size < w2.heap.size := by have := hg2.size; omega
  have HO := Lib.hid ho
  clear hR1 hg2 ho
  generalize hn : (nth xs 1).toNat = n at *
  clear hn
  go_wp2
  refine bodyPost_ret (v := .agg #[.int .i64 4, .int .i64 (x / 16), .int .i64 0, .int .i64 0, .slice A n c]) (by simp [results, Try.results20, go_sem, hk1, hZ1, hk2, hZ2]) rfl ?_
  refine op_fin (w1 := w2) ?_ hBw (by rw [show 2 + n = 1 + (1 + n) from by omega]; exact hR2) hG A n c rfl (BOwns.more (base := w1.heap.size) (by have ho := HO.out; (focus (repeat' (first | (with_reducible assumption) | (with_reducible refine BOwns.setBelow ?_ ?_ _) | (with_reducible refine BOwns.alloc ?_ _) | (with_reducible refine BOwns.drew ?_) | omega | (simp; done) | (simp; omega))))) (by omega))
  (focus (repeat' (first | (with_reducible exact Below.refl _ _) | (with_reducible assumption) | (with_reducible refine Below.alloc ?_ ?_ _) | (with_reducible refine below_drewN ?_ _) | (with_reducible refine Below.drew ?_) | (with_reducible refine Below.setCell ?_ ?_ _) | omega | (simp; done) | (simp; omega))))



theorem op_any (B p : Nat) (xs : List Int) (w : World) (h : Rd w B p xs) :
    Calls Try.prog 20 #[.pointer (some ⟨p, 0, none⟩)] w (OpPost w B p xs (opS xs).1 (opS xs).2) := by
  have h0 : 0 ≤ nth xs 0 % 16 ∧ nth xs 0 % 16 ≤ 15 := by omega
  unfold opS
  by_cases h2 : nth xs 0 % 16 = 2
  · simp only [h2, if_true]; exact op_2 B p xs w h (by omega) (by omega)
  by_cases h3 : nth xs 0 % 16 = 3
  · simp only [h3]; exact op_3 B p xs w h (by omega) (by omega)
  by_cases h10 : nth xs 0 % 16 = 10
  · simp only [h10]; exact op_10 B p xs w h (by omega) (by omega)
  by_cases h4 : nth xs 0 % 16 = 4
  · simp only [h4]; exact op_4 B p xs w h (by omega) (by omega)
  by_cases h5 : nth xs 0 % 16 = 5
  · simp only [h5]; exact op_5 B p xs w h (by omega) (by omega)
  by_cases h6 : nth xs 0 % 16 = 6
  · simp only [h6]; exact op_6 B p xs w h (by omega) (by omega)
  by_cases h7 : nth xs 0 % 16 = 7
  · simp only [h7]; exact op_7 B p xs w h (by omega) (by omega)
  by_cases h8 : nth xs 0 % 16 = 8
  · simp only [h8]; exact op_8 B p xs w h (by omega) (by omega)
  by_cases h9 : nth xs 0 % 16 = 9
  · simp only [h9]; exact op_9 B p xs w h (by omega) (by omega)
  simp only [h2, h3, h10, h4, h5, h6, h7, h8, h9, if_false]
  by_cases hs : nth xs 0 % 16 ≤ 1
  · exact op_0 B p xs w h (by omega) hs
  · exact op_11 B p xs w h (by omega) (by omega)
end Go.Proofs.Ytpmlipcpohajgaa
