/-
  The reference's First: the operation that bytes begin with.
-/
import Derived.Test.YtpmlipcpohajgaaOp
import Derived.Deep.RegionLaw
set_option linter.unusedSimpArgs false
set_option linter.unusedVariables false
namespace Go.Proofs.Ytpmlipcpohajgaa
open Go.RowKit

theorem nth_far {xs : List Int} {k : Nat} (h : xs.length ≤ k) : nth xs k = 0 := by simp [nth, List.getD, List.getElem?_eq_none h]

set_option maxHeartbeats 400000 in
theorem at_any (A : Option Addr) (n cap : Nat) (xs : List Int) (i : Int) (k : Nat) (w : World) (hi : i = (k : Int)) (hx : BReads w A n xs) :
    Calls Try.prog 32 #[.slice A n cap, .int .i64 i] w fun e w' => e = .returned (.int .i64 (nth xs k)) ∧ w = w' := by
  subst hi
  have hl := hx.length
  by_cases hk : k < n
  · obtain ⟨ad, rfl, hc, h0, h1⟩ := hx.at_ hk
    have hk' : (k : Int) < n := by omega
    have hc0 : k = 0 → w.cell? ad = some (.int .u8 (nth xs k)) := by intro h; subst h; simpa [Addr.add] using hc
    clear hx hl hc0
    go_enter Try.func32, Try.ntmps32
    go_wp2
    go_ret
    exact ⟨rfl, rfl⟩
  · have hf := nth_far (xs := xs) (k := k) (by omega)
    have H := Lib.hid hf
    have hk' : (n : Int) ≤ k := by omega
    clear hx hl hf
    go_enter Try.func32, Try.ntmps32
    go_wp2
    go_ret
    exact ⟨by rw [H.out]; rfl, rfl⟩

def FirstPost (w : World) (o : OpV) (j : Nat) (e : Ending) (w' : World) : Prop :=
  ∃ A n c, e = .returned (.tuple #[.agg #[.int .i64 o.k, .int .i64 o.c, .int .i64 o.n, .int .i64 o.m, .slice A n c], .int .i64 (j : Int)]) ∧ BOwns w' w.heap.size 5 A n c o.d ∧ Below w.heap.size w w'
theorem first_fin {w W : World} {o : OpV} {j : Nat} {e : Ending} (hb : Below w.heap.size w W) (A : Option Addr) (n c : Nat) (he : e = .returned (.tuple #[.agg #[.int .i64 o.k, .int .i64 o.c, .int .i64 o.n, .int .i64 o.m, .slice A n c], .int .i64 (j : Int)])) (ho : BOwns W w.heap.size 5 A n c o.d) : FirstPost w o j e W := ⟨A, n, c, he, ho, hb⟩

set_option maxHeartbeats 400000 in
theorem first_2 (A : Option Addr) (n cap : Nat) (xs : List Int) (w : World) (hx : BReads w A n xs) (h0 : 2 ≤ nth xs 0 % 16) (h1 : nth xs 0 % 16 ≤ 2) :
    Calls Try.prog 22 #[.slice A n cap] w (FirstPost w ⟨1, 0, 0, 0, []⟩ 1) := by
  have hb0 := nth_bd hx.2 0
  have hb1 := nth_bd hx.2 1
  have hb2 := nth_bd hx.2 2
  have hX := hx.alloc (.cells #[.int .i64 0, .int .i64 0, .int .i64 0, .int .i64 0, .slice none 0 0] 33)
  clear hx
  go_enter Try.func22, Try.ntmps22
  go_wp2_with fail
  refine (at_any A n cap xs 0 0 _ rfl hX).mono ?_
  rintro e w1 ⟨rfl, rfl⟩
  go_wp2_with fail
  refine (at_any A n cap xs 0 0 _ rfl hX).mono ?_
  rintro e w1 ⟨rfl, rfl⟩
  generalize nth xs 0 = x at *
  generalize nth xs 1 = y at *
  generalize nth xs 2 = z at *
  go_wp2
  refine bodyPost_ret (v := .tuple #[.agg #[.int .i64 (1), .int .i64 (0), .int .i64 (0), .int .i64 (0), .slice none 0 0], .int .i64 1]) (by simp [results, Try.results22, go_sem]) rfl ?_
  refine first_fin ?_ none 0 0 rfl (BOwns.nil _ _ _)
  (focus (repeat' (first | (with_reducible exact Below.refl _ _) | (with_reducible assumption) | (with_reducible refine Below.alloc ?_ ?_ _) | (with_reducible refine below_drewN ?_ _) | (with_reducible refine Below.drew ?_) | (with_reducible refine Below.setCell ?_ ?_ _) | omega | (simp; done) | (simp; omega))))

set_option maxHeartbeats 400000 in
theorem first_3 (A : Option Addr) (n cap : Nat) (xs : List Int) (w : World) (hx : BReads w A n xs) (h0 : 3 ≤ nth xs 0 % 16) (h1 : nth xs 0 % 16 ≤ 3) :
    Calls Try.prog 22 #[.slice A n cap] w (FirstPost w ⟨2, nth xs 0 / 16, 0, 0, []⟩ 1) := by
  have hb0 := nth_bd hx.2 0
  have hb1 := nth_bd hx.2 1
  have hb2 := nth_bd hx.2 2
  have hX := hx.alloc (.cells #[.int .i64 0, .int .i64 0, .int .i64 0, .int .i64 0, .slice none 0 0] 33)
  clear hx
  go_enter Try.func22, Try.ntmps22
  go_wp2_with fail
  refine (at_any A n cap xs 0 0 _ rfl hX).mono ?_
  rintro e w1 ⟨rfl, rfl⟩
  go_wp2_with fail
  refine (at_any A n cap xs 0 0 _ rfl hX).mono ?_
  rintro e w1 ⟨rfl, rfl⟩
  generalize nth xs 0 = x at *
  generalize nth xs 1 = y at *
  generalize nth xs 2 = z at *
  go_wp2
  refine bodyPost_ret (v := .tuple #[.agg #[.int .i64 (2), .int .i64 (x / 16), .int .i64 (0), .int .i64 (0), .slice none 0 0], .int .i64 1]) (by simp [results, Try.results22, go_sem]) rfl ?_
  refine first_fin ?_ none 0 0 rfl (BOwns.nil _ _ _)
  (focus (repeat' (first | (with_reducible exact Below.refl _ _) | (with_reducible assumption) | (with_reducible refine Below.alloc ?_ ?_ _) | (with_reducible refine below_drewN ?_ _) | (with_reducible refine Below.drew ?_) | (with_reducible refine Below.setCell ?_ ?_ _) | omega | (simp; done) | (simp; omega))))

set_option maxHeartbeats 400000 in
theorem first_10 (A : Option Addr) (n cap : Nat) (xs : List Int) (w : World) (hx : BReads w A n xs) (h0 : 10 ≤ nth xs 0 % 16) (h1 : nth xs 0 % 16 ≤ 10) :
    Calls Try.prog 22 #[.slice A n cap] w (FirstPost w ⟨3, 0, 256 * nth xs 1 + nth xs 2, 0, []⟩ 3) := by
  have hb0 := nth_bd hx.2 0
  have hb1 := nth_bd hx.2 1
  have hb2 := nth_bd hx.2 2
  have hX := hx.alloc (.cells #[.int .i64 0, .int .i64 0, .int .i64 0, .int .i64 0, .slice none 0 0] 33)
  clear hx
  go_enter Try.func22, Try.ntmps22
  go_wp2_with fail
  refine (at_any A n cap xs 0 0 _ rfl hX).mono ?_
  rintro e w1 ⟨rfl, rfl⟩
  go_wp2_with fail
  refine (at_any A n cap xs 0 0 _ rfl hX).mono ?_
  rintro e w1 ⟨rfl, rfl⟩
  go_wp2_with fail
  refine (at_any A n cap xs 1 1 _ rfl hX).mono ?_
  rintro e w1 ⟨rfl, rfl⟩
  go_wp2_with fail
  refine (at_any A n cap xs 2 2 _ rfl hX).mono ?_
  rintro e w1 ⟨rfl, rfl⟩
  generalize nth xs 0 = x at *
  generalize nth xs 1 = y at *
  generalize nth xs 2 = z at *
  go_wp2
  refine bodyPost_ret (v := .tuple #[.agg #[.int .i64 (3), .int .i64 (0), .int .i64 (256 * y + z), .int .i64 (0), .slice none 0 0], .int .i64 3]) (by simp [results, Try.results22, go_sem]) rfl ?_
  refine first_fin ?_ none 0 0 rfl (BOwns.nil _ _ _)
  (focus (repeat' (first | (with_reducible exact Below.refl _ _) | (with_reducible assumption) | (with_reducible refine Below.alloc ?_ ?_ _) | (with_reducible refine below_drewN ?_ _) | (with_reducible refine Below.drew ?_) | (with_reducible refine Below.setCell ?_ ?_ _) | omega | (simp; done) | (simp; omega))))

set_option maxHeartbeats 400000 in
theorem first_4 (A : Option Addr) (n cap : Nat) (xs : List Int) (w : World) (hx : BReads w A n xs) (h0 : 4 ≤ nth xs 0 % 16) (h1 : nth xs 0 % 16 ≤ 4) :
    Calls Try.prog 22 #[.slice A n cap] w (FirstPost w ⟨3, 0, nth xs 1, 0, []⟩ 2) := by
  have hb0 := nth_bd hx.2 0
  have hb1 := nth_bd hx.2 1
  have hb2 := nth_bd hx.2 2
  have hX := hx.alloc (.cells #[.int .i64 0, .int .i64 0, .int .i64 0, .int .i64 0, .slice none 0 0] 33)
  clear hx
  go_enter Try.func22, Try.ntmps22
  go_wp2_with fail
  refine (at_any A n cap xs 0 0 _ rfl hX).mono ?_
  rintro e w1 ⟨rfl, rfl⟩
  go_wp2_with fail
  refine (at_any A n cap xs 0 0 _ rfl hX).mono ?_
  rintro e w1 ⟨rfl, rfl⟩
  go_wp2_with fail
  refine (at_any A n cap xs 1 1 _ rfl hX).mono ?_
  rintro e w1 ⟨rfl, rfl⟩
  generalize nth xs 0 = x at *
  generalize nth xs 1 = y at *
  generalize nth xs 2 = z at *
  go_wp2
  refine bodyPost_ret (v := .tuple #[.agg #[.int .i64 (3), .int .i64 (0), .int .i64 (y), .int .i64 (0), .slice none 0 0], .int .i64 2]) (by simp [results, Try.results22, go_sem]) rfl ?_
  refine first_fin ?_ none 0 0 rfl (BOwns.nil _ _ _)
  (focus (repeat' (first | (with_reducible exact Below.refl _ _) | (with_reducible assumption) | (with_reducible refine Below.alloc ?_ ?_ _) | (with_reducible refine below_drewN ?_ _) | (with_reducible refine Below.drew ?_) | (with_reducible refine Below.setCell ?_ ?_ _) | omega | (simp; done) | (simp; omega))))

set_option maxHeartbeats 400000 in
theorem first_6 (A : Option Addr) (n cap : Nat) (xs : List Int) (w : World) (hx : BReads w A n xs) (h0 : 6 ≤ nth xs 0 % 16) (h1 : nth xs 0 % 16 ≤ 6) :
    Calls Try.prog 22 #[.slice A n cap] w (FirstPost w ⟨5, nth xs 0 / 16, nth xs 1 % 3, 0, []⟩ 2) := by
  have hb0 := nth_bd hx.2 0
  have hb1 := nth_bd hx.2 1
  have hb2 := nth_bd hx.2 2
  have hX := hx.alloc (.cells #[.int .i64 0, .int .i64 0, .int .i64 0, .int .i64 0, .slice none 0 0] 33)
  clear hx
  go_enter Try.func22, Try.ntmps22
  go_wp2_with fail
  refine (at_any A n cap xs 0 0 _ rfl hX).mono ?_
  rintro e w1 ⟨rfl, rfl⟩
  go_wp2_with fail
  refine (at_any A n cap xs 0 0 _ rfl hX).mono ?_
  rintro e w1 ⟨rfl, rfl⟩
  go_wp2_with fail
  refine (at_any A n cap xs 1 1 _ rfl hX).mono ?_
  rintro e w1 ⟨rfl, rfl⟩
  generalize nth xs 0 = x at *
  generalize nth xs 1 = y at *
  generalize nth xs 2 = z at *
  go_wp2
  refine bodyPost_ret (v := .tuple #[.agg #[.int .i64 (5), .int .i64 (x / 16), .int .i64 (y % 3), .int .i64 (0), .slice none 0 0], .int .i64 2]) (by simp [results, Try.results22, go_sem]) rfl ?_
  refine first_fin ?_ none 0 0 rfl (BOwns.nil _ _ _)
  (focus (repeat' (first | (with_reducible exact Below.refl _ _) | (with_reducible assumption) | (with_reducible refine Below.alloc ?_ ?_ _) | (with_reducible refine below_drewN ?_ _) | (with_reducible refine Below.drew ?_) | (with_reducible refine Below.setCell ?_ ?_ _) | omega | (simp; done) | (simp; omega))))

set_option maxHeartbeats 400000 in
theorem first_7 (A : Option Addr) (n cap : Nat) (xs : List Int) (w : World) (hx : BReads w A n xs) (h0 : 7 ≤ nth xs 0 % 16) (h1 : nth xs 0 % 16 ≤ 7) :
    Calls Try.prog 22 #[.slice A n cap] w (FirstPost w ⟨6, nth xs 0 / 16, nth xs 1, nth xs 2, []⟩ 3) := by
  have hb0 := nth_bd hx.2 0
  have hb1 := nth_bd hx.2 1
  have hb2 := nth_bd hx.2 2
  have hX := hx.alloc (.cells #[.int .i64 0, .int .i64 0, .int .i64 0, .int .i64 0, .slice none 0 0] 33)
  clear hx
  go_enter Try.func22, Try.ntmps22
  go_wp2_with fail
  refine (at_any A n cap xs 0 0 _ rfl hX).mono ?_
  rintro e w1 ⟨rfl, rfl⟩
  go_wp2_with fail
  refine (at_any A n cap xs 0 0 _ rfl hX).mono ?_
  rintro e w1 ⟨rfl, rfl⟩
  go_wp2_with fail
  refine (at_any A n cap xs 1 1 _ rfl hX).mono ?_
  rintro e w1 ⟨rfl, rfl⟩
  go_wp2_with fail
  refine (at_any A n cap xs 2 2 _ rfl hX).mono ?_
  rintro e w1 ⟨rfl, rfl⟩
  generalize nth xs 0 = x at *
  generalize nth xs 1 = y at *
  generalize nth xs 2 = z at *
  go_wp2
  refine bodyPost_ret (v := .tuple #[.agg #[.int .i64 (6), .int .i64 (x / 16), .int .i64 (y), .int .i64 (z), .slice none 0 0], .int .i64 3]) (by simp [results, Try.results22, go_sem]) rfl ?_
  refine first_fin ?_ none 0 0 rfl (BOwns.nil _ _ _)
  (focus (repeat' (first | (with_reducible exact Below.refl _ _) | (with_reducible assumption) | (with_reducible refine Below.alloc ?_ ?_ _) | (with_reducible refine below_drewN ?_ _) | (with_reducible refine Below.drew ?_) | (with_reducible refine Below.setCell ?_ ?_ _) | omega | (simp; done) | (simp; omega))))

set_option maxHeartbeats 400000 in
theorem first_8 (A : Option Addr) (n cap : Nat) (xs : List Int) (w : World) (hx : BReads w A n xs) (h0 : 8 ≤ nth xs 0 % 16) (h1 : nth xs 0 % 16 ≤ 8) :
    Calls Try.prog 22 #[.slice A n cap] w (FirstPost w ⟨7, nth xs 0 / 16, 0, nth xs 1, []⟩ 2) := by
  have hb0 := nth_bd hx.2 0
  have hb1 := nth_bd hx.2 1
  have hb2 := nth_bd hx.2 2
  have hX := hx.alloc (.cells #[.int .i64 0, .int .i64 0, .int .i64 0, .int .i64 0, .slice none 0 0] 33)
  clear hx
  go_enter Try.func22, Try.ntmps22
  go_wp2_with fail
  refine (at_any A n cap xs 0 0 _ rfl hX).mono ?_
  rintro e w1 ⟨rfl, rfl⟩
  go_wp2_with fail
  refine (at_any A n cap xs 0 0 _ rfl hX).mono ?_
  rintro e w1 ⟨rfl, rfl⟩
  go_wp2_with fail
  refine (at_any A n cap xs 1 1 _ rfl hX).mono ?_
  rintro e w1 ⟨rfl, rfl⟩
  generalize nth xs 0 = x at *
  generalize nth xs 1 = y at *
  generalize nth xs 2 = z at *
  go_wp2
  refine bodyPost_ret (v := .tuple #[.agg #[.int .i64 (7), .int .i64 (x / 16), .int .i64 (0), .int .i64 (y), .slice none 0 0], .int .i64 2]) (by simp [results, Try.results22, go_sem]) rfl ?_
  refine first_fin ?_ none 0 0 rfl (BOwns.nil _ _ _)
  (focus (repeat' (first | (with_reducible exact Below.refl _ _) | (with_reducible assumption) | (with_reducible refine Below.alloc ?_ ?_ _) | (with_reducible refine below_drewN ?_ _) | (with_reducible refine Below.drew ?_) | (with_reducible refine Below.setCell ?_ ?_ _) | omega | (simp; done) | (simp; omega))))

set_option maxHeartbeats 400000 in
theorem first_9 (A : Option Addr) (n cap : Nat) (xs : List Int) (w : World) (hx : BReads w A n xs) (h0 : 9 ≤ nth xs 0 % 16) (h1 : nth xs 0 % 16 ≤ 9) :
    Calls Try.prog 22 #[.slice A n cap] w (FirstPost w ⟨8, nth xs 0 / 16, nth xs 1, 0, []⟩ 2) := by
  have hb0 := nth_bd hx.2 0
  have hb1 := nth_bd hx.2 1
  have hb2 := nth_bd hx.2 2
  have hX := hx.alloc (.cells #[.int .i64 0, .int .i64 0, .int .i64 0, .int .i64 0, .slice none 0 0] 33)
  clear hx
  go_enter Try.func22, Try.ntmps22
  go_wp2_with fail
  refine (at_any A n cap xs 0 0 _ rfl hX).mono ?_
  rintro e w1 ⟨rfl, rfl⟩
  go_wp2_with fail
  refine (at_any A n cap xs 0 0 _ rfl hX).mono ?_
  rintro e w1 ⟨rfl, rfl⟩
  go_wp2_with fail
  refine (at_any A n cap xs 1 1 _ rfl hX).mono ?_
  rintro e w1 ⟨rfl, rfl⟩
  generalize nth xs 0 = x at *
  generalize nth xs 1 = y at *
  generalize nth xs 2 = z at *
  go_wp2
  refine bodyPost_ret (v := .tuple #[.agg #[.int .i64 (8), .int .i64 (x / 16), .int .i64 (y), .int .i64 (0), .slice none 0 0], .int .i64 2]) (by simp [results, Try.results22, go_sem]) rfl ?_
  refine first_fin ?_ none 0 0 rfl (BOwns.nil _ _ _)
  (focus (repeat' (first | (with_reducible exact Below.refl _ _) | (with_reducible assumption) | (with_reducible refine Below.alloc ?_ ?_ _) | (with_reducible refine below_drewN ?_ _) | (with_reducible refine Below.drew ?_) | (with_reducible refine Below.setCell ?_ ?_ _) | omega | (simp; done) | (simp; omega))))

set_option maxHeartbeats 400000 in
theorem first_0 (A : Option Addr) (n cap : Nat) (xs : List Int) (w : World) (hx : BReads w A n xs) (h0 : 0 ≤ nth xs 0 % 16) (h1 : nth xs 0 % 16 ≤ 1) :
    Calls Try.prog 22 #[.slice A n cap] w (FirstPost w ⟨6, nth xs 0 / 16, nth xs 1, 0, []⟩ 2) := by
  have hb0 := nth_bd hx.2 0
  have hb1 := nth_bd hx.2 1
  have hb2 := nth_bd hx.2 2
  have hX := hx.alloc (.cells #[.int .i64 0, .int .i64 0, .int .i64 0, .int .i64 0, .slice none 0 0] 33)
  clear hx
  go_enter Try.func22, Try.ntmps22
  go_wp2_with fail
  refine (at_any A n cap xs 0 0 _ rfl hX).mono ?_
  rintro e w1 ⟨rfl, rfl⟩
  go_wp2_with fail
  refine (at_any A n cap xs 0 0 _ rfl hX).mono ?_
  rintro e w1 ⟨rfl, rfl⟩
  go_wp2_with fail
  refine (at_any A n cap xs 1 1 _ rfl hX).mono ?_
  rintro e w1 ⟨rfl, rfl⟩
  generalize nth xs 0 = x at *
  generalize nth xs 1 = y at *
  generalize nth xs 2 = z at *
  go_wp2
  refine bodyPost_ret (v := .tuple #[.agg #[.int .i64 (6), .int .i64 (x / 16), .int .i64 (y), .int .i64 (0), .slice none 0 0], .int .i64 2]) (by simp [results, Try.results22, go_sem]) rfl ?_
  refine first_fin ?_ none 0 0 rfl (BOwns.nil _ _ _)
  (focus (repeat' (first | (with_reducible exact Below.refl _ _) | (with_reducible assumption) | (with_reducible refine Below.alloc ?_ ?_ _) | (with_reducible refine below_drewN ?_ _) | (with_reducible refine Below.drew ?_) | (with_reducible refine Below.setCell ?_ ?_ _) | omega | (simp; done) | (simp; omega))))

set_option maxHeartbeats 400000 in
theorem first_11 (A : Option Addr) (n cap : Nat) (xs : List Int) (w : World) (hx : BReads w A n xs) (h0 : 11 ≤ nth xs 0 % 16) (h1 : nth xs 0 % 16 ≤ 15) :
    Calls Try.prog 22 #[.slice A n cap] w (FirstPost w ⟨6, nth xs 0 / 16, nth xs 1, 0, []⟩ 2) := by
  have hb0 := nth_bd hx.2 0
  have hb1 := nth_bd hx.2 1
  have hb2 := nth_bd hx.2 2
  have hX := hx.alloc (.cells #[.int .i64 0, .int .i64 0, .int .i64 0, .int .i64 0, .slice none 0 0] 33)
  clear hx
  go_enter Try.func22, Try.ntmps22
  go_wp2_with fail
  refine (at_any A n cap xs 0 0 _ rfl hX).mono ?_
  rintro e w1 ⟨rfl, rfl⟩
  go_wp2_with fail
  refine (at_any A n cap xs 0 0 _ rfl hX).mono ?_
  rintro e w1 ⟨rfl, rfl⟩
  go_wp2_with fail
  refine (at_any A n cap xs 1 1 _ rfl hX).mono ?_
  rintro e w1 ⟨rfl, rfl⟩
  generalize nth xs 0 = x at *
  generalize nth xs 1 = y at *
  generalize nth xs 2 = z at *
  go_wp2
  refine bodyPost_ret (v := .tuple #[.agg #[.int .i64 (6), .int .i64 (x / 16), .int .i64 (y), .int .i64 (0), .slice none 0 0], .int .i64 2]) (by simp [results, Try.results22, go_sem]) rfl ?_
  refine first_fin ?_ none 0 0 rfl (BOwns.nil _ _ _)
  (focus (repeat' (first | (with_reducible exact Below.refl _ _) | (with_reducible assumption) | (with_reducible refine Below.alloc ?_ ?_ _) | (with_reducible refine below_drewN ?_ _) | (with_reducible refine Below.drew ?_) | (with_reducible refine Below.setCell ?_ ?_ _) | omega | (simp; done) | (simp; omega))))

end Go.Proofs.Ytpmlipcpohajgaa
