/-
  The law ReplayNone, walked.
-/
import Derived.Test.YtpbbemmjodegkaaGreatDoorBeq
set_option linter.unusedSimpArgs false
set_option linter.unusedVariables false
namespace Go.Proofs.YtpbbemmjodegkaaGreatDoor
open Go.RowKit

theorem run_eql_res (w : World) : (binOp .eql 70 (.agg zout) (.agg #[.int .i64 0, .int .i64 0])).run Tryz.prog w = .ok (.bool true) w := by kernel_rfl
/-- The three boxes of the law. -/
structure Box3 (w0 : World) (g0 g1 g2 : Nat) (M C S : Array Value) : Prop where
  m : Blk w0 g0 48 M
  c : Blk w0 g1 23 C
  s : Blk w0 g2 29 S
theorem Box3.later {w0 W : World} {g0 g1 g2 : Nat} {M C S : Array Value} (h : Box3 w0 g0 g1 g2 M C S) (hb : Below w0.heap.size w0 W) : Box3 W g0 g1 g2 M C S := ⟨h.m.below hb h.m.lt, h.c.below hb h.c.lt, h.s.below hb h.s.lt⟩
set_option maxRecDepth 100000 in
set_option maxHeartbeats 6400000 in
theorem none_1 (a0 a1 a2 a3 a4 a5 n : Int) (c0 c1 c2 c3 c4 c5 : Int) (A0 A1 A2 A3 : Option Addr) (n0 n1 n2 n3 k0 k1 k2 k3 : Nat) (w : World) (h0 : (60 : Int) < n0) : Calls Tryz.prog 4 #[.agg #[.int .i64 a0, .int .i64 a1, .int .i64 a2, .int .i64 a3, .int .i64 a4, .int .u64 a5], .int .i64 n, .agg #[.int .i64 c0, .int .i64 c1, .int .i64 c2, .int .i64 c3, .int .i64 c4, .int .i64 c5], .agg #[.slice A0 n0 k0, .slice A1 n1 k1, .slice A2 n2 k2, .slice A3 n3 k3]] w fun e w' => e = .returned (.bool true) ∧ Below w.heap.size w w' := by
  obtain ⟨W1, hW1⟩ : ∃ z, w.alloc (.cells #[.int .i64 a0, .int .i64 a1, .int .i64 a2, .int .i64 a3, .int .i64 a4, .int .u64 a5] 48) = z := ⟨_, rfl⟩
  obtain ⟨W2, hW2⟩ : ∃ z, W1.alloc (.cells #[.int .i64 c0, .int .i64 c1, .int .i64 c2, .int .i64 c3, .int .i64 c4, .int .i64 c5] 23) = z := ⟨_, rfl⟩
  obtain ⟨w0, hw0⟩ : ∃ z, W2.alloc (.cells #[.slice A0 n0 k0, .slice A1 n1 k1, .slice A2 n2 k2, .slice A3 n3 k3] 29) = z := ⟨_, rfl⟩
  obtain ⟨g0, hg0⟩ : ∃ z, w.heap.size = z := ⟨_, rfl⟩
  obtain ⟨g1, hg1⟩ : ∃ z, W1.heap.size = z := ⟨_, rfl⟩
  obtain ⟨g2, hg2⟩ : ∃ z, W2.heap.size = z := ⟨_, rfl⟩
  have hb1 : Below W1.heap.size W1 W2 := by rw [← hW2]; exact (Below.refl _ _).alloc (Nat.le_refl _) _
  have hb2 : Below W2.heap.size W2 w0 := by rw [← hw0]; exact (Below.refl _ _).alloc (Nat.le_refl _) _
  have hk0 : Blk W1 g0 48 #[.int .i64 a0, .int .i64 a1, .int .i64 a2, .int .i64 a3, .int .i64 a4, .int .u64 a5] := by rw [← hW1]; exact Blk.mk_ _ _ _ _ hg0
  have hk1 : Blk W2 g1 23 #[.int .i64 c0, .int .i64 c1, .int .i64 c2, .int .i64 c3, .int .i64 c4, .int .i64 c5] := by rw [← hW2]; exact Blk.mk_ _ _ _ _ hg1
  have hk2 : Blk w0 g2 29 #[.slice A0 n0 k0, .slice A1 n1 k1, .slice A2 n2 k2, .slice A3 n3 k3] := by rw [← hw0]; exact Blk.mk_ _ _ _ _ hg2
  have HX : Hid (Box3 w0 g0 g1 g2 #[.int .i64 a0, .int .i64 a1, .int .i64 a2, .int .i64 a3, .int .i64 a4, .int .u64 a5] #[.int .i64 c0, .int .i64 c1, .int .i64 c2, .int .i64 c3, .int .i64 c4, .int .i64 c5] #[.slice A0 n0 k0, .slice A1 n1 k1, .slice A2 n2 k2, .slice A3 n3 k3]) := Lib.hid ⟨(hk0.below hb1 hk0.lt).below hb2 (hk0.below hb1 hk0.lt).lt, hk1.below hb2 hk1.lt, hk2⟩
  have HW0 : Hid (Below w.heap.size w w0) := Lib.hid (below_call (by rw [← hW1]; exact (Below.refl _ _).alloc (Nat.le_refl _) _) (below_call hb1 hb2 hb1.size) (by rw [← hW1]; simp))
  obtain ⟨s0, hs0⟩ : ∃ s : Later w0.heap.size w0, w0 = s.W := ⟨⟨w0, Below.refl _ _⟩, rfl⟩
  have hw0' : W2.alloc (.cells #[.slice A0 n0 k0, .slice A1 n1 k1, .slice A2 n2 k2, .slice A3 n3 k3] 29) = s0.W := hw0.trans hs0
  clear hb1 hb2 hk0 hk1 hk2 hs0 hw0
  have z0 : ∀ s : Later w0.heap.size w0, s.W.cell? ⟨g2, 0, none⟩ = some (.slice A0 n0 k0) := fun s => (((HX.out.later s.h).s).at_ 0).trans rfl
  have z1 : ∀ s : Later w0.heap.size w0, s.W.cell? ⟨g2, 1, none⟩ = some (.slice A1 n1 k1) := fun s => (((HX.out.later s.h).s).at_ 1).trans rfl
  have z2 : ∀ s : Later w0.heap.size w0, s.W.cell? ⟨g2, 2, none⟩ = some (.slice A2 n2 k2) := fun s => (((HX.out.later s.h).s).at_ 2).trans rfl
  have z3 : ∀ s : Later w0.heap.size w0, s.W.cell? ⟨g2, 3, none⟩ = some (.slice A3 n3 k3) := fun s => (((HX.out.later s.h).s).at_ 3).trans rfl
  have HKN := Lib.hid known_any
  go_enter Tryz.func4, Tryz.ntmps4
  go_wp2_with (first
    | (go_at_call 5; (with_reducible refine (HKN.out _).mono ?_); rintro e w1 ⟨rfl, hb1⟩)
    | fail)
  go_ret
  exact ⟨rfl, below_call HW0.out (below_call (Later.h _) hb1 (Later.h _).size) HW0.out.size⟩
set_option maxRecDepth 100000 in
set_option maxHeartbeats 6400000 in
theorem none_2 (a0 a1 a2 a3 a4 a5 n : Int) (c0 c1 c2 c3 c4 c5 : Int) (A0 A1 A2 A3 : Option Addr) (n0 n1 n2 n3 k0 k1 k2 k3 : Nat) (w : World) (h0 : ¬ (60 : Int) < n0) (h1 : (60 : Int) < n1) : Calls Tryz.prog 4 #[.agg #[.int .i64 a0, .int .i64 a1, .int .i64 a2, .int .i64 a3, .int .i64 a4, .int .u64 a5], .int .i64 n, .agg #[.int .i64 c0, .int .i64 c1, .int .i64 c2, .int .i64 c3, .int .i64 c4, .int .i64 c5], .agg #[.slice A0 n0 k0, .slice A1 n1 k1, .slice A2 n2 k2, .slice A3 n3 k3]] w fun e w' => e = .returned (.bool true) ∧ Below w.heap.size w w' := by
  obtain ⟨W1, hW1⟩ : ∃ z, w.alloc (.cells #[.int .i64 a0, .int .i64 a1, .int .i64 a2, .int .i64 a3, .int .i64 a4, .int .u64 a5] 48) = z := ⟨_, rfl⟩
  obtain ⟨W2, hW2⟩ : ∃ z, W1.alloc (.cells #[.int .i64 c0, .int .i64 c1, .int .i64 c2, .int .i64 c3, .int .i64 c4, .int .i64 c5] 23) = z := ⟨_, rfl⟩
  obtain ⟨w0, hw0⟩ : ∃ z, W2.alloc (.cells #[.slice A0 n0 k0, .slice A1 n1 k1, .slice A2 n2 k2, .slice A3 n3 k3] 29) = z := ⟨_, rfl⟩
  obtain ⟨g0, hg0⟩ : ∃ z, w.heap.size = z := ⟨_, rfl⟩
  obtain ⟨g1, hg1⟩ : ∃ z, W1.heap.size = z := ⟨_, rfl⟩
  obtain ⟨g2, hg2⟩ : ∃ z, W2.heap.size = z := ⟨_, rfl⟩
  have hb1 : Below W1.heap.size W1 W2 := by rw [← hW2]; exact (Below.refl _ _).alloc (Nat.le_refl _) _
  have hb2 : Below W2.heap.size W2 w0 := by rw [← hw0]; exact (Below.refl _ _).alloc (Nat.le_refl _) _
  have hk0 : Blk W1 g0 48 #[.int .i64 a0, .int .i64 a1, .int .i64 a2, .int .i64 a3, .int .i64 a4, .int .u64 a5] := by rw [← hW1]; exact Blk.mk_ _ _ _ _ hg0
  have hk1 : Blk W2 g1 23 #[.int .i64 c0, .int .i64 c1, .int .i64 c2, .int .i64 c3, .int .i64 c4, .int .i64 c5] := by rw [← hW2]; exact Blk.mk_ _ _ _ _ hg1
  have hk2 : Blk w0 g2 29 #[.slice A0 n0 k0, .slice A1 n1 k1, .slice A2 n2 k2, .slice A3 n3 k3] := by rw [← hw0]; exact Blk.mk_ _ _ _ _ hg2
  have HX : Hid (Box3 w0 g0 g1 g2 #[.int .i64 a0, .int .i64 a1, .int .i64 a2, .int .i64 a3, .int .i64 a4, .int .u64 a5] #[.int .i64 c0, .int .i64 c1, .int .i64 c2, .int .i64 c3, .int .i64 c4, .int .i64 c5] #[.slice A0 n0 k0, .slice A1 n1 k1, .slice A2 n2 k2, .slice A3 n3 k3]) := Lib.hid ⟨(hk0.below hb1 hk0.lt).below hb2 (hk0.below hb1 hk0.lt).lt, hk1.below hb2 hk1.lt, hk2⟩
  have HW0 : Hid (Below w.heap.size w w0) := Lib.hid (below_call (by rw [← hW1]; exact (Below.refl _ _).alloc (Nat.le_refl _) _) (below_call hb1 hb2 hb1.size) (by rw [← hW1]; simp))
  obtain ⟨s0, hs0⟩ : ∃ s : Later w0.heap.size w0, w0 = s.W := ⟨⟨w0, Below.refl _ _⟩, rfl⟩
  have hw0' : W2.alloc (.cells #[.slice A0 n0 k0, .slice A1 n1 k1, .slice A2 n2 k2, .slice A3 n3 k3] 29) = s0.W := hw0.trans hs0
  clear hb1 hb2 hk0 hk1 hk2 hs0 hw0
  have z0 : ∀ s : Later w0.heap.size w0, s.W.cell? ⟨g2, 0, none⟩ = some (.slice A0 n0 k0) := fun s => (((HX.out.later s.h).s).at_ 0).trans rfl
  have z1 : ∀ s : Later w0.heap.size w0, s.W.cell? ⟨g2, 1, none⟩ = some (.slice A1 n1 k1) := fun s => (((HX.out.later s.h).s).at_ 1).trans rfl
  have z2 : ∀ s : Later w0.heap.size w0, s.W.cell? ⟨g2, 2, none⟩ = some (.slice A2 n2 k2) := fun s => (((HX.out.later s.h).s).at_ 2).trans rfl
  have z3 : ∀ s : Later w0.heap.size w0, s.W.cell? ⟨g2, 3, none⟩ = some (.slice A3 n3 k3) := fun s => (((HX.out.later s.h).s).at_ 3).trans rfl
  have HKN := Lib.hid known_any
  go_enter Tryz.func4, Tryz.ntmps4
  go_wp2_with (first
    | (go_at_call 5; (with_reducible refine (HKN.out _).mono ?_); rintro e w1 ⟨rfl, hb1⟩)
    | fail)
  go_ret
  exact ⟨rfl, below_call HW0.out (below_call (Later.h _) hb1 (Later.h _).size) HW0.out.size⟩
set_option maxRecDepth 100000 in
set_option maxHeartbeats 6400000 in
theorem none_3 (a0 a1 a2 a3 a4 a5 n : Int) (c0 c1 c2 c3 c4 c5 : Int) (A0 A1 A2 A3 : Option Addr) (n0 n1 n2 n3 k0 k1 k2 k3 : Nat) (w : World) (h0 : ¬ (60 : Int) < n0) (h1 : ¬ (60 : Int) < n1) (h2 : (60 : Int) < n2) : Calls Tryz.prog 4 #[.agg #[.int .i64 a0, .int .i64 a1, .int .i64 a2, .int .i64 a3, .int .i64 a4, .int .u64 a5], .int .i64 n, .agg #[.int .i64 c0, .int .i64 c1, .int .i64 c2, .int .i64 c3, .int .i64 c4, .int .i64 c5], .agg #[.slice A0 n0 k0, .slice A1 n1 k1, .slice A2 n2 k2, .slice A3 n3 k3]] w fun e w' => e = .returned (.bool true) ∧ Below w.heap.size w w' := by
  obtain ⟨W1, hW1⟩ : ∃ z, w.alloc (.cells #[.int .i64 a0, .int .i64 a1, .int .i64 a2, .int .i64 a3, .int .i64 a4, .int .u64 a5] 48) = z := ⟨_, rfl⟩
  obtain ⟨W2, hW2⟩ : ∃ z, W1.alloc (.cells #[.int .i64 c0, .int .i64 c1, .int .i64 c2, .int .i64 c3, .int .i64 c4, .int .i64 c5] 23) = z := ⟨_, rfl⟩
  obtain ⟨w0, hw0⟩ : ∃ z, W2.alloc (.cells #[.slice A0 n0 k0, .slice A1 n1 k1, .slice A2 n2 k2, .slice A3 n3 k3] 29) = z := ⟨_, rfl⟩
  obtain ⟨g0, hg0⟩ : ∃ z, w.heap.size = z := ⟨_, rfl⟩
  obtain ⟨g1, hg1⟩ : ∃ z, W1.heap.size = z := ⟨_, rfl⟩
  obtain ⟨g2, hg2⟩ : ∃ z, W2.heap.size = z := ⟨_, rfl⟩
  have hb1 : Below W1.heap.size W1 W2 := by rw [← hW2]; exact (Below.refl _ _).alloc (Nat.le_refl _) _
  have hb2 : Below W2.heap.size W2 w0 := by rw [← hw0]; exact (Below.refl _ _).alloc (Nat.le_refl _) _
  have hk0 : Blk W1 g0 48 #[.int .i64 a0, .int .i64 a1, .int .i64 a2, .int .i64 a3, .int .i64 a4, .int .u64 a5] := by rw [← hW1]; exact Blk.mk_ _ _ _ _ hg0
  have hk1 : Blk W2 g1 23 #[.int .i64 c0, .int .i64 c1, .int .i64 c2, .int .i64 c3, .int .i64 c4, .int .i64 c5] := by rw [← hW2]; exact Blk.mk_ _ _ _ _ hg1
  have hk2 : Blk w0 g2 29 #[.slice A0 n0 k0, .slice A1 n1 k1, .slice A2 n2 k2, .slice A3 n3 k3] := by rw [← hw0]; exact Blk.mk_ _ _ _ _ hg2
  have HX : Hid (Box3 w0 g0 g1 g2 #[.int .i64 a0, .int .i64 a1, .int .i64 a2, .int .i64 a3, .int .i64 a4, .int .u64 a5] #[.int .i64 c0, .int .i64 c1, .int .i64 c2, .int .i64 c3, .int .i64 c4, .int .i64 c5] #[.slice A0 n0 k0, .slice A1 n1 k1, .slice A2 n2 k2, .slice A3 n3 k3]) := Lib.hid ⟨(hk0.below hb1 hk0.lt).below hb2 (hk0.below hb1 hk0.lt).lt, hk1.below hb2 hk1.lt, hk2⟩
  have HW0 : Hid (Below w.heap.size w w0) := Lib.hid (below_call (by rw [← hW1]; exact (Below.refl _ _).alloc (Nat.le_refl _) _) (below_call hb1 hb2 hb1.size) (by rw [← hW1]; simp))
  obtain ⟨s0, hs0⟩ : ∃ s : Later w0.heap.size w0, w0 = s.W := ⟨⟨w0, Below.refl _ _⟩, rfl⟩
  have hw0' : W2.alloc (.cells #[.slice A0 n0 k0, .slice A1 n1 k1, .slice A2 n2 k2, .slice A3 n3 k3] 29) = s0.W := hw0.trans hs0
  clear hb1 hb2 hk0 hk1 hk2 hs0 hw0
  have z0 : ∀ s : Later w0.heap.size w0, s.W.cell? ⟨g2, 0, none⟩ = some (.slice A0 n0 k0) := fun s => (((HX.out.later s.h).s).at_ 0).trans rfl
  have z1 : ∀ s : Later w0.heap.size w0, s.W.cell? ⟨g2, 1, none⟩ = some (.slice A1 n1 k1) := fun s => (((HX.out.later s.h).s).at_ 1).trans rfl
  have z2 : ∀ s : Later w0.heap.size w0, s.W.cell? ⟨g2, 2, none⟩ = some (.slice A2 n2 k2) := fun s => (((HX.out.later s.h).s).at_ 2).trans rfl
  have z3 : ∀ s : Later w0.heap.size w0, s.W.cell? ⟨g2, 3, none⟩ = some (.slice A3 n3 k3) := fun s => (((HX.out.later s.h).s).at_ 3).trans rfl
  have HKN := Lib.hid known_any
  go_enter Tryz.func4, Tryz.ntmps4
  go_wp2_with (first
    | (go_at_call 5; (with_reducible refine (HKN.out _).mono ?_); rintro e w1 ⟨rfl, hb1⟩)
    | fail)
  go_ret
  exact ⟨rfl, below_call HW0.out (below_call (Later.h _) hb1 (Later.h _).size) HW0.out.size⟩
set_option maxRecDepth 100000 in
set_option maxHeartbeats 6400000 in
theorem none_4 (a0 a1 a2 a3 a4 a5 n : Int) (c0 c1 c2 c3 c4 c5 : Int) (A0 A1 A2 A3 : Option Addr) (n0 n1 n2 n3 k0 k1 k2 k3 : Nat) (w : World) (h0 : ¬ (60 : Int) < n0) (h1 : ¬ (60 : Int) < n1) (h2 : ¬ (60 : Int) < n2) (h3 : (100 : Int) < n3) : Calls Tryz.prog 4 #[.agg #[.int .i64 a0, .int .i64 a1, .int .i64 a2, .int .i64 a3, .int .i64 a4, .int .u64 a5], .int .i64 n, .agg #[.int .i64 c0, .int .i64 c1, .int .i64 c2, .int .i64 c3, .int .i64 c4, .int .i64 c5], .agg #[.slice A0 n0 k0, .slice A1 n1 k1, .slice A2 n2 k2, .slice A3 n3 k3]] w fun e w' => e = .returned (.bool true) ∧ Below w.heap.size w w' := by
  obtain ⟨W1, hW1⟩ : ∃ z, w.alloc (.cells #[.int .i64 a0, .int .i64 a1, .int .i64 a2, .int .i64 a3, .int .i64 a4, .int .u64 a5] 48) = z := ⟨_, rfl⟩
  obtain ⟨W2, hW2⟩ : ∃ z, W1.alloc (.cells #[.int .i64 c0, .int .i64 c1, .int .i64 c2, .int .i64 c3, .int .i64 c4, .int .i64 c5] 23) = z := ⟨_, rfl⟩
  obtain ⟨w0, hw0⟩ : ∃ z, W2.alloc (.cells #[.slice A0 n0 k0, .slice A1 n1 k1, .slice A2 n2 k2, .slice A3 n3 k3] 29) = z := ⟨_, rfl⟩
  obtain ⟨g0, hg0⟩ : ∃ z, w.heap.size = z := ⟨_, rfl⟩
  obtain ⟨g1, hg1⟩ : ∃ z, W1.heap.size = z := ⟨_, rfl⟩
  obtain ⟨g2, hg2⟩ : ∃ z, W2.heap.size = z := ⟨_, rfl⟩
  have hb1 : Below W1.heap.size W1 W2 := by rw [← hW2]; exact (Below.refl _ _).alloc (Nat.le_refl _) _
  have hb2 : Below W2.heap.size W2 w0 := by rw [← hw0]; exact (Below.refl _ _).alloc (Nat.le_refl _) _
  have hk0 : Blk W1 g0 48 #[.int .i64 a0, .int .i64 a1, .int .i64 a2, .int .i64 a3, .int .i64 a4, .int .u64 a5] := by rw [← hW1]; exact Blk.mk_ _ _ _ _ hg0
  have hk1 : Blk W2 g1 23 #[.int .i64 c0, .int .i64 c1, .int .i64 c2, .int .i64 c3, .int .i64 c4, .int .i64 c5] := by rw [← hW2]; exact Blk.mk_ _ _ _ _ hg1
  have hk2 : Blk w0 g2 29 #[.slice A0 n0 k0, .slice A1 n1 k1, .slice A2 n2 k2, .slice A3 n3 k3] := by rw [← hw0]; exact Blk.mk_ _ _ _ _ hg2
  have HX : Hid (Box3 w0 g0 g1 g2 #[.int .i64 a0, .int .i64 a1, .int .i64 a2, .int .i64 a3, .int .i64 a4, .int .u64 a5] #[.int .i64 c0, .int .i64 c1, .int .i64 c2, .int .i64 c3, .int .i64 c4, .int .i64 c5] #[.slice A0 n0 k0, .slice A1 n1 k1, .slice A2 n2 k2, .slice A3 n3 k3]) := Lib.hid ⟨(hk0.below hb1 hk0.lt).below hb2 (hk0.below hb1 hk0.lt).lt, hk1.below hb2 hk1.lt, hk2⟩
  have HW0 : Hid (Below w.heap.size w w0) := Lib.hid (below_call (by rw [← hW1]; exact (Below.refl _ _).alloc (Nat.le_refl _) _) (below_call hb1 hb2 hb1.size) (by rw [← hW1]; simp))
  obtain ⟨s0, hs0⟩ : ∃ s : Later w0.heap.size w0, w0 = s.W := ⟨⟨w0, Below.refl _ _⟩, rfl⟩
  have hw0' : W2.alloc (.cells #[.slice A0 n0 k0, .slice A1 n1 k1, .slice A2 n2 k2, .slice A3 n3 k3] 29) = s0.W := hw0.trans hs0
  clear hb1 hb2 hk0 hk1 hk2 hs0 hw0
  have z0 : ∀ s : Later w0.heap.size w0, s.W.cell? ⟨g2, 0, none⟩ = some (.slice A0 n0 k0) := fun s => (((HX.out.later s.h).s).at_ 0).trans rfl
  have z1 : ∀ s : Later w0.heap.size w0, s.W.cell? ⟨g2, 1, none⟩ = some (.slice A1 n1 k1) := fun s => (((HX.out.later s.h).s).at_ 1).trans rfl
  have z2 : ∀ s : Later w0.heap.size w0, s.W.cell? ⟨g2, 2, none⟩ = some (.slice A2 n2 k2) := fun s => (((HX.out.later s.h).s).at_ 2).trans rfl
  have z3 : ∀ s : Later w0.heap.size w0, s.W.cell? ⟨g2, 3, none⟩ = some (.slice A3 n3 k3) := fun s => (((HX.out.later s.h).s).at_ 3).trans rfl
  have HKN := Lib.hid known_any
  go_enter Tryz.func4, Tryz.ntmps4
  go_wp2_with (first
    | (go_at_call 5; (with_reducible refine (HKN.out _).mono ?_); rintro e w1 ⟨rfl, hb1⟩)
    | fail)
  go_ret
  exact ⟨rfl, below_call HW0.out (below_call (Later.h _) hb1 (Later.h _).size) HW0.out.size⟩
set_option maxRecDepth 100000 in
set_option maxHeartbeats 6400000 in
theorem none_5 (a0 a1 a2 a3 a4 a5 n : Int) (c0 c1 c2 c3 c4 c5 : Int) (A0 A1 A2 A3 : Option Addr) (n0 n1 n2 n3 k0 k1 k2 k3 : Nat) (w : World) (h0 : ¬ (60 : Int) < n0) (h1 : ¬ (60 : Int) < n1) (h2 : ¬ (60 : Int) < n2) (h3 : ¬ (100 : Int) < n3) : Calls Tryz.prog 4 #[.agg #[.int .i64 a0, .int .i64 a1, .int .i64 a2, .int .i64 a3, .int .i64 a4, .int .u64 a5], .int .i64 n, .agg #[.int .i64 c0, .int .i64 c1, .int .i64 c2, .int .i64 c3, .int .i64 c4, .int .i64 c5], .agg #[.slice A0 n0 k0, .slice A1 n1 k1, .slice A2 n2 k2, .slice A3 n3 k3]] w fun e w' => e = .returned (.bool true) ∧ Below w.heap.size w w' := by
  obtain ⟨W1, hW1⟩ : ∃ z, w.alloc (.cells #[.int .i64 a0, .int .i64 a1, .int .i64 a2, .int .i64 a3, .int .i64 a4, .int .u64 a5] 48) = z := ⟨_, rfl⟩
  obtain ⟨W2, hW2⟩ : ∃ z, W1.alloc (.cells #[.int .i64 c0, .int .i64 c1, .int .i64 c2, .int .i64 c3, .int .i64 c4, .int .i64 c5] 23) = z := ⟨_, rfl⟩
  obtain ⟨w0, hw0⟩ : ∃ z, W2.alloc (.cells #[.slice A0 n0 k0, .slice A1 n1 k1, .slice A2 n2 k2, .slice A3 n3 k3] 29) = z := ⟨_, rfl⟩
  obtain ⟨g0, hg0⟩ : ∃ z, w.heap.size = z := ⟨_, rfl⟩
  obtain ⟨g1, hg1⟩ : ∃ z, W1.heap.size = z := ⟨_, rfl⟩
  obtain ⟨g2, hg2⟩ : ∃ z, W2.heap.size = z := ⟨_, rfl⟩
  have hb1 : Below W1.heap.size W1 W2 := by rw [← hW2]; exact (Below.refl _ _).alloc (Nat.le_refl _) _
  have hb2 : Below W2.heap.size W2 w0 := by rw [← hw0]; exact (Below.refl _ _).alloc (Nat.le_refl _) _
  have hk0 : Blk W1 g0 48 #[.int .i64 a0, .int .i64 a1, .int .i64 a2, .int .i64 a3, .int .i64 a4, .int .u64 a5] := by rw [← hW1]; exact Blk.mk_ _ _ _ _ hg0
  have hk1 : Blk W2 g1 23 #[.int .i64 c0, .int .i64 c1, .int .i64 c2, .int .i64 c3, .int .i64 c4, .int .i64 c5] := by rw [← hW2]; exact Blk.mk_ _ _ _ _ hg1
  have hk2 : Blk w0 g2 29 #[.slice A0 n0 k0, .slice A1 n1 k1, .slice A2 n2 k2, .slice A3 n3 k3] := by rw [← hw0]; exact Blk.mk_ _ _ _ _ hg2
  have HX : Hid (Box3 w0 g0 g1 g2 #[.int .i64 a0, .int .i64 a1, .int .i64 a2, .int .i64 a3, .int .i64 a4, .int .u64 a5] #[.int .i64 c0, .int .i64 c1, .int .i64 c2, .int .i64 c3, .int .i64 c4, .int .i64 c5] #[.slice A0 n0 k0, .slice A1 n1 k1, .slice A2 n2 k2, .slice A3 n3 k3]) := Lib.hid ⟨(hk0.below hb1 hk0.lt).below hb2 (hk0.below hb1 hk0.lt).lt, hk1.below hb2 hk1.lt, hk2⟩
  have HW0 : Hid (Below w.heap.size w w0) := Lib.hid (below_call (by rw [← hW1]; exact (Below.refl _ _).alloc (Nat.le_refl _) _) (below_call hb1 hb2 hb1.size) (by rw [← hW1]; simp))
  obtain ⟨s0, hs0⟩ : ∃ s : Later w0.heap.size w0, w0 = s.W := ⟨⟨w0, Below.refl _ _⟩, rfl⟩
  have hw0' : W2.alloc (.cells #[.slice A0 n0 k0, .slice A1 n1 k1, .slice A2 n2 k2, .slice A3 n3 k3] 29) = s0.W := hw0.trans hs0
  clear hb1 hb2 hk0 hk1 hk2 hs0 hw0
  have z0 : ∀ s : Later w0.heap.size w0, s.W.cell? ⟨g2, 0, none⟩ = some (.slice A0 n0 k0) := fun s => (((HX.out.later s.h).s).at_ 0).trans rfl
  have z1 : ∀ s : Later w0.heap.size w0, s.W.cell? ⟨g2, 1, none⟩ = some (.slice A1 n1 k1) := fun s => (((HX.out.later s.h).s).at_ 1).trans rfl
  have z2 : ∀ s : Later w0.heap.size w0, s.W.cell? ⟨g2, 2, none⟩ = some (.slice A2 n2 k2) := fun s => (((HX.out.later s.h).s).at_ 2).trans rfl
  have z3 : ∀ s : Later w0.heap.size w0, s.W.cell? ⟨g2, 3, none⟩ = some (.slice A3 n3 k3) := fun s => (((HX.out.later s.h).s).at_ 3).trans rfl
  have y0 : ∀ s : Later w0.heap.size w0, s.W.cell? ⟨g1, 0, none⟩ = some (.int .i64 c0) := fun s => (((HX.out.later s.h).c).at_ 0).trans rfl
  have y1 : ∀ s : Later w0.heap.size w0, s.W.cell? ⟨g1, 1, none⟩ = some (.int .i64 c1) := fun s => (((HX.out.later s.h).c).at_ 1).trans rfl
  have y2 : ∀ s : Later w0.heap.size w0, s.W.cell? ⟨g1, 2, none⟩ = some (.int .i64 c2) := fun s => (((HX.out.later s.h).c).at_ 2).trans rfl
  have y3 : ∀ s : Later w0.heap.size w0, s.W.cell? ⟨g1, 3, none⟩ = some (.int .i64 c3) := fun s => (((HX.out.later s.h).c).at_ 3).trans rfl
  have y4 : ∀ s : Later w0.heap.size w0, s.W.cell? ⟨g1, 4, none⟩ = some (.int .i64 c4) := fun s => (((HX.out.later s.h).c).at_ 4).trans rfl
  have y5 : ∀ s : Later w0.heap.size w0, s.W.cell? ⟨g1, 5, none⟩ = some (.int .i64 c5) := fun s => (((HX.out.later s.h).c).at_ 5).trans rfl
  have HKN := Lib.hid known_any
  have HCU := Lib.hid (nil_cut n)
  have HBO := Lib.hid (nil_board c0 c1 c2 c3 c4 c5 A0 A1 A2 A3 n0 n1 n2 n3 k0 k1 k2 k3 n)
  have HPL := Lib.hid (nil_play c0 c1 c2 c3 c4 c5 A0 A1 A2 A3 n0 n1 n2 n3 k0 k1 k2 k3)
  have HAP := Lib.hid (nil_append a0 a1 a2 a3 a4 a5)
  have HEQ : Hid (∀ w : World, Calls Tryz.prog 10 #[.agg zbd, .agg #[.slice none 0 0, .int .i64 0, .int .i64 0, .int .i64 0, .int .i64 0, .int .i64 0, .slice none 0 0, .slice none 0 0, .slice none 0 0, .slice none 0 0, .bool false, .bool false, .bool false, .int .i64 0, .int .i64 0, .int .i64 0, .int .i64 0, .int .i64 0, .int .i64 0, .int .i64 0, .slice none 0 0, .slice none 0 0, .slice none 0 0, .slice none 0 0, .bool false, .bool false, .bool false, .int .i64 0, .int .i64 0, .slice none 0 0, .slice none 0 0, .slice none 0 0, .slice none 0 0, .int .i64 0, .int .i64 0, .int .i64 0, .int .i64 0, .int .i64 0]] w fun e w' => e = .returned (.bool true) ∧ Below w.heap.size w w') := Lib.hid beq_any
  have qR := run_eql_res
  go_enter Tryz.func4, Tryz.ntmps4
  go_wp2_with (first
    | (go_at_call 15; (with_reducible refine (Calls.later_same (HCU.out _)).mono ?_); rintro e w1 ⟨rfl, s1, rfl⟩)
    | (go_at_call 9; (with_reducible refine (HBO.out _).mono ?_); rintro e v1b ⟨rfl, hb1⟩
       have hb1' := below_call (Later.h _) hb1 (Later.h _).size
       obtain ⟨v2b, hv2b⟩ : ∃ z, v1b.alloc (.cells #[.slice none 0 0, .int .i64 0, .int .i64 0, .int .i64 0, .int .i64 0, .int .i64 0, .slice none 0 0, .slice none 0 0, .slice none 0 0, .slice none 0 0, .bool false, .bool false, .bool false, .int .i64 0, .int .i64 0, .int .i64 0, .int .i64 0, .int .i64 0, .int .i64 0, .int .i64 0, .slice none 0 0, .slice none 0 0, .slice none 0 0, .slice none 0 0, .bool false, .bool false, .bool false, .int .i64 0, .int .i64 0, .slice none 0 0, .slice none 0 0, .slice none 0 0, .slice none 0 0, .int .i64 0, .int .i64 0, .int .i64 0, .int .i64 0, .int .i64 0] 59) = z := ⟨_, rfl⟩
       have hk2 : Blk v2b v1b.heap.size 59 #[.slice none 0 0, .int .i64 0, .int .i64 0, .int .i64 0, .int .i64 0, .int .i64 0, .slice none 0 0, .slice none 0 0, .slice none 0 0, .slice none 0 0, .bool false, .bool false, .bool false, .int .i64 0, .int .i64 0, .int .i64 0, .int .i64 0, .int .i64 0, .int .i64 0, .int .i64 0, .slice none 0 0, .slice none 0 0, .slice none 0 0, .slice none 0 0, .bool false, .bool false, .bool false, .int .i64 0, .int .i64 0, .slice none 0 0, .slice none 0 0, .slice none 0 0, .slice none 0 0, .int .i64 0, .int .i64 0, .int .i64 0, .int .i64 0, .int .i64 0] := by rw [← hv2b]; exact Blk.mk_ _ _ _ _ rfl
       have hb2 : Below v1b.heap.size v1b v2b := by rw [← hv2b]; exact (Below.refl _ _).alloc (Nat.le_refl _) _
       obtain ⟨v3b, hst, hk3, hg3⟩ := hk2.storeAll (ty := 59) zbd.toList (by rw [zbd_len]; rfl) (by rw [size_board, zbd_len]) one_zbd
       rw [Array.toArray_toList] at hst hk3
       have hb3 : Below v1b.heap.size v1b v3b := hb2.grown hg3 hb2.size (fun q hq => by injection hq with hq; subst hq; exact Nat.le_refl _)
       have hb4 := below_call hb1' hb3 hb1'.size
       obtain ⟨s3b, hs3⟩ : ∃ s : Later v3b.heap.size v3b, v3b = s.W := ⟨⟨v3b, Below.refl _ _⟩, rfl⟩
       have hst' := hst.trans (congrArg (Result.ok ()) hs3)
       have HBb := Lib.hid hb4
       have HSTb := Lib.hid hst'
       have HKb := Lib.hid hk3
       clear hb1 hb1' hk2 hb2 hst hst' hk3 hg3 hb3 hb4 hs3
       clear z0 z1 z2 z3 y0 y1 y2 y3 y4 y5
       have HXb := Lib.hid (HX.out.later HBb.out)
       have z0 : ∀ s : Later v3b.heap.size v3b, s.W.cell? ⟨g2, 0, none⟩ = some (.slice A0 n0 k0) := fun s => (((HXb.out.later s.h).s).at_ 0).trans rfl
       have z1 : ∀ s : Later v3b.heap.size v3b, s.W.cell? ⟨g2, 1, none⟩ = some (.slice A1 n1 k1) := fun s => (((HXb.out.later s.h).s).at_ 1).trans rfl
       have z2 : ∀ s : Later v3b.heap.size v3b, s.W.cell? ⟨g2, 2, none⟩ = some (.slice A2 n2 k2) := fun s => (((HXb.out.later s.h).s).at_ 2).trans rfl
       have z3 : ∀ s : Later v3b.heap.size v3b, s.W.cell? ⟨g2, 3, none⟩ = some (.slice A3 n3 k3) := fun s => (((HXb.out.later s.h).s).at_ 3).trans rfl
       have y0 : ∀ s : Later v3b.heap.size v3b, s.W.cell? ⟨g1, 0, none⟩ = some (.int .i64 c0) := fun s => (((HXb.out.later s.h).c).at_ 0).trans rfl
       have y1 : ∀ s : Later v3b.heap.size v3b, s.W.cell? ⟨g1, 1, none⟩ = some (.int .i64 c1) := fun s => (((HXb.out.later s.h).c).at_ 1).trans rfl
       have y2 : ∀ s : Later v3b.heap.size v3b, s.W.cell? ⟨g1, 2, none⟩ = some (.int .i64 c2) := fun s => (((HXb.out.later s.h).c).at_ 2).trans rfl
       have y3 : ∀ s : Later v3b.heap.size v3b, s.W.cell? ⟨g1, 3, none⟩ = some (.int .i64 c3) := fun s => (((HXb.out.later s.h).c).at_ 3).trans rfl
       have y4 : ∀ s : Later v3b.heap.size v3b, s.W.cell? ⟨g1, 4, none⟩ = some (.int .i64 c4) := fun s => (((HXb.out.later s.h).c).at_ 4).trans rfl
       have y5 : ∀ s : Later v3b.heap.size v3b, s.W.cell? ⟨g1, 5, none⟩ = some (.int .i64 c5) := fun s => (((HXb.out.later s.h).c).at_ 5).trans rfl)
    | (refine wpList_store_by HSTb.out rfl rfl rfl rfl ?_; simp only [Act.put, List.setIfInBounds_toArray, List.set_cons_succ, List.set_cons_zero])
    | (go_at_call 13; (with_reducible refine (HPL.out _).mono ?_); rintro e v1p ⟨rfl, hb1⟩
       have hb1' := below_call (Later.h _) hb1 (Later.h _).size
       obtain ⟨v2p, hv2p⟩ : ∃ z, v1p.alloc (.cells #[.int .i64 0, .int .i64 0] 70) = z := ⟨_, rfl⟩
       have hk2 : Blk v2p v1p.heap.size 70 #[.int .i64 0, .int .i64 0] := by rw [← hv2p]; exact Blk.mk_ _ _ _ _ rfl
       have hb2 : Below v1p.heap.size v1p v2p := by rw [← hv2p]; exact (Below.refl _ _).alloc (Nat.le_refl _) _
       obtain ⟨v3p, hst, hk3, hg3⟩ := hk2.storeAll (ty := 70) zout.toList (by rw [zout_len]; rfl) (by rw [size_outcome, zout_len]) one_zout
       rw [Array.toArray_toList] at hst hk3
       have hb3 : Below v1p.heap.size v1p v3p := hb2.grown hg3 hb2.size (fun q hq => by injection hq with hq; subst hq; exact Nat.le_refl _)
       have hb4 := below_call hb1' hb3 hb1'.size
       obtain ⟨s3p, hs3⟩ : ∃ s : Later v3p.heap.size v3p, v3p = s.W := ⟨⟨v3p, Below.refl _ _⟩, rfl⟩
       have hst' := hst.trans (congrArg (Result.ok ()) hs3)
       have HBp := Lib.hid hb4
       have HSTp := Lib.hid hst'
       have HKp := Lib.hid hk3
       clear hb1 hb1' hk2 hb2 hst hst' hk3 hg3 hb3 hb4 hs3
       clear z0 z1 z2 z3 y0 y1 y2 y3 y4 y5
       have HXp := Lib.hid (HXb.out.later HBp.out)
       have x0 : ∀ s : Later v3p.heap.size v3p, s.W.cell? ⟨g0, 0, none⟩ = some (.int .i64 a0) := fun s => (((HXp.out.later s.h).m).at_ 0).trans rfl
       have x1 : ∀ s : Later v3p.heap.size v3p, s.W.cell? ⟨g0, 1, none⟩ = some (.int .i64 a1) := fun s => (((HXp.out.later s.h).m).at_ 1).trans rfl
       have x2 : ∀ s : Later v3p.heap.size v3p, s.W.cell? ⟨g0, 2, none⟩ = some (.int .i64 a2) := fun s => (((HXp.out.later s.h).m).at_ 2).trans rfl
       have x3 : ∀ s : Later v3p.heap.size v3p, s.W.cell? ⟨g0, 3, none⟩ = some (.int .i64 a3) := fun s => (((HXp.out.later s.h).m).at_ 3).trans rfl
       have x4 : ∀ s : Later v3p.heap.size v3p, s.W.cell? ⟨g0, 4, none⟩ = some (.int .i64 a4) := fun s => (((HXp.out.later s.h).m).at_ 4).trans rfl
       have x5 : ∀ s : Later v3p.heap.size v3p, s.W.cell? ⟨g0, 5, none⟩ = some (.int .u64 a5) := fun s => (((HXp.out.later s.h).m).at_ 5).trans rfl
       have HLb : Hid (∀ s : Later v3p.heap.size v3p, (Instr.loadAt 59 (.pointer (some ⟨v1b.heap.size, 0, none⟩))).run Tryz.prog s.W = .ok (.agg zbd) s.W) := Lib.hid fun s => ((HKb.out.below HBp.out HKb.out.lt).below s.h (HKb.out.below HBp.out HKb.out.lt).lt).mid (o := 0) (ty := 59) zbd.toList _ (fun j v hj => by rw [Nat.zero_add]; simpa using hj) Tryz.underlying59 rfl (by rw [size_board, zbd_len])
       have HLp : Hid (∀ s : Later v3p.heap.size v3p, (Instr.loadAt 70 (.pointer (some ⟨v1p.heap.size, 0, none⟩))).run Tryz.prog s.W = .ok (.agg zout) s.W) := Lib.hid fun s => (HKp.out.below s.h HKp.out.lt).mid (o := 0) (ty := 70) zout.toList _ (fun j v hj => by rw [Nat.zero_add]; simpa using hj) Tryz.underlying70 rfl (by rw [size_outcome, zout_len]))
    | (refine wpList_store_by HSTp.out rfl rfl rfl rfl ?_; simp only [Act.put, List.setIfInBounds_toArray, List.set_cons_succ, List.set_cons_zero])
    | (with_reducible (refine wp_region_lit (L := ?L0) ?hl0 ?h0); (case hl0 => (simp only [List.append_eq, List.cons_append, List.nil_append]; exact rfl)))
    | (go_at_call 7; (with_reducible refine (Calls.later (Nat.le_refl _) (HAP.out _)).mono ?_); rintro e w9 ⟨rfl, s9, rfl⟩)
    | (go_at_call 16; (with_reducible refine (Calls.later_same (nil_len _)).mono ?_); rintro e w9 ⟨rfl, s9, rfl⟩)
    | (go_at_call 17; (with_reducible refine (Calls.later_same (nil_key _)).mono ?_); rintro e w9 ⟨rfl, s9, rfl⟩)
    | (go_at_call 18; (with_reducible refine (Calls.later_same (nil_sum _)).mono ?_); rintro e w9 ⟨rfl, s9, rfl⟩)
    | (go_at_call 19; (with_reducible refine (Calls.later_same (nil_moves _)).mono ?_); rintro e w9 ⟨rfl, s9, rfl⟩)
    | (go_at_call 20; (with_reducible refine (Calls.later_same (nil_bytes _)).mono ?_); rintro e w9 ⟨rfl, s9, rfl⟩)
    | (go_at_call 21; (with_reducible refine (Calls.later_same (nil_copy _)).mono ?_); rintro e w9 ⟨rfl, s9, rfl⟩)
    | (go_at_call 10; (with_reducible refine (Calls.later (Nat.le_refl _) (HEQ.out _)).mono ?_); rintro e w9 ⟨rfl, s9, rfl⟩)
    | (go_at_call 5; (with_reducible refine (Calls.later (Nat.le_refl _) (HKN.out _)).mono ?_); rintro e w9 ⟨rfl, s9, rfl⟩)
    | (refine wpList_op_by rfl (run_of_build (parts := #[]) (parts' := #[]) rfl rfl built_zbd) ?_; simp only [Act.put, List.setIfInBounds_toArray, List.set_cons_succ, List.set_cons_zero])
    | (refine wpList_op_by rfl (run_of_build (parts := #[]) (parts' := #[]) rfl rfl built_zout) ?_; simp only [Act.put, List.setIfInBounds_toArray, List.set_cons_succ, List.set_cons_zero])
    | (refine wpList_load_by (HLb.out _) rfl rfl rfl ?_; simp only [Act.put, List.setIfInBounds_toArray, List.set_cons_succ, List.set_cons_zero])
    | (refine wpList_load_by (HLp.out _) rfl rfl rfl ?_; simp only [Act.put, List.setIfInBounds_toArray, List.set_cons_succ, List.set_cons_zero])
    | fail)
  go_ret
  exact ⟨rfl, below_call HW0.out (below_call HBb.out (below_call HBp.out (Later.h _) HBp.out.size) HBb.out.size) HW0.out.size⟩
theorem none_any (a0 a1 a2 a3 a4 a5 n : Int) (c0 c1 c2 c3 c4 c5 : Int) (A0 A1 A2 A3 : Option Addr) (n0 n1 n2 n3 k0 k1 k2 k3 : Nat) (w : World) : Calls Tryz.prog 4 #[.agg #[.int .i64 a0, .int .i64 a1, .int .i64 a2, .int .i64 a3, .int .i64 a4, .int .u64 a5], .int .i64 n, .agg #[.int .i64 c0, .int .i64 c1, .int .i64 c2, .int .i64 c3, .int .i64 c4, .int .i64 c5], .agg #[.slice A0 n0 k0, .slice A1 n1 k1, .slice A2 n2 k2, .slice A3 n3 k3]] w fun e w' => e = .returned (.bool true) ∧ Below w.heap.size w w' := by
  by_cases h0 : (60 : Int) < n0
  · exact none_1 a0 a1 a2 a3 a4 a5 n c0 c1 c2 c3 c4 c5 A0 A1 A2 A3 n0 n1 n2 n3 k0 k1 k2 k3 w h0
  by_cases h1 : (60 : Int) < n1
  · exact none_2 a0 a1 a2 a3 a4 a5 n c0 c1 c2 c3 c4 c5 A0 A1 A2 A3 n0 n1 n2 n3 k0 k1 k2 k3 w h0 h1
  by_cases h2 : (60 : Int) < n2
  · exact none_3 a0 a1 a2 a3 a4 a5 n c0 c1 c2 c3 c4 c5 A0 A1 A2 A3 n0 n1 n2 n3 k0 k1 k2 k3 w h0 h1 h2
  by_cases h3 : (100 : Int) < n3
  · exact none_4 a0 a1 a2 a3 a4 a5 n c0 c1 c2 c3 c4 c5 A0 A1 A2 A3 n0 n1 n2 n3 k0 k1 k2 k3 w h0 h1 h2 h3
  exact none_5 a0 a1 a2 a3 a4 a5 n c0 c1 c2 c3 c4 c5 A0 A1 A2 A3 n0 n1 n2 n3 k0 k1 k2 k3 w h0 h1 h2 h3
end Go.Proofs.YtpbbemmjodegkaaGreatDoor
