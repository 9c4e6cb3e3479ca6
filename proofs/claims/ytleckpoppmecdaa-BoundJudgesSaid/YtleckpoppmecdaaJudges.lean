/-
  Judge with errors; 'judges', in the statements' package.
-/
import Derived.Test.YtleckpoppmecdaaDids
set_option linter.unusedSimpArgs false
set_option linter.unusedVariables false
namespace Go.Proofs.Ytleckpoppmecdaa
open Go.RowKit

set_option maxHeartbeats 800000 in
theorem judge_no (c : Cfg) (A : Option Addr) (n cap : Nat) (w : World) (h : okB c = false) :
    Calls Try.prog 25 #[.agg #[.int .i64 c.l, .int .i64 c.m, .int .i64 c.a, .int .i64 c.o, .int .i64 c.t, .int .i64 c.c, .int .u64 c.rope, .int .u64 c.bank, .int .u64 c.bonus, .int .u64 c.most, .int .i64 c.str, .int .u64 c.gr, .string c.s0, .string c.s1, .int .i64 c.mi, .int .i64 c.ke], .slice A n cap] w fun e w' => e = .returned (.tuple #[.int .i64 0, .int .i64 2]) ∧ Below w.heap.size w w' := by
  go_enter Try.func25, Try.ntmps25
  go_wp2_with (first | (go_at_call 22; refine (bmoves_any c _).mono ?_; rintro e w1 ⟨rfl, hb1⟩; have hk1 := keep_at hb1 w.heap.size (by simp); have hB1 : Below w.heap.size w w1 := below_call (by (focus (repeat' (first | (with_reducible exact Below.refl _ _) | (with_reducible assumption) | (with_reducible refine Below.alloc ?_ ?_ _) | (with_reducible refine below_drewN ?_ _) | (with_reducible refine Below.drew ?_) | (with_reducible refine Below.setCell ?_ ?_ _) | omega | (simp; done) | (simp; omega))))) hb1 (by (focus (first | omega | (simp only [World.size_alloc]; done) | (simp only [World.size_alloc]; omega) | (simp; done) | (simp; omega)))); have hZ1 : w.heap.size < w1.heap.size := (by have := hb1.size; simp at this; omega); clear hb1) | (go_at_call 23; refine (bbytes_any c _).mono ?_; rintro e w2 ⟨rfl, hb2⟩; have hk2 := keep_at hb2 w.heap.size hZ1; have hB2 : Below w.heap.size w w2 := below_call hB1 hb2 hB1.size; have hZ2 : w.heap.size < w2.heap.size := (by have := hb2.size; omega); clear hb2) | fail)
  go_returns
  exact ⟨rfl, hB1⟩

set_option maxHeartbeats 800000 in
theorem judge_long (c : Cfg) (A : Option Addr) (n cap : Nat) (w : World) (h : okB c = true) (hn : 4096 < n) :
    Calls Try.prog 25 #[.agg #[.int .i64 c.l, .int .i64 c.m, .int .i64 c.a, .int .i64 c.o, .int .i64 c.t, .int .i64 c.c, .int .u64 c.rope, .int .u64 c.bank, .int .u64 c.bonus, .int .u64 c.most, .int .i64 c.str, .int .u64 c.gr, .string c.s0, .string c.s1, .int .i64 c.mi, .int .i64 c.ke], .slice A n cap] w fun e w' => e = .returned (.tuple #[.int .i64 0, .int .i64 5]) ∧ Below w.heap.size w w' := by
  go_enter Try.func25, Try.ntmps25
  go_wp2_with (first | (go_at_call 22; refine (bmoves_any c _).mono ?_; rintro e w1 ⟨rfl, hb1⟩; have hk1 := keep_at hb1 w.heap.size (by simp); have hB1 : Below w.heap.size w w1 := below_call (by (focus (repeat' (first | (with_reducible exact Below.refl _ _) | (with_reducible assumption) | (with_reducible refine Below.alloc ?_ ?_ _) | (with_reducible refine below_drewN ?_ _) | (with_reducible refine Below.drew ?_) | (with_reducible refine Below.setCell ?_ ?_ _) | omega | (simp; done) | (simp; omega))))) hb1 (by (focus (first | omega | (simp only [World.size_alloc]; done) | (simp only [World.size_alloc]; omega) | (simp; done) | (simp; omega)))); have hZ1 : w.heap.size < w1.heap.size := (by have := hb1.size; simp at this; omega); clear hb1) | (go_at_call 23; refine (bbytes_any c _).mono ?_; rintro e w2 ⟨rfl, hb2⟩; have hk2 := keep_at hb2 w.heap.size hZ1; have hB2 : Below w.heap.size w w2 := below_call hB1 hb2 hB1.size; have hZ2 : w.heap.size < w2.heap.size := (by have := hb2.size; omega); clear hb2) | fail)
  go_returns
  exact ⟨rfl, hB2⟩

set_option maxHeartbeats 800000 in
theorem judges_no (c : Cfg) (A : Option Addr) (n cap : Nat) (w : World) (h : okB c = false) :
    Calls Try.prog 13 #[.agg #[.int .i64 c.l, .int .i64 c.m, .int .i64 c.a, .int .i64 c.o, .int .i64 c.t, .int .i64 c.c, .int .u64 c.rope, .int .u64 c.bank, .int .u64 c.bonus, .int .u64 c.most, .int .i64 c.str, .int .u64 c.gr, .string c.s0, .string c.s1, .int .i64 c.mi, .int .i64 c.ke], .slice A n cap, .int .i64 0, .int .i64 2] w fun e w' => e = .returned (.bool true) ∧ Below w.heap.size w w' := by
  have HC : Hid (∀ W, Below w.heap.size w W → Calls Try.prog 25 #[.agg #[.int .i64 c.l, .int .i64 c.m, .int .i64 c.a, .int .i64 c.o, .int .i64 c.t, .int .i64 c.c, .int .u64 c.rope, .int .u64 c.bank, .int .u64 c.bonus, .int .u64 c.most, .int .i64 c.str, .int .u64 c.gr, .string c.s0, .string c.s1, .int .i64 c.mi, .int .i64 c.ke], .slice A n cap] W fun e w' => e = .returned (.tuple #[.int .i64 0, .int .i64 2]) ∧ Below W.heap.size W w') := fun W hW => judge_no c A n cap W h
  go_enter Try.func13, Try.ntmps13
  go_wp2_with (go_at_call 25; refine (HC.out _ (by (focus (repeat' (first | (with_reducible exact Below.refl _ _) | (with_reducible assumption) | (with_reducible refine Below.alloc ?_ ?_ _) | (with_reducible refine below_drewN ?_ _) | (with_reducible refine Below.drew ?_) | (with_reducible refine Below.setCell ?_ ?_ _) | omega | (simp; done) | (simp; omega)))))).mono ?_; rintro e w1 ⟨rfl, hb1⟩; have hB1 : Below w.heap.size w w1 := below_call (by (focus (repeat' (first | (with_reducible exact Below.refl _ _) | (with_reducible assumption) | (with_reducible refine Below.alloc ?_ ?_ _) | (with_reducible refine below_drewN ?_ _) | (with_reducible refine Below.drew ?_) | (with_reducible refine Below.setCell ?_ ?_ _) | omega | (simp; done) | (simp; omega))))) hb1 (by (focus (first | omega | (simp only [World.size_alloc]; done) | (simp only [World.size_alloc]; omega) | (simp; done) | (simp; omega)))))
  go_returns
  exact ⟨rfl, hB1⟩

set_option maxHeartbeats 800000 in
theorem judges_long (c : Cfg) (A : Option Addr) (n cap : Nat) (w : World) (h : okB c = true) (hn : 4096 < n) :
    Calls Try.prog 13 #[.agg #[.int .i64 c.l, .int .i64 c.m, .int .i64 c.a, .int .i64 c.o, .int .i64 c.t, .int .i64 c.c, .int .u64 c.rope, .int .u64 c.bank, .int .u64 c.bonus, .int .u64 c.most, .int .i64 c.str, .int .u64 c.gr, .string c.s0, .string c.s1, .int .i64 c.mi, .int .i64 c.ke], .slice A n cap, .int .i64 0, .int .i64 5] w fun e w' => e = .returned (.bool true) ∧ Below w.heap.size w w' := by
  have HC : Hid (∀ W, Below w.heap.size w W → Calls Try.prog 25 #[.agg #[.int .i64 c.l, .int .i64 c.m, .int .i64 c.a, .int .i64 c.o, .int .i64 c.t, .int .i64 c.c, .int .u64 c.rope, .int .u64 c.bank, .int .u64 c.bonus, .int .u64 c.most, .int .i64 c.str, .int .u64 c.gr, .string c.s0, .string c.s1, .int .i64 c.mi, .int .i64 c.ke], .slice A n cap] W fun e w' => e = .returned (.tuple #[.int .i64 0, .int .i64 5]) ∧ Below W.heap.size W w') := fun W hW => judge_long c A n cap W h hn
  go_enter Try.func13, Try.ntmps13
  go_wp2_with (go_at_call 25; refine (HC.out _ (by (focus (repeat' (first | (with_reducible exact Below.refl _ _) | (with_reducible assumption) | (with_reducible refine Below.alloc ?_ ?_ _) | (with_reducible refine below_drewN ?_ _) | (with_reducible refine Below.drew ?_) | (with_reducible refine Below.setCell ?_ ?_ _) | omega | (simp; done) | (simp; omega)))))).mono ?_; rintro e w1 ⟨rfl, hb1⟩; have hB1 : Below w.heap.size w w1 := below_call (by (focus (repeat' (first | (with_reducible exact Below.refl _ _) | (with_reducible assumption) | (with_reducible refine Below.alloc ?_ ?_ _) | (with_reducible refine below_drewN ?_ _) | (with_reducible refine Below.drew ?_) | (with_reducible refine Below.setCell ?_ ?_ _) | omega | (simp; done) | (simp; omega))))) hb1 (by (focus (first | omega | (simp only [World.size_alloc]; done) | (simp only [World.size_alloc]; omega) | (simp; done) | (simp; omega)))))
  go_returns
  exact ⟨rfl, hB1⟩

set_option maxHeartbeats 800000 in
theorem judges_ok (c : Cfg) (A : Option Addr) (n cap : Nat) (ds : List DidR) (w : World) (h : okB c = true) (hd : DidsAt w A n ds) (hn : n ≤ 4096) :
    Calls Try.prog 13 #[.agg #[.int .i64 c.l, .int .i64 c.m, .int .i64 c.a, .int .i64 c.o, .int .i64 c.t, .int .i64 c.c, .int .u64 c.rope, .int .u64 c.bank, .int .u64 c.bonus, .int .u64 c.most, .int .i64 c.str, .int .u64 c.gr, .string c.s0, .string c.s1, .int .i64 c.mi, .int .i64 c.ke], .slice A n cap, .int .i64 (judgeI c ds 0), .int .i64 0] w fun e w' => e = .returned (.bool true) ∧ Below w.heap.size w w' := by
  have HC : Hid (∀ W, Below w.heap.size w W → Calls Try.prog 25 #[.agg #[.int .i64 c.l, .int .i64 c.m, .int .i64 c.a, .int .i64 c.o, .int .i64 c.t, .int .i64 c.c, .int .u64 c.rope, .int .u64 c.bank, .int .u64 c.bonus, .int .u64 c.most, .int .i64 c.str, .int .u64 c.gr, .string c.s0, .string c.s1, .int .i64 c.mi, .int .i64 c.ke], .slice A n cap] W fun e w' => e = .returned (.tuple #[.int .i64 (judgeI c ds 0), .int .i64 0]) ∧ Below W.heap.size W w') := fun W hW => judge_ok c A n cap ds W h (hd.below hW) hn
  go_enter Try.func13, Try.ntmps13
  go_wp2_with (go_at_call 25; refine (HC.out _ (by (focus (repeat' (first | (with_reducible exact Below.refl _ _) | (with_reducible assumption) | (with_reducible refine Below.alloc ?_ ?_ _) | (with_reducible refine below_drewN ?_ _) | (with_reducible refine Below.drew ?_) | (with_reducible refine Below.setCell ?_ ?_ _) | omega | (simp; done) | (simp; omega)))))).mono ?_; rintro e w1 ⟨rfl, hb1⟩; have hB1 : Below w.heap.size w w1 := below_call (by (focus (repeat' (first | (with_reducible exact Below.refl _ _) | (with_reducible assumption) | (with_reducible refine Below.alloc ?_ ?_ _) | (with_reducible refine below_drewN ?_ _) | (with_reducible refine Below.drew ?_) | (with_reducible refine Below.setCell ?_ ?_ _) | omega | (simp; done) | (simp; omega))))) hb1 (by (focus (first | omega | (simp only [World.size_alloc]; done) | (simp only [World.size_alloc]; omega) | (simp; done) | (simp; omega)))))
  go_returns
  exact ⟨rfl, hB1⟩

end Go.Proofs.Ytleckpoppmecdaa
