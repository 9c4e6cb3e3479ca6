/-
  Valid, in script and in its reference.
-/
import Derived.Test.YtpmlipcpohajgaaRBytes
import Derived.Test.YtpmlipcpohajgaaRParse
set_option linter.unusedSimpArgs false
set_option linter.unusedVariables false
namespace Go.Proofs.Ytpmlipcpohajgaa
open Go.RowKit

theorem ret_bool {a b : Bool} (h : a = b) : Ending.returned (.bool a) = .returned (.bool b) := by rw [h]

theorem put_some_any (o : OpV) (A : Option Addr) (cap : Nat) (w : World) (hx : BReads w A o.d.length o.d) (hA : A = none → cap = 0) (hd : o.d.length ≤ 100000) (hn : o.n ≤ 65535) (hv : rvalid o = true) :
    Calls Try.prog 23 #[.agg #[.int .i64 o.k, .int .i64 o.c, .int .i64 o.n, .int .i64 o.m, .slice A o.d.length cap]] w fun e w' => ∃ ad c, e = .returned (.slice (some ad) (rbytes o).length c) ∧ BOwns w' w.heap.size 5 (some ad) (rbytes o).length c (rbytes o) ∧ Below w.heap.size w w' :=
  (put_any o A cap w hx hA hd).mono fun e w' ⟨⟨A', n, c, he, h1, h2⟩, hb⟩ => by
    have hs := put_isSome (o := o) hx.2
    rw [hv] at hs
    obtain ⟨q, hq⟩ := Option.isSome_iff_exists.1 hs
    have ho := h2 q hq
    have he2 := (put_some hx.2 hq).2
    rw [he2] at ho
    have hl := ho.length
    subst hl
    cases A' with
    | none =>
      have h0 : 0 < (rbytes o).length := by
        rw [← he2]
        simp [candS]
      obtain ⟨g, e', _⟩ := ho.head h0
      cases e'
    | some ad => exact ⟨ad, c, he, ho, hb⟩
theorem put_none_any (o : OpV) (A : Option Addr) (cap : Nat) (w : World) (hx : BReads w A o.d.length o.d) (hA : A = none → cap = 0) (hd : o.d.length ≤ 100000) (hv : rvalid o = false) :
    Calls Try.prog 23 #[.agg #[.int .i64 o.k, .int .i64 o.c, .int .i64 o.n, .int .i64 o.m, .slice A o.d.length cap]] w fun e w' => e = .returned (.slice none 0 0) ∧ Below w.heap.size w w' :=
  (put_any o A cap w hx hA hd).mono fun e w' ⟨⟨A', n, c, he, h1, h2⟩, hb⟩ => by
    have hs := put_isSome (o := o) hx.2
    rw [hv] at hs
    obtain ⟨rfl, rfl, rfl⟩ := h1 (by cases h : putQ o with | none => rfl | some q => rw [h] at hs; cases hs)
    exact ⟨he, hb⟩
theorem rvalid_n {o : OpV} (h : rvalid o = true) : o.n ≤ 65535 := by
  unfold rvalid at h
  rw [Bool.and_eq_true, Bool.and_eq_true, decide_eq_true_eq] at h
  exact h.1.1.2.2.2.1

set_option maxHeartbeats 400000 in
theorem valid_any (o : OpV) (A : Option Addr) (cap : Nat) (w : World) (hx : BReads w A o.d.length o.d) (hA : A = none → cap = 0) (hd : o.d.length ≤ 100000) :
    Calls Try.prog 11 #[.agg #[.int .i64 o.k, .int .i64 o.c, .int .i64 o.n, .int .i64 o.m, .slice A o.d.length cap]] w fun e w' => e = .returned (.bool (rvalid o)) ∧ Below w.heap.size w w' := by
  have hX := hx.alloc (.cells #[.int .i64 o.k, .int .i64 o.c, .int .i64 o.n, .int .i64 o.m, .slice A o.d.length cap] 33)
  cases hv : rvalid o with
  | true =>
    have HV := Lib.hid hv
    have HA := Lib.hid hA
    clear hx hv hA
    go_enter Try.func11, Try.ntmps11
    go_wp2_with (go_at_call 23; refine (put_some_any o A cap _ hX HA.out hd (rvalid_n HV.out) HV.out).mono ?_; rintro e w1 ⟨ad, c, rfl, _, hb1⟩)
    go_ret
    exact ⟨rfl, Below.trans (by (focus (repeat' (first | (with_reducible exact Below.refl _ _) | (with_reducible assumption) | (with_reducible refine Below.alloc ?_ ?_ _) | (with_reducible refine below_drewN ?_ _) | (with_reducible refine Below.drew ?_) | (with_reducible refine Below.setCell ?_ ?_ _) | omega | (simp; done) | (simp; omega))))) (hb1.mono (by simp))⟩
  | false =>
    have HV := Lib.hid hv
    have HA := Lib.hid hA
    clear hx hv hA
    go_enter Try.func11, Try.ntmps11
    go_wp2_with (go_at_call 23; refine (put_none_any o A cap _ hX HA.out hd HV.out).mono ?_; rintro e w1 ⟨rfl, hb1⟩)
    go_ret
    exact ⟨rfl, Below.trans (by (focus (repeat' (first | (with_reducible exact Below.refl _ _) | (with_reducible assumption) | (with_reducible refine Below.alloc ?_ ?_ _) | (with_reducible refine below_drewN ?_ _) | (with_reducible refine Below.drew ?_) | (with_reducible refine Below.setCell ?_ ?_ _) | omega | (simp; done) | (simp; omega))))) (hb1.mono (by simp))⟩

def bndB (o : OpV) : Bool := decide (0 ≤ o.c ∧ o.c ≤ 15 ∧ 0 ≤ o.n ∧ o.n ≤ 65535 ∧ 0 ≤ o.m ∧ o.m ≤ 255 ∧ o.d.length ≤ 255)

set_option maxHeartbeats 800000 in
theorem rvalid_any (o : OpV) (A : Option Addr) (cap : Nat) (w : World) (hx : BReads w A o.d.length o.d) (hA : A = none → cap = 0) (hd : o.d.length ≤ 100000) :
    Calls Try.prog 10 #[.agg #[.int .i64 o.k, .int .i64 o.c, .int .i64 o.n, .int .i64 o.m, .slice A o.d.length cap]] w fun e w' => e = .returned (.bool (rvalid o)) ∧ Below w.heap.size w w' := by
  by_cases hbd : 0 ≤ o.c ∧ o.c ≤ 15 ∧ 0 ≤ o.n ∧ o.n ≤ 65535 ∧ 0 ≤ o.m ∧ o.m ≤ 255 ∧ (o.d.length : Int) ≤ 255
  · obtain ⟨b1, b2, b3, b4, b5, b6, b7⟩ := hbd
    have HX : Hid (∀ W, Below w.heap.size w W → BReads W A o.d.length o.d) := fun W h => hx.below h
    have HA := Lib.hid hA
    have HV : Hid (rvalid o = (opEq (opS (rbytes o)).1 o && decide ((opS (rbytes o)).2 = (rbytes o).length))) := Lib.hid (by
      unfold rvalid
      rw [decide_eq_true (by omega), Bool.true_and])
    clear hx hA
    go_enter Try.func10, Try.ntmps10
    go_wp2_with fail
    refine (rbytes_any o A cap _ (HX.out _ (by (focus (repeat' (first | (with_reducible exact Below.refl _ _) | (with_reducible assumption) | (with_reducible refine Below.alloc ?_ ?_ _) | (with_reducible refine below_drewN ?_ _) | (with_reducible refine Below.drew ?_) | (with_reducible refine Below.setCell ?_ ?_ _) | omega | (simp; done) | (simp; omega)))))) HA.out hd b4).mono ?_
    rintro e w1 ⟨B1, m1, c1, rfl, ho1, hb1⟩
    have hl1 := ho1.length
    subst hl1
    have hB1 : Below w.heap.size w w1 := Below.trans (by (focus (repeat' (first | (with_reducible exact Below.refl _ _) | (with_reducible assumption) | (with_reducible refine Below.alloc ?_ ?_ _) | (with_reducible refine below_drewN ?_ _) | (with_reducible refine Below.drew ?_) | (with_reducible refine Below.setCell ?_ ?_ _) | omega | (simp; done) | (simp; omega))))) (hb1.mono (by (focus (first | omega | (simp only [World.size_alloc]; done) | (simp only [World.size_alloc]; omega) | (simp; done) | (simp; omega)))))
    have k1 := keep_at hb1 w.heap.size (by (focus (first | omega | (simp only [World.size_alloc]; done) | (simp only [World.size_alloc]; omega) | (simp; done) | (simp; omega))))
    have hz1 : w.heap.size < w1.heap.size := by have := hb1.size; simp at this; omega
    go_wp2_with fail
    refine (first_any B1 (rbytes o).length c1 (rbytes o) _ ho1.reads).mono ?_
    rintro e w2 ⟨A3, n3, c3, rfl, ho3, hb2⟩
    have hl3 := ho3.length
    subst hl3
    have hB2 : Below w.heap.size w w2 := below_call hB1 hb2 (by omega)
    have k2 := keep_at hb2 w.heap.size hz1
    have hz2 : w.heap.size < w2.heap.size := by have := hb2.size; omega
    have H3 : Hid (∀ W, Below w2.heap.size w2 W → BReads W A3 (opS (rbytes o)).1.d.length (opS (rbytes o)).1.d) := fun W h => (ho3.below h).reads
    have HB2 := Lib.hid hB2
    clear ho1 hb1 ho3 hb2 hB1
    generalize hv : (opS (rbytes o)).1 = v at *
    generalize hj : (opS (rbytes o)).2 = j at *
    generalize hr : (rbytes o).length = r at *
    clear hv hj
    have HRR := Lib.hid hr
    clear hr
    cases hq : opEq v o with
    | false =>
      have HQ := Lib.hid hq
      clear hq
      go_wp2_with (first
        | (go_at_call 16; refine (requal_any v o A3 A _ _ _ _ _ (H3.out _ (by (focus (repeat' (first | (with_reducible exact Below.refl _ _) | (with_reducible assumption) | (with_reducible refine Below.alloc ?_ ?_ _) | (with_reducible refine below_drewN ?_ _) | (with_reducible refine Below.drew ?_) | (with_reducible refine Below.setCell ?_ ?_ _) | omega | (simp; done) | (simp; omega)))))) (HX.out _ (by (focus (repeat' (first | (with_reducible exact Below.refl _ _) | (with_reducible assumption) | (with_reducible refine Below.alloc ?_ ?_ _) | (with_reducible refine below_drewN ?_ _) | (with_reducible refine Below.drew ?_) | (with_reducible refine Below.setCell ?_ ?_ _) | omega | (simp; done) | (simp; omega))))))).mono ?_; rintro e w3 ⟨rfl, hb3⟩; rw [HQ.out]; have hB3 : Below w.heap.size w w3 := Below.trans (by (focus (repeat' (first | (with_reducible exact Below.refl _ _) | (with_reducible assumption) | (with_reducible refine Below.alloc ?_ ?_ _) | (with_reducible refine below_drewN ?_ _) | (with_reducible refine Below.drew ?_) | (with_reducible refine Below.setCell ?_ ?_ _) | omega | (simp; done) | (simp; omega))))) (hb3.mono (by (focus (first | omega | (simp only [World.size_alloc]; done) | (simp only [World.size_alloc]; omega) | (simp; done) | (simp; omega))))); have k3 := keep_at hb3 w.heap.size (by (focus (first | omega | (simp only [World.size_alloc]; done) | (simp only [World.size_alloc]; omega) | (simp; done) | (simp; omega)))); have hz3 : w.heap.size < w3.heap.size := (by have := hb3.size; simp at this; omega))
        | fail)
      go_ret
      exact ⟨by rw [HV.out, HQ.out]; rfl, hB3⟩
    | true =>
      have HQ := Lib.hid hq
      clear hq
      go_wp2_with (first
        | (go_at_call 16; refine (requal_any v o A3 A _ _ _ _ _ (H3.out _ (by (focus (repeat' (first | (with_reducible exact Below.refl _ _) | (with_reducible assumption) | (with_reducible refine Below.alloc ?_ ?_ _) | (with_reducible refine below_drewN ?_ _) | (with_reducible refine Below.drew ?_) | (with_reducible refine Below.setCell ?_ ?_ _) | omega | (simp; done) | (simp; omega)))))) (HX.out _ (by (focus (repeat' (first | (with_reducible exact Below.refl _ _) | (with_reducible assumption) | (with_reducible refine Below.alloc ?_ ?_ _) | (with_reducible refine below_drewN ?_ _) | (with_reducible refine Below.drew ?_) | (with_reducible refine Below.setCell ?_ ?_ _) | omega | (simp; done) | (simp; omega))))))).mono ?_; rintro e w3 ⟨rfl, hb3⟩; rw [HQ.out]; have hB3 : Below w.heap.size w w3 := Below.trans (by (focus (repeat' (first | (with_reducible exact Below.refl _ _) | (with_reducible assumption) | (with_reducible refine Below.alloc ?_ ?_ _) | (with_reducible refine below_drewN ?_ _) | (with_reducible refine Below.drew ?_) | (with_reducible refine Below.setCell ?_ ?_ _) | omega | (simp; done) | (simp; omega))))) (hb3.mono (by (focus (first | omega | (simp only [World.size_alloc]; done) | (simp only [World.size_alloc]; omega) | (simp; done) | (simp; omega))))); have k3 := keep_at hb3 w.heap.size (by (focus (first | omega | (simp only [World.size_alloc]; done) | (simp only [World.size_alloc]; omega) | (simp; done) | (simp; omega)))); have hz3 : w.heap.size < w3.heap.size := (by have := hb3.size; simp at this; omega))
        | (go_at_call 13; refine (rbytes_any o A cap _ (HX.out _ hB3) HA.out hd b4).mono ?_; rintro e w4 ⟨B4, m4, c4, rfl, ho4, hb4⟩; have hl4 := ho4.length; rw [HRR.out] at hl4; subst hl4; have hB4 := below_call hB3 hb4 (by omega); clear ho4)
        | fail)
      go_ret
      refine ⟨?_, hB4⟩
      rw [HV.out, HQ.out, Bool.true_and]
      exact ret_bool (by rw [Bool.eq_iff_iff]; simp; try omega)
  · have HV : Hid (rvalid o = false) := Lib.hid (by
      unfold rvalid
      rw [decide_eq_false (by omega), Bool.false_and, Bool.false_and])
    clear hx hA
    go_enter Try.func10, Try.ntmps10
    go_wp2
    all_goals go_ret
    all_goals exact ⟨by rw [HV.out]; rfl, by (focus (repeat' (first | (with_reducible exact Below.refl _ _) | (with_reducible assumption) | (with_reducible refine Below.alloc ?_ ?_ _) | (with_reducible refine below_drewN ?_ _) | (with_reducible refine Below.drew ?_) | (with_reducible refine Below.setCell ?_ ?_ _) | omega | (simp; done) | (simp; omega))))⟩
end Go.Proofs.Ytpmlipcpohajgaa
