/-
  The helpers of the statements: writes, reads, from.
-/
import Derived.Test.YtbcleifhadkecaaFrom
set_option linter.unusedSimpArgs false
set_option linter.unusedVariables false
namespace Go.Proofs.Ytbcleifhadkecaa
open Go.RowKit

/-- What Write hands back: the bytes and the error. -/
def wrB (k s m : Int) (n : Nat) (xs : List Int) : List Int := if validB k s m n = true then wr k s m xs else []
def wrE (k s m : Int) (n : Nat) : Int := if validB k s m n = true then 0 else 2
def WritePost (w : World) (k s m : Int) (n : Nat) (xs : List Int) (e : Ending) (w' : World) : Prop :=
  ∃ A' n' c', e = .returned (.tuple #[.slice A' n' c', .int .i64 (wrE k s m n)]) ∧ BOwns w' w.heap.size 5 A' n' c' (wrB k s m n xs) ∧ Below w.heap.size w w'

theorem write_all (k s m : Int) (A : Option Addr) (n cap : Nat) (xs : List Int) (w : World) (hx : BReads w A n xs) (hA : A = none → cap = 0) (hn : n ≤ 1000000 ∨ validB k s m n = false) (bs : 0 ≤ s ∧ s ≤ 65535) (bm : 0 ≤ m ∧ m ≤ 4294967295) :
    Calls Try.prog 12 #[.agg #[.int .i64 k, .int .u16 s, .int .u32 m, .slice A n cap]] w (WritePost w k s m n xs) := by
  unfold WritePost wrE wrB
  rcases hv : validB k s m n with _ | _
  · refine (write_no k s m A n cap w hv).mono fun e w' ⟨he, hb⟩ => ?_
    exact ⟨none, 0, 0, by rw [he, if_neg (by simp)], by rw [if_neg (by simp)]; exact BOwns.nil _ _ _, hb⟩
  · have hn' : n ≤ 1000000 := by
      rcases hn with h | h
      · exact h
      · rw [hv] at h; cases h
    refine (write_any k s m A n cap xs w hx hA hn' bs bm hv).mono fun e w' ⟨A', n', c', he, ho, hb⟩ => ?_
    exact ⟨A', n', c', by rw [he, if_pos rfl], by rw [if_pos rfl]; exact ho, hb⟩

theorem str_iff {xs ys : List Int} (hx : IsBytes xs) (hy : IsBytes ys) : (strOfNums xs).toList = (strOfNums ys).toList ↔ xs = ys := by
  have h := str_inj hx hy
  rw [Bool.eq_iff_iff, beq_iff_eq, beq_iff_eq] at h
  exact h

def writesB (k s m : Int) (n : Nat) (xs : List Int) (ys : List Int) (no : Int) : Bool := (wrB k s m n xs == ys) && (wrE k s m n == no)
def readsB (r : Rd) (k s m : Int) (ys : List Int) (no : Int) : Bool := eqB r.k r.s r.m r.d k s m ys && (r.er == no)

set_option maxHeartbeats 800000 in
theorem writes_any (k s m : Int) (A : Option Addr) (n cap : Nat) (xs : List Int) (B : Option Addr) (n' c' : Nat) (ys : List Int) (no : Int) (w : World) (hx : BReads w A n xs) (hA : A = none → cap = 0) (hn : n ≤ 1000000 ∨ validB k s m n = false) (bs : 0 ≤ s ∧ s ≤ 65535) (bm : 0 ≤ m ∧ m ≤ 4294967295) (hy : BReads w B n' ys) :
    Calls Try.prog 11 #[.agg #[.int .i64 k, .int .u16 s, .int .u32 m, .slice A n cap], .slice B n' c', .int .i64 no] w fun e w' => e = .returned (.bool (writesB k s m n xs ys no)) ∧ Below w.heap.size w w' := by
  have HW : Hid (∀ o, Calls Try.prog 12 #[.agg #[.int .i64 k, .int .u16 s, .int .u32 m, .slice A n cap]] (w.alloc o) (WritePost (w.alloc o) k s m n xs)) := fun o => write_all k s m A n cap xs _ (hx.alloc o) hA hn bs bm
  have HY : Hid (∀ W, Below w.heap.size w W → BReads W B n' ys) := fun W h => hy.below h
  clear hx hA hn bs bm hy
  go_enter Try.func11, Try.ntmps11
  go_wp2_with (first
    | (go_at_call 12; refine (HW.out _).mono ?_; rintro e w1 ⟨A1, n1, c1, rfl, ho1, hb1⟩; have hB1 := below_call (B := w.heap.size) (a := w) (by (focus (repeat' (first | (with_reducible exact Below.refl _ _) | (with_reducible assumption) | (with_reducible refine Below.alloc ?_ ?_ _) | (with_reducible refine below_drewN ?_ _) | (with_reducible refine Below.drew ?_) | (with_reducible refine Below.setCell ?_ ?_ _) | omega | (simp; done) | (simp; omega))))) hb1 (by (focus (first | omega | (simp only [World.size_alloc]; done) | (simp only [World.size_alloc]; omega) | (simp; done) | (simp; omega)))); have hcv1 := convert_bytes (P := Try.prog) ho1.reads c1 25 5 Try.underlying25 Try.underlying5 9 Try.underlying9; have hcv2 := convert_bytes (P := Try.prog) (HY.out _ hB1) c' 25 5 Try.underlying25 Try.underlying5 9 Try.underlying9; have HS := Lib.hid (str_iff ho1.2.1 (HY.out _ hB1).2)))
  all_goals go_ret
  all_goals refine ⟨?_, hB1⟩
  all_goals have hs := HS.out
  all_goals (clear hcv1 hcv2 HW HY)
  all_goals simp_all [writesB]

set_option maxHeartbeats 800000 in
theorem reads_any (A : Option Addr) (n cap : Nat) (xs : List Int) (k s m : Int) (B : Option Addr) (n' c' : Nat) (ys : List Int) (no : Int) (w : World) (hx : BReads w A n xs) (hc : n ≤ cap) (hy : BReads w B n' ys) :
    Calls Try.prog 15 #[.slice A n cap, .agg #[.int .i64 k, .int .u16 s, .int .u32 m, .slice B n' c'], .int .i64 no] w fun e w' => e = .returned (.bool (readsB (rd xs) k s m ys no)) ∧ Below w.heap.size w w' := by
  have HR : Hid (∀ o, Calls Try.prog 17 #[.slice A n cap] (w.alloc o) (ReadPost (w.alloc o) (rd xs))) := fun o => read_any A n cap xs _ (hx.alloc o) hc
  have HY : Hid (∀ W, Below w.heap.size w W → BReads W B n' ys) := fun W h => hy.below h
  clear hx hc hy
  generalize rd xs = r at *
  go_enter Try.func15, Try.ntmps15
  go_wp2_with (first
    | (go_at_call 17; refine (HR.out _).mono ?_; rintro e w1 ⟨A1, n1, c1, rfl, ho1, hb1⟩; have hB1 := below_call (B := w.heap.size) (a := w) (by (focus (repeat' (first | (with_reducible exact Below.refl _ _) | (with_reducible assumption) | (with_reducible refine Below.alloc ?_ ?_ _) | (with_reducible refine below_drewN ?_ _) | (with_reducible refine Below.drew ?_) | (with_reducible refine Below.setCell ?_ ?_ _) | omega | (simp; done) | (simp; omega))))) hb1 (by (focus (first | omega | (simp only [World.size_alloc]; done) | (simp only [World.size_alloc]; omega) | (simp; done) | (simp; omega)))); have hz1 : w.heap.size < w1.heap.size := (by have := hb1.size; simp at this; omega); have hk1 := keep_at hb1 w.heap.size (by (focus (first | omega | (simp only [World.size_alloc]; done) | (simp only [World.size_alloc]; omega) | (simp; done) | (simp; omega)))))
    | (go_at_call 18; refine (requal_any _ _ _ _ _ _ _ _ _ _ _ _ _ _ _ (ho1.reads.alloc _) ((HY.out _ hB1).alloc _)).mono ?_; rintro e w2 ⟨rfl, hb2⟩; have hB2 := below_call (B := w.heap.size) (a := w) (by (focus (repeat' (first | (with_reducible exact Below.refl _ _) | (with_reducible assumption) | (with_reducible refine Below.alloc ?_ ?_ _) | (with_reducible refine below_drewN ?_ _) | (with_reducible refine Below.drew ?_) | (with_reducible refine Below.setCell ?_ ?_ _) | omega | (simp; done) | (simp; omega))))) hb2 (by (focus (first | omega | (simp only [World.size_alloc]; done) | (simp only [World.size_alloc]; omega) | (simp; done) | (simp; omega))))))
  all_goals go_ret
  all_goals refine ⟨?_, hB2⟩
  all_goals simp_all [readsB]

set_option maxHeartbeats 800000 in
theorem fromb_any (A : Option Addr) (n cap : Nat) (xs : List Int) (most : Int) (k s m : Int) (B : Option Addr) (n' c' : Nat) (ys : List Int) (no : Int) (w : World) (hx : BReads w A n xs) (hc : n ≤ cap) (hy : BReads w B n' ys) :
    Calls Try.prog 20 #[.slice A n cap, .int .i64 most, .agg #[.int .i64 k, .int .u16 s, .int .u32 m, .slice B n' c'], .int .i64 no] w fun e w' => e = .returned (.bool (readsB (fromR most xs) k s m ys no)) ∧ Below w.heap.size w w' := by
  have HR : Hid (∀ o, Calls Try.prog 31 #[.slice A n cap, .int .i64 most] (w.alloc o) (ReadPost (w.alloc o) (fromR most xs))) := fun o => from_any A n cap xs most _ (hx.alloc o) hc
  have HY : Hid (∀ W, Below w.heap.size w W → BReads W B n' ys) := fun W h => hy.below h
  clear hx hc hy
  generalize fromR most xs = r at *
  go_enter Try.func20, Try.ntmps20
  go_wp2_with (first
    | (go_at_call 31; refine (HR.out _).mono ?_; rintro e w1 ⟨A1, n1, c1, rfl, ho1, hb1⟩; have hB1 := below_call (B := w.heap.size) (a := w) (by (focus (repeat' (first | (with_reducible exact Below.refl _ _) | (with_reducible assumption) | (with_reducible refine Below.alloc ?_ ?_ _) | (with_reducible refine below_drewN ?_ _) | (with_reducible refine Below.drew ?_) | (with_reducible refine Below.setCell ?_ ?_ _) | omega | (simp; done) | (simp; omega))))) hb1 (by (focus (first | omega | (simp only [World.size_alloc]; done) | (simp only [World.size_alloc]; omega) | (simp; done) | (simp; omega)))); have hz1 : w.heap.size < w1.heap.size := (by have := hb1.size; simp at this; omega); have hk1 := keep_at hb1 w.heap.size (by (focus (first | omega | (simp only [World.size_alloc]; done) | (simp only [World.size_alloc]; omega) | (simp; done) | (simp; omega)))))
    | (go_at_call 18; refine (requal_any _ _ _ _ _ _ _ _ _ _ _ _ _ _ _ (ho1.reads.alloc _) ((HY.out _ hB1).alloc _)).mono ?_; rintro e w2 ⟨rfl, hb2⟩; have hB2 := below_call (B := w.heap.size) (a := w) (by (focus (repeat' (first | (with_reducible exact Below.refl _ _) | (with_reducible assumption) | (with_reducible refine Below.alloc ?_ ?_ _) | (with_reducible refine below_drewN ?_ _) | (with_reducible refine Below.drew ?_) | (with_reducible refine Below.setCell ?_ ?_ _) | omega | (simp; done) | (simp; omega))))) hb2 (by (focus (first | omega | (simp only [World.size_alloc]; done) | (simp only [World.size_alloc]; omega) | (simp; done) | (simp; omega))))))
  all_goals go_ret
  all_goals refine ⟨?_, hB2⟩
  all_goals simp_all [readsB]

end Go.Proofs.Ytbcleifhadkecaa
