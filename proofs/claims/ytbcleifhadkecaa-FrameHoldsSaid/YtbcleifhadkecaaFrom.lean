/-
  From, in frame and in its reference; the helpers of the statements.
-/
import Derived.Test.YtbcleifhadkecaaRReadC
import Derived.Test.YtbcleifhadkecaaWrite
set_option linter.unusedSimpArgs false
set_option linter.unusedVariables false
namespace Go.Proofs.Ytbcleifhadkecaa
open Go.RowKit

def fromR (most : Int) (xs : List Int) : Rd :=
  if most < 0 then rdNo 2 else if most < xs.length then rdNo 5 else if (rd xs).er ≠ 0 then rdNo (rd xs).er else if sentB (rd xs).k = true then rd xs else rdNo 6

def ErOk (r : Rd) : Prop := r.er ≠ 0 → r = rdNo r.er
theorem erOk_no (e : Int) : ErOk (rdNo e) := fun _ => rfl
theorem erOk_yes (k s m : Int) (d : List Int) : ErOk ⟨0, k, s, m, d⟩ := fun h => absurd rfl h
theorem erOk_ite {c : Prop} [Decidable c] {a b : Rd} (ha : ErOk a) (hb : ErOk b) : ErOk (if c then a else b) := by
  split
  · exact ha
  · exact hb
theorem rdBody_no (k : Int) (R : List Int) : ErOk (rdBody k R) := by
  unfold rdBody
  exact erOk_ite (erOk_no _) (erOk_ite (erOk_yes _ _ _ _) (erOk_no _))
theorem rd_no (xs : List Int) : ErOk (rd xs) := by
  unfold rd
  exact erOk_ite (erOk_no _) (erOk_ite (erOk_no _) (erOk_ite (erOk_no _) (rdBody_no _ _)))

set_option maxHeartbeats 400000 in
theorem from_neg (A : Option Addr) (n cap : Nat) (most : Int) (w : World) (h : most < 0) : Calls Try.prog 31 #[.slice A n cap, .int .i64 most] w (ReadPost w (rdNo 2)) := by
  go_enter Try.func31, Try.ntmps31
  go_wp2
  go_returns
  exact ⟨_, _, _, rfl, BOwns.nil _ _ _, by (focus (repeat' (first | (with_reducible exact Below.refl _ _) | (with_reducible assumption) | (with_reducible refine Below.alloc ?_ ?_ _) | (with_reducible refine below_drewN ?_ _) | (with_reducible refine Below.drew ?_) | (with_reducible refine Below.setCell ?_ ?_ _) | omega | (simp; done) | (simp; omega))))⟩

set_option maxHeartbeats 400000 in
theorem from_long (A : Option Addr) (n cap : Nat) (most : Int) (w : World) (h : 0 ≤ most) (h1 : most < n) : Calls Try.prog 31 #[.slice A n cap, .int .i64 most] w (ReadPost w (rdNo 5)) := by
  go_enter Try.func31, Try.ntmps31
  go_wp2
  go_returns
  exact ⟨_, _, _, rfl, BOwns.nil _ _ _, by (focus (repeat' (first | (with_reducible exact Below.refl _ _) | (with_reducible assumption) | (with_reducible refine Below.alloc ?_ ?_ _) | (with_reducible refine below_drewN ?_ _) | (with_reducible refine Below.drew ?_) | (with_reducible refine Below.setCell ?_ ?_ _) | omega | (simp; done) | (simp; omega))))⟩


set_option maxHeartbeats 400000 in
theorem from_err (A : Option Addr) (n cap : Nat) (most : Int) (r : Rd) (w : World) (h : 0 ≤ most) (h1 : (n : Int) ≤ most) (hread : ∀ o, Calls Try.prog 17 #[.slice A n cap] (w.alloc o) (ReadPost (w.alloc o) r)) (he : (r.er != 0) = true) :
    Calls Try.prog 31 #[.slice A n cap, .int .i64 most] w (ReadPost w (rdNo r.er)) := by
  have HREAD := Lib.hid hread
  clear hread
  go_enter Try.func31, Try.ntmps31
  go_wp2_with (first
    | (go_at_call 17; refine (HREAD.out _).mono ?_; rintro e w1 ⟨A1, n1, c1, rfl, ho1, hb1⟩; simp only [World.size_alloc] at ho1; have hB1 := below_call (B := w.heap.size) (a := w) (by (focus (repeat' (first | (with_reducible exact Below.refl _ _) | (with_reducible assumption) | (with_reducible refine Below.alloc ?_ ?_ _) | (with_reducible refine below_drewN ?_ _) | (with_reducible refine Below.drew ?_) | (with_reducible refine Below.setCell ?_ ?_ _) | omega | (simp; done) | (simp; omega))))) hb1 (by (focus (first | omega | (simp only [World.size_alloc]; done) | (simp only [World.size_alloc]; omega) | (simp; done) | (simp; omega)))); have hz1 : w.heap.size < w1.heap.size := (by have := hb1.size; simp at this; omega); have hk1 := keep_at hb1 w.heap.size (by (focus (first | omega | (simp only [World.size_alloc]; done) | (simp only [World.size_alloc]; omega) | (simp; done) | (simp; omega)))); have hkf1 := keepf_at hb1 w.heap.size (by (focus (first | omega | (simp only [World.size_alloc]; done) | (simp only [World.size_alloc]; omega) | (simp; done) | (simp; omega))))))
  refine bodyPost_ret (v := .tuple #[.agg #[.int .i64 0, .int .u16 0, .int .u32 0, .slice none 0 0], .int .i64 r.er]) (by simp [results, Try.results31, go_sem, hk1, hz1]) rfl ?_
  exact ⟨_, _, _, rfl, BOwns.nil _ _ _, by (focus (repeat' (first | (with_reducible exact Below.refl _ _) | (with_reducible assumption) | (with_reducible refine Below.alloc ?_ ?_ _) | (with_reducible refine below_drewN ?_ _) | (with_reducible refine Below.drew ?_) | (with_reducible refine Below.setCell ?_ ?_ _) | omega | (simp; done) | (simp; omega))))⟩

set_option maxHeartbeats 800000 in
theorem from_no (A : Option Addr) (n cap : Nat) (most : Int) (r : Rd) (w : World) (h : 0 ≤ most) (h1 : (n : Int) ≤ most) (hread : ∀ o, Calls Try.prog 17 #[.slice A n cap] (w.alloc o) (ReadPost (w.alloc o) r)) (he : (r.er != 0) = false) (hs : sentB r.k = false) :
    Calls Try.prog 31 #[.slice A n cap, .int .i64 most] w (ReadPost w (rdNo 6)) := by
  have HREAD := Lib.hid hread
  clear hread
  go_enter Try.func31, Try.ntmps31
  go_wp2_with (first
    | (go_at_call 17; refine (HREAD.out _).mono ?_; rintro e w1 ⟨A1, n1, c1, rfl, ho1, hb1⟩; simp only [World.size_alloc] at ho1; have hB1 := below_call (B := w.heap.size) (a := w) (by (focus (repeat' (first | (with_reducible exact Below.refl _ _) | (with_reducible assumption) | (with_reducible refine Below.alloc ?_ ?_ _) | (with_reducible refine below_drewN ?_ _) | (with_reducible refine Below.drew ?_) | (with_reducible refine Below.setCell ?_ ?_ _) | omega | (simp; done) | (simp; omega))))) hb1 (by (focus (first | omega | (simp only [World.size_alloc]; done) | (simp only [World.size_alloc]; omega) | (simp; done) | (simp; omega)))); have hz1 : w.heap.size < w1.heap.size := (by have := hb1.size; simp at this; omega); have hk1 := keep_at hb1 w.heap.size (by (focus (first | omega | (simp only [World.size_alloc]; done) | (simp only [World.size_alloc]; omega) | (simp; done) | (simp; omega)))); have hkf1 := keepf_at hb1 w.heap.size (by (focus (first | omega | (simp only [World.size_alloc]; done) | (simp only [World.size_alloc]; omega) | (simp; done) | (simp; omega)))))
    | (go_at_call 27; refine (of_any _ _).mono ?_; rintro e w2 ⟨rfl, hb2⟩; have ho2 := (ho1.alloc (.cells #[.int .i64 r.k, .int .u16 r.s, .int .u32 r.m, .slice A1 n1 c1] 27)).below hb2; have hB2 := below_call (B := w.heap.size) (a := w) (by (focus (repeat' (first | (with_reducible exact Below.refl _ _) | (with_reducible assumption) | (with_reducible refine Below.alloc ?_ ?_ _) | (with_reducible refine below_drewN ?_ _) | (with_reducible refine Below.drew ?_) | (with_reducible refine Below.setCell ?_ ?_ _) | omega | (simp; done) | (simp; omega))))) hb2 (by (focus (first | omega | (simp only [World.size_alloc]; done) | (simp only [World.size_alloc]; omega) | (simp; done) | (simp; omega)))); have hz2 : w1.heap.size < w2.heap.size := (by have := hb2.size; simp at this; omega); have hz2' : w.heap.size < w2.heap.size := (by omega); have hk2 := keep_at hb2 w.heap.size (by (focus (first | omega | (simp only [World.size_alloc]; done) | (simp only [World.size_alloc]; omega) | (simp; done) | (simp; omega)))); have hk2' := keep_at hb2 w1.heap.size (by (focus (first | omega | (simp only [World.size_alloc]; done) | (simp only [World.size_alloc]; omega) | (simp; done) | (simp; omega)))); have hkf2 := keepf_at hb2 w.heap.size (by (focus (first | omega | (simp only [World.size_alloc]; done) | (simp only [World.size_alloc]; omega) | (simp; done) | (simp; omega))))))
  refine bodyPost_ret (v := .tuple #[.agg #[.int .i64 0, .int .u16 0, .int .u32 0, .slice none 0 0], .int .i64 6]) (by simp [results, Try.results31, go_sem, hk2, hk1, hz1, hz2, hz2']) rfl ?_
  exact ⟨_, _, _, rfl, BOwns.nil _ _ _, by (focus (repeat' (first | (with_reducible exact Below.refl _ _) | (with_reducible assumption) | (with_reducible refine Below.alloc ?_ ?_ _) | (with_reducible refine below_drewN ?_ _) | (with_reducible refine Below.drew ?_) | (with_reducible refine Below.setCell ?_ ?_ _) | omega | (simp; done) | (simp; omega))))⟩

set_option maxHeartbeats 800000 in
theorem from_yes (A : Option Addr) (n cap : Nat) (most : Int) (r : Rd) (w : World) (h : 0 ≤ most) (h1 : (n : Int) ≤ most) (hread : ∀ o, Calls Try.prog 17 #[.slice A n cap] (w.alloc o) (ReadPost (w.alloc o) r)) (he0 : r.er = 0) (hs : sentB r.k = true) :
    Calls Try.prog 31 #[.slice A n cap, .int .i64 most] w (ReadPost w r) := by
  have HREAD := Lib.hid hread
  have HE := Lib.hid he0
  have he : (r.er != 0) = false := by simp [he0]
  clear hread he0
  go_enter Try.func31, Try.ntmps31
  go_wp2_with (first
    | (go_at_call 17; refine (HREAD.out _).mono ?_; rintro e w1 ⟨A1, n1, c1, rfl, ho1, hb1⟩; simp only [World.size_alloc] at ho1; have hB1 := below_call (B := w.heap.size) (a := w) (by (focus (repeat' (first | (with_reducible exact Below.refl _ _) | (with_reducible assumption) | (with_reducible refine Below.alloc ?_ ?_ _) | (with_reducible refine below_drewN ?_ _) | (with_reducible refine Below.drew ?_) | (with_reducible refine Below.setCell ?_ ?_ _) | omega | (simp; done) | (simp; omega))))) hb1 (by (focus (first | omega | (simp only [World.size_alloc]; done) | (simp only [World.size_alloc]; omega) | (simp; done) | (simp; omega)))); have hz1 : w.heap.size < w1.heap.size := (by have := hb1.size; simp at this; omega); have hk1 := keep_at hb1 w.heap.size (by (focus (first | omega | (simp only [World.size_alloc]; done) | (simp only [World.size_alloc]; omega) | (simp; done) | (simp; omega)))); have hkf1 := keepf_at hb1 w.heap.size (by (focus (first | omega | (simp only [World.size_alloc]; done) | (simp only [World.size_alloc]; omega) | (simp; done) | (simp; omega)))))
    | (go_at_call 27; refine (of_any _ _).mono ?_; rintro e w2 ⟨rfl, hb2⟩; have ho2 := (ho1.alloc (.cells #[.int .i64 r.k, .int .u16 r.s, .int .u32 r.m, .slice A1 n1 c1] 27)).below hb2; have hB2 := below_call (B := w.heap.size) (a := w) (by (focus (repeat' (first | (with_reducible exact Below.refl _ _) | (with_reducible assumption) | (with_reducible refine Below.alloc ?_ ?_ _) | (with_reducible refine below_drewN ?_ _) | (with_reducible refine Below.drew ?_) | (with_reducible refine Below.setCell ?_ ?_ _) | omega | (simp; done) | (simp; omega))))) hb2 (by (focus (first | omega | (simp only [World.size_alloc]; done) | (simp only [World.size_alloc]; omega) | (simp; done) | (simp; omega)))); have hz2 : w1.heap.size < w2.heap.size := (by have := hb2.size; simp at this; omega); have hz2' : w.heap.size < w2.heap.size := (by omega); have hk2 := keep_at hb2 w.heap.size (by (focus (first | omega | (simp only [World.size_alloc]; done) | (simp only [World.size_alloc]; omega) | (simp; done) | (simp; omega)))); have hk2' := keep_at hb2 w1.heap.size (by (focus (first | omega | (simp only [World.size_alloc]; done) | (simp only [World.size_alloc]; omega) | (simp; done) | (simp; omega)))); have hkf2 := keepf_at hb2 w.heap.size (by (focus (first | omega | (simp only [World.size_alloc]; done) | (simp only [World.size_alloc]; omega) | (simp; done) | (simp; omega))))))
  refine bodyPost_ret (v := .tuple #[.agg #[.int .i64 r.k, .int .u16 r.s, .int .u32 r.m, .slice A1 n1 c1], .int .i64 0]) (by simp [results, Try.results31, go_sem, hk2, hk1, hz1, hz2, hz2']) rfl ?_
  refine ⟨A1, n1, c1, by rw [HE.out], ?_, by (focus (repeat' (first | (with_reducible exact Below.refl _ _) | (with_reducible assumption) | (with_reducible refine Below.alloc ?_ ?_ _) | (with_reducible refine below_drewN ?_ _) | (with_reducible refine Below.drew ?_) | (with_reducible refine Below.setCell ?_ ?_ _) | omega | (simp; done) | (simp; omega))))⟩
  refine BOwns.more (base := w.heap.size + 1) ?_ (by omega)
  exact ((((ho2.setBelow (by (focus (first | omega | (simp only [World.size_alloc]; done) | (simp only [World.size_alloc]; omega) | (simp; done) | (simp; omega)))) _).setBelow (by (focus (first | omega | (simp only [World.size_alloc]; done) | (simp only [World.size_alloc]; omega) | (simp; done) | (simp; omega)))) _).setBelow (by (focus (first | omega | (simp only [World.size_alloc]; done) | (simp only [World.size_alloc]; omega) | (simp; done) | (simp; omega)))) _).setBelow (by (focus (first | omega | (simp only [World.size_alloc]; done) | (simp only [World.size_alloc]; omega) | (simp; done) | (simp; omega)))) _).alloc _

theorem from_any (A : Option Addr) (n cap : Nat) (xs : List Int) (most : Int) (w : World) (hr : BReads w A n xs) (hc : n ≤ cap) : Calls Try.prog 31 #[.slice A n cap, .int .i64 most] w (ReadPost w (fromR most xs)) := by
  have hl := hr.length
  unfold fromR
  rw [hl]
  have hread : ∀ o, Calls Try.prog 17 #[.slice A n cap] (w.alloc o) (ReadPost (w.alloc o) (rd xs)) := fun o => read_any A n cap xs _ (hr.alloc o) hc
  by_cases h0 : most < 0
  · rw [if_pos h0]; exact from_neg A n cap most w h0
  rw [if_neg h0]
  by_cases h1 : most < n
  · rw [if_pos h1]; exact from_long A n cap most w (by omega) h1
  rw [if_neg h1]
  by_cases h2 : (rd xs).er ≠ 0
  · rw [if_pos h2]; exact from_err A n cap most _ w (by omega) (by omega) hread (by simpa using h2)
  rw [if_neg h2]
  rcases hs : sentB (rd xs).k with _ | _
  · rw [if_neg (by simp)]; exact from_no A n cap most _ w (by omega) (by omega) hread (by simpa using h2) hs
  · rw [if_pos rfl]; exact from_yes A n cap most _ w (by omega) (by omega) hread (by simpa using h2) hs

set_option maxHeartbeats 400000 in
theorem rfrom_neg (A : Option Addr) (n cap : Nat) (most : Int) (w : World) (h : most < 0) : Calls Try.prog 19 #[.slice A n cap, .int .i64 most] w (ReadPost w (rdNo 2)) := by
  go_enter Try.func19, Try.ntmps19
  go_wp2
  go_returns
  exact ⟨_, _, _, rfl, BOwns.nil _ _ _, by (focus (repeat' (first | (with_reducible exact Below.refl _ _) | (with_reducible assumption) | (with_reducible refine Below.alloc ?_ ?_ _) | (with_reducible refine below_drewN ?_ _) | (with_reducible refine Below.drew ?_) | (with_reducible refine Below.setCell ?_ ?_ _) | omega | (simp; done) | (simp; omega))))⟩

set_option maxHeartbeats 400000 in
theorem rfrom_long (A : Option Addr) (n cap : Nat) (most : Int) (w : World) (h : 0 ≤ most) (h1 : most < n) : Calls Try.prog 19 #[.slice A n cap, .int .i64 most] w (ReadPost w (rdNo 5)) := by
  go_enter Try.func19, Try.ntmps19
  go_wp2
  go_returns
  exact ⟨_, _, _, rfl, BOwns.nil _ _ _, by (focus (repeat' (first | (with_reducible exact Below.refl _ _) | (with_reducible assumption) | (with_reducible refine Below.alloc ?_ ?_ _) | (with_reducible refine below_drewN ?_ _) | (with_reducible refine Below.drew ?_) | (with_reducible refine Below.setCell ?_ ?_ _) | omega | (simp; done) | (simp; omega))))⟩

set_option maxHeartbeats 400000 in
theorem rfrom_err (A : Option Addr) (n cap : Nat) (most : Int) (r : Rd) (w : World) (h : 0 ≤ most) (h1 : (n : Int) ≤ most) (hread : ∀ o, Calls Try.prog 14 #[.slice A n cap] (w.alloc o) (ReadPost (w.alloc o) r)) (he : (r.er == 0) = false) :
    Calls Try.prog 19 #[.slice A n cap, .int .i64 most] w (ReadPost w r) := by
  have HREAD := Lib.hid hread
  clear hread
  go_enter Try.func19, Try.ntmps19
  go_wp2_with (first
    | (go_at_call 14; refine (HREAD.out _).mono ?_; rintro e w1 ⟨A1, n1, c1, rfl, ho1, hb1⟩; simp only [World.size_alloc] at ho1; have hB1 := below_call (B := w.heap.size) (a := w) (by (focus (repeat' (first | (with_reducible exact Below.refl _ _) | (with_reducible assumption) | (with_reducible refine Below.alloc ?_ ?_ _) | (with_reducible refine below_drewN ?_ _) | (with_reducible refine Below.drew ?_) | (with_reducible refine Below.setCell ?_ ?_ _) | omega | (simp; done) | (simp; omega))))) hb1 (by (focus (first | omega | (simp only [World.size_alloc]; done) | (simp only [World.size_alloc]; omega) | (simp; done) | (simp; omega)))); have hz1 : w.heap.size < w1.heap.size := (by have := hb1.size; simp at this; omega); have hk1 := keep_at hb1 w.heap.size (by (focus (first | omega | (simp only [World.size_alloc]; done) | (simp only [World.size_alloc]; omega) | (simp; done) | (simp; omega)))); have hkf1 := keepf_at hb1 w.heap.size (by (focus (first | omega | (simp only [World.size_alloc]; done) | (simp only [World.size_alloc]; omega) | (simp; done) | (simp; omega))))))
  refine bodyPost_ret (v := .tuple #[.agg #[.int .i64 r.k, .int .u16 r.s, .int .u32 r.m, .slice A1 n1 c1], .int .i64 r.er]) (by simp [results, Try.results19, go_sem, hk1, hz1]) rfl ?_
  refine ⟨A1, n1, c1, rfl, ?_, by (focus (repeat' (first | (with_reducible exact Below.refl _ _) | (with_reducible assumption) | (with_reducible refine Below.alloc ?_ ?_ _) | (with_reducible refine below_drewN ?_ _) | (with_reducible refine Below.drew ?_) | (with_reducible refine Below.setCell ?_ ?_ _) | omega | (simp; done) | (simp; omega))))⟩
  refine BOwns.more (base := w.heap.size + 1) ?_ (by omega)
  exact ((((ho1.setBelow (by (focus (first | omega | (simp only [World.size_alloc]; done) | (simp only [World.size_alloc]; omega) | (simp; done) | (simp; omega)))) _).setBelow (by (focus (first | omega | (simp only [World.size_alloc]; done) | (simp only [World.size_alloc]; omega) | (simp; done) | (simp; omega)))) _).setBelow (by (focus (first | omega | (simp only [World.size_alloc]; done) | (simp only [World.size_alloc]; omega) | (simp; done) | (simp; omega)))) _).setBelow (by (focus (first | omega | (simp only [World.size_alloc]; done) | (simp only [World.size_alloc]; omega) | (simp; done) | (simp; omega)))) _).alloc _

set_option maxHeartbeats 800000 in
theorem rfrom_no (A : Option Addr) (n cap : Nat) (most : Int) (r : Rd) (w : World) (h : 0 ≤ most) (h1 : (n : Int) ≤ most) (hread : ∀ o, Calls Try.prog 14 #[.slice A n cap] (w.alloc o) (ReadPost (w.alloc o) r)) (he : (r.er == 0) = true) (hs : sentB r.k = false) :
    Calls Try.prog 19 #[.slice A n cap, .int .i64 most] w (ReadPost w (rdNo 6)) := by
  have HREAD := Lib.hid hread
  clear hread
  go_enter Try.func19, Try.ntmps19
  go_wp2_with (first
    | (go_at_call 14; refine (HREAD.out _).mono ?_; rintro e w1 ⟨A1, n1, c1, rfl, ho1, hb1⟩; simp only [World.size_alloc] at ho1; have hB1 := below_call (B := w.heap.size) (a := w) (by (focus (repeat' (first | (with_reducible exact Below.refl _ _) | (with_reducible assumption) | (with_reducible refine Below.alloc ?_ ?_ _) | (with_reducible refine below_drewN ?_ _) | (with_reducible refine Below.drew ?_) | (with_reducible refine Below.setCell ?_ ?_ _) | omega | (simp; done) | (simp; omega))))) hb1 (by (focus (first | omega | (simp only [World.size_alloc]; done) | (simp only [World.size_alloc]; omega) | (simp; done) | (simp; omega)))); have hz1 : w.heap.size < w1.heap.size := (by have := hb1.size; simp at this; omega); have hk1 := keep_at hb1 w.heap.size (by (focus (first | omega | (simp only [World.size_alloc]; done) | (simp only [World.size_alloc]; omega) | (simp; done) | (simp; omega)))); have hkf1 := keepf_at hb1 w.heap.size (by (focus (first | omega | (simp only [World.size_alloc]; done) | (simp only [World.size_alloc]; omega) | (simp; done) | (simp; omega)))))
    | (go_at_call 23; refine (sent_any _ _).mono ?_; rintro e w' ⟨rfl, rfl⟩))
  refine bodyPost_ret (v := .tuple #[.agg #[.int .i64 0, .int .u16 0, .int .u32 0, .slice none 0 0], .int .i64 6]) (by simp [results, Try.results19, go_sem, hk1, hz1]) rfl ?_
  exact ⟨_, _, _, rfl, BOwns.nil _ _ _, by (focus (repeat' (first | (with_reducible exact Below.refl _ _) | (with_reducible assumption) | (with_reducible refine Below.alloc ?_ ?_ _) | (with_reducible refine below_drewN ?_ _) | (with_reducible refine Below.drew ?_) | (with_reducible refine Below.setCell ?_ ?_ _) | omega | (simp; done) | (simp; omega))))⟩

set_option maxHeartbeats 800000 in
theorem rfrom_yes (A : Option Addr) (n cap : Nat) (most : Int) (r : Rd) (w : World) (h : 0 ≤ most) (h1 : (n : Int) ≤ most) (hread : ∀ o, Calls Try.prog 14 #[.slice A n cap] (w.alloc o) (ReadPost (w.alloc o) r)) (he0 : r.er = 0) (hs : sentB r.k = true) :
    Calls Try.prog 19 #[.slice A n cap, .int .i64 most] w (ReadPost w r) := by
  have HREAD := Lib.hid hread
  have HE := Lib.hid he0
  have he : (r.er == 0) = true := by simp [he0]
  clear hread he0
  go_enter Try.func19, Try.ntmps19
  go_wp2_with (first
    | (go_at_call 14; refine (HREAD.out _).mono ?_; rintro e w1 ⟨A1, n1, c1, rfl, ho1, hb1⟩; simp only [World.size_alloc] at ho1; have hB1 := below_call (B := w.heap.size) (a := w) (by (focus (repeat' (first | (with_reducible exact Below.refl _ _) | (with_reducible assumption) | (with_reducible refine Below.alloc ?_ ?_ _) | (with_reducible refine below_drewN ?_ _) | (with_reducible refine Below.drew ?_) | (with_reducible refine Below.setCell ?_ ?_ _) | omega | (simp; done) | (simp; omega))))) hb1 (by (focus (first | omega | (simp only [World.size_alloc]; done) | (simp only [World.size_alloc]; omega) | (simp; done) | (simp; omega)))); have hz1 : w.heap.size < w1.heap.size := (by have := hb1.size; simp at this; omega); have hk1 := keep_at hb1 w.heap.size (by (focus (first | omega | (simp only [World.size_alloc]; done) | (simp only [World.size_alloc]; omega) | (simp; done) | (simp; omega)))); have hkf1 := keepf_at hb1 w.heap.size (by (focus (first | omega | (simp only [World.size_alloc]; done) | (simp only [World.size_alloc]; omega) | (simp; done) | (simp; omega)))))
    | (go_at_call 23; refine (sent_any _ _).mono ?_; rintro e w' ⟨rfl, rfl⟩))
  refine bodyPost_ret (v := .tuple #[.agg #[.int .i64 r.k, .int .u16 r.s, .int .u32 r.m, .slice A1 n1 c1], .int .i64 r.er]) (by simp [results, Try.results19, go_sem, hk1, hz1]) rfl ?_
  refine ⟨A1, n1, c1, rfl, ?_, by (focus (repeat' (first | (with_reducible exact Below.refl _ _) | (with_reducible assumption) | (with_reducible refine Below.alloc ?_ ?_ _) | (with_reducible refine below_drewN ?_ _) | (with_reducible refine Below.drew ?_) | (with_reducible refine Below.setCell ?_ ?_ _) | omega | (simp; done) | (simp; omega))))⟩
  refine BOwns.more (base := w.heap.size + 1) ?_ (by omega)
  exact ((((ho1.setBelow (by (focus (first | omega | (simp only [World.size_alloc]; done) | (simp only [World.size_alloc]; omega) | (simp; done) | (simp; omega)))) _).setBelow (by (focus (first | omega | (simp only [World.size_alloc]; done) | (simp only [World.size_alloc]; omega) | (simp; done) | (simp; omega)))) _).setBelow (by (focus (first | omega | (simp only [World.size_alloc]; done) | (simp only [World.size_alloc]; omega) | (simp; done) | (simp; omega)))) _).setBelow (by (focus (first | omega | (simp only [World.size_alloc]; done) | (simp only [World.size_alloc]; omega) | (simp; done) | (simp; omega)))) _).alloc _

theorem rfrom_any (A : Option Addr) (n cap : Nat) (xs : List Int) (most : Int) (w : World) (hr : BReads w A n xs) (hc : n ≤ cap) : Calls Try.prog 19 #[.slice A n cap, .int .i64 most] w (ReadPost w (fromR most xs)) := by
  have hl := hr.length
  unfold fromR
  rw [hl]
  have hread : ∀ o, Calls Try.prog 14 #[.slice A n cap] (w.alloc o) (ReadPost (w.alloc o) (rd xs)) := fun o => rread_any A n cap xs _ (hr.alloc o) hc
  by_cases h0 : most < 0
  · rw [if_pos h0]; exact rfrom_neg A n cap most w h0
  rw [if_neg h0]
  by_cases h1 : most < n
  · rw [if_pos h1]; exact rfrom_long A n cap most w (by omega) h1
  rw [if_neg h1]
  by_cases h2 : (rd xs).er ≠ 0
  · rw [if_pos h2, ← rd_no xs h2]; exact rfrom_err A n cap most _ w (by omega) (by omega) hread (by simpa using h2)
  rw [if_neg h2]
  rcases hs : sentB (rd xs).k with _ | _
  · rw [if_neg (by simp)]; exact rfrom_no A n cap most _ w (by omega) (by omega) hread (by simpa using h2) hs
  · rw [if_pos rfl]; exact rfrom_yes A n cap most _ w (by omega) (by omega) hread (by simpa using h2) hs

end Go.Proofs.Ytbcleifhadkecaa
