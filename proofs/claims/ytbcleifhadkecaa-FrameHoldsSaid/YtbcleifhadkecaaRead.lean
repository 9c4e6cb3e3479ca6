/-
  Read of frame: the frame with some bytes, or the error.
-/
import Derived.Test.YtbcleifhadkecaaTake
import Derived.Test.YtbcleifhadkecaaEqual
import Derived.Test.YtbcleifhadkecaaLaw
set_option linter.unusedSimpArgs false
set_option linter.unusedVariables false
namespace Go.Proofs.Ytbcleifhadkecaa
open Go.RowKit

theorem below_drewN {B : Nat} {a w : World} (h : Below B a w) (n : Nat) : Below B a (w.drewN n) := ⟨h.os, h.tape, h.output, h.size, h.block⟩

/-- What is read: error, kind, sequence, number, data. -/
structure Rd where
  er : Int
  k : Int
  s : Int
  m : Int
  d : List Int
def rdNo (e : Int) : Rd := ⟨e, 0, 0, 0, []⟩
def rdBody (k : Int) (rest : List Int) : Rd :=
  if (seqB k = true ∧ rest.length < 2) ∨ (numB k = true ∧ rest.length < 4) then rdNo 6 else
  let s := if seqB k = true then be (rest.take 2) else 0
  let m := if numB k = true then be (rest.take 4) else 0
  let d := if seqB k = true then rest.drop 2 else if numB k = true then rest.drop 4 else rest
  if validB k s m d.length = true then ⟨0, k, s, m, d⟩ else rdNo 6
def rd (xs : List Int) : Rd :=
  if 65541 < xs.length then rdNo 5 else if xs.length < 2 then rdNo 4 else
  if chk (xs.take (xs.length - 1)) ≠ nth xs (xs.length - 1) then rdNo 10 else rdBody (nth xs 0) ((xs.take (xs.length - 1)).drop 1)

def ReadPost (w : World) (r : Rd) (e : Ending) (w' : World) : Prop :=
  ∃ A n c, e = .returned (.tuple #[.agg #[.int .i64 r.k, .int .u16 r.s, .int .u32 r.m, .slice A n c], .int .i64 r.er]) ∧ BOwns w' w.heap.size 5 A n c r.d ∧ Below w.heap.size w w'

theorem quiet_left {P : Program} {f : FuncId} {args : Array Value} {w : World} {n : Nat} {v : Value}
    (h : Calls P f args (w.drewN n) fun e w' => e = .returned v ∧ w.drewN n = w') : Calls P f args (w.drewN n) fun e w'' => e = .returned v ∧ ∃ m, w'' = w.drewN m :=
  h.mono fun _ _ ⟨he, hw⟩ => ⟨he, n, hw.symm⟩

set_option maxHeartbeats 400000 in
theorem read_long (A : Option Addr) (n cap : Nat) (w : World) (hn : 65541 < n) : Calls Try.prog 17 #[.slice A n cap] w (ReadPost w (rdNo 5)) := by
  go_enter Try.func17, Try.ntmps17
  go_wp2
  go_returns
  exact ⟨_, _, _, rfl, BOwns.nil _ _ _, by go_grown⟩

set_option maxHeartbeats 400000 in
theorem read_short (A : Option Addr) (n cap : Nat) (w : World) (hn : n < 2) : Calls Try.prog 17 #[.slice A n cap] w (ReadPost w (rdNo 4)) := by
  go_enter Try.func17, Try.ntmps17
  go_wp2
  go_returns
  exact ⟨_, _, _, rfl, BOwns.nil _ _ _, by go_grown⟩

set_option maxHeartbeats 400000 in
theorem read_check (A : Option Addr) (n cap : Nat) (xs : List Int) (w : World) (hr : BReads w A n xs) (hc : n ≤ cap) (h2 : 2 ≤ n) (hn : n ≤ 65541) (h1 : (chk (xs.take (n - 1)) != nth xs (n - 1)) = true) : Calls Try.prog 17 #[.slice A n cap] w (ReadPost w (rdNo 10)) := by
  obtain ⟨ad, rfl, _, h4, h3⟩ := hr.at_ (show n - 1 < n by omega)
  have hcell : ∀ o, (w.alloc o).cell? (ad.add (n - 1)) = some (.int .u8 (nth xs (n - 1))) := fun o => by
    obtain ⟨ad', e, hc', _⟩ := (hr.alloc o).at_ (show n - 1 < n by omega)
    injection e with e
    subst e
    exact hc'
  have HR := Lib.hid (hr.head (show n - 1 ≤ n by omega))
  clear hr
  have HN := Lib.hid (show n - 1 ≤ 9223372036854775807 by omega)
  have hw2 : 0 ≤ (n : Int) - 1 := by omega
  have hw4 : (n : Int) - 1 < n := by omega
  have hw5 : (n : Int) - 1 ≤ cap := by omega
  have hw6 : (1 : Int) ≤ n := by omega
  have hw3 : ((n : Int) - 1).toNat = n - 1 := by omega
  have hw1 : IntKind.i64.wrap ((n : Int) - 1) = (n : Int) - 1 := IntWalk.i64_in _ (by omega)
  go_enter Try.func17, Try.ntmps17
  go_wp2
  go_quiet ((go_at_call 28; exact quiet_left (check_any _ _ _ _ _ ((HR.out.alloc _).drewN _) HN.out)))
  clear hw1 hw3
  all_goals go_wp2
  all_goals go_returns
  all_goals exact ⟨_, _, _, rfl, BOwns.nil _ _ _, by (repeat' (first | (with_reducible exact Below.refl _ _) | (with_reducible assumption) | (with_reducible refine Below.alloc ?_ ?_ _) | (with_reducible refine below_drewN ?_ _) | (with_reducible refine Below.drew ?_) | (with_reducible refine Below.setCell ?_ ?_ _) | omega | (simp; done) | (simp; omega)))⟩

set_option maxHeartbeats 1600000 in
theorem read_plain_yes (A : Option Addr) (n cap : Nat) (xs R : List Int) (w : World) (hR : (xs.take (n - 1)).drop 1 = R) (hr : BReads w A n xs) (hc : n ≤ cap) (h2 : 2 ≤ n) (hn : n ≤ 65541) (h1 : (chk (xs.take (n - 1)) != nth xs (n - 1)) = false)
    (hs : seqB (nth xs 0) = false) (hm : numB (nth xs 0) = false) (hv : validB (nth xs 0) 0 0 (n - 1 - 1) = true) : Calls Try.prog 17 #[.slice A n cap] w (ReadPost w ⟨0, nth xs 0, 0, 0, R⟩) := by
  have hcell0 : ∀ (o : Obj) (ad : Addr), A = some ad → (w.alloc o).cell? ad = some (.int .u8 (nth xs 0)) := fun o ad hA => by
    obtain ⟨ad', e, hc', _⟩ := (hr.alloc o).at_ (show 0 < n by omega)
    rw [hA] at e
    injection e with e
    subst e
    exact hc'
  have b0 : 0 ≤ nth xs 0 ∧ nth xs 0 ≤ 255 := by
    obtain ⟨_, _, _, h⟩ := hr.at_ (show 0 < n by omega)
    exact h
  obtain ⟨ad, rfl, _, h4, h3⟩ := hr.at_ (show n - 1 < n by omega)
  have hcell : ∀ o, (w.alloc o).cell? (ad.add (n - 1)) = some (.int .u8 (nth xs (n - 1))) := fun o => by
    obtain ⟨ad', e, hc', _⟩ := (hr.alloc o).at_ (show n - 1 < n by omega)
    injection e with e
    subst e
    exact hc'
  have hcell0 := fun o => hcell0 o ad rfl
  have HD : Hid (BReads w (some ⟨ad.block, ad.off + 1, none⟩) (n - 1 - 1) R) := by
    have := (hr.head (show n - 1 ≤ n by omega)).cut (k := 1) (cap := cap) (by omega) (by omega)
    rw [if_neg (by omega), hR] at this
    exact this
  clear hR
  have HR := Lib.hid (hr.head (show n - 1 ≤ n by omega))
  clear hr
  have HN := Lib.hid (show n - 1 ≤ 9223372036854775807 by omega)
  have hw2 : 0 ≤ (n : Int) - 1 := by omega
  have hw4 : (n : Int) - 1 < n := by omega
  have hw5 : (n : Int) - 1 ≤ cap := by omega
  have hw6 : (1 : Int) ≤ n := by omega
  have hw3 : ((n : Int) - 1).toNat = n - 1 := by omega
  have hw1 : IntKind.i64.wrap ((n : Int) - 1) = (n : Int) - 1 := IntWalk.i64_in _ (by omega)
  go_enter Try.func17, Try.ntmps17
  go_wp2
  go_quiet ((go_at_call 28; exact quiet_left (check_any _ _ _ _ _ ((HR.out.alloc _).drewN _) HN.out)))
  clear hw1 hw3
  go_wp2_with (first
    | (go_at_call 27; refine (of_any _ _).mono ?_; rintro e w1 ⟨rfl, hb1⟩; have hB1 := below_call (B := w.heap.size) (a := w) (by (repeat' (first | (with_reducible exact Below.refl _ _) | (with_reducible assumption) | (with_reducible refine Below.alloc ?_ ?_ _) | (with_reducible refine below_drewN ?_ _) | (with_reducible refine Below.drew ?_) | (with_reducible refine Below.setCell ?_ ?_ _) | omega | (simp; done) | (simp; omega)))) hb1 (by (first | omega | (simp only [World.size_alloc]; done) | (simp only [World.size_alloc]; omega) | (simp; done) | (simp; omega))); have hz1 : w.heap.size + 1 < w1.heap.size := (by have := hb1.size; simp at this; omega); have hz1' : w.heap.size < w1.heap.size := (by omega); have hk1 := keep_at hb1 w.heap.size (by (first | omega | (simp only [World.size_alloc]; done) | (simp only [World.size_alloc]; omega) | (simp; done) | (simp; omega))); have hk1' := keep_at hb1 (w.heap.size + 1) (by (first | omega | (simp only [World.size_alloc]; done) | (simp only [World.size_alloc]; omega) | (simp; done) | (simp; omega))); have hkf1 := keepf_at hb1 w.heap.size (by (first | omega | (simp only [World.size_alloc]; done) | (simp only [World.size_alloc]; omega) | (simp; done) | (simp; omega))); have hkf1' := keepf_at hb1 (w.heap.size + 1) (by (first | omega | (simp only [World.size_alloc]; done) | (simp only [World.size_alloc]; omega) | (simp; done) | (simp; omega))))
    | (go_at_call 30; refine (clone_any _ _ _ _ _ ((HD.out.below hB1).alloc _) (by omega)).mono ?_; rintro e w2 ⟨A2, c2, rfl, ho2, hb2⟩; have hB2 := below_call (B := w.heap.size) (a := w) (by (repeat' (first | (with_reducible exact Below.refl _ _) | (with_reducible assumption) | (with_reducible refine Below.alloc ?_ ?_ _) | (with_reducible refine below_drewN ?_ _) | (with_reducible refine Below.drew ?_) | (with_reducible refine Below.setCell ?_ ?_ _) | omega | (simp; done) | (simp; omega)))) hb2 (by (first | omega | (simp only [World.size_alloc]; done) | (simp only [World.size_alloc]; omega) | (simp; done) | (simp; omega))); have hz2 : w.heap.size + 2 ≤ w2.heap.size := (by have := hb2.size; simp at this; omega); have hk2 := keep_far hb2 w.heap.size (by omega) (by (first | omega | (simp only [World.size_alloc]; done) | (simp only [World.size_alloc]; omega) | (simp; done) | (simp; omega))); have hk2' := keep_far hb2 (w.heap.size + 1) (by omega) (by (first | omega | (simp only [World.size_alloc]; done) | (simp only [World.size_alloc]; omega) | (simp; done) | (simp; omega))); have hkf2 := keepf_far hb2 w.heap.size (by omega) (by (first | omega | (simp only [World.size_alloc]; done) | (simp only [World.size_alloc]; omega) | (simp; done) | (simp; omega))); have hkf2' := keepf_far hb2 (w.heap.size + 1) (by omega) (by (first | omega | (simp only [World.size_alloc]; done) | (simp only [World.size_alloc]; omega) | (simp; done) | (simp; omega))))
    | (go_at_call 21; refine (valid_any _ _ _ _ _ _ _).mono ?_; rintro e w3 ⟨rfl, hb3⟩; have ho3 := (ho2.setBelow (p := ⟨w.heap.size + 1, 3, none⟩) (by (first | omega | (simp only [World.size_alloc]; done) | (simp only [World.size_alloc]; omega) | (simp; done) | (simp; omega))) (.slice A2 (n - 1 - 1) c2)).below hb3; have hB3 := below_call (B := w.heap.size) (a := w) (by (repeat' (first | (with_reducible exact Below.refl _ _) | (with_reducible assumption) | (with_reducible refine Below.alloc ?_ ?_ _) | (with_reducible refine below_drewN ?_ _) | (with_reducible refine Below.drew ?_) | (with_reducible refine Below.setCell ?_ ?_ _) | omega | (simp; done) | (simp; omega)))) hb3 (by (first | omega | (simp only [World.size_alloc]; done) | (simp only [World.size_alloc]; omega) | (simp; done) | (simp; omega))); have hz3 : w.heap.size + 2 ≤ w3.heap.size := (by have := hb3.size; simp at this; omega); have hk3 := keep_at hb3 w.heap.size (by (first | omega | (simp only [World.size_alloc]; done) | (simp only [World.size_alloc]; omega) | (simp; done) | (simp; omega))); have hk3' := keep_at hb3 (w.heap.size + 1) (by (first | omega | (simp only [World.size_alloc]; done) | (simp only [World.size_alloc]; omega) | (simp; done) | (simp; omega))); have hkf3 := keepf_at hb3 w.heap.size (by (first | omega | (simp only [World.size_alloc]; done) | (simp only [World.size_alloc]; omega) | (simp; done) | (simp; omega)))))
  refine bodyPost_ret (v := .tuple #[.agg #[.int .i64 (nth xs 0), .int .u16 0, .int .u32 0, .slice A2 (n - 1 - 1) c2], .int .i64 0]) (by simp [results, Try.results17, go_sem, hk3, hk2, hk1, hz1, hz2]) rfl ?_
  refine ⟨_, _, _, rfl, ?_, by (repeat' (first | (with_reducible exact Below.refl _ _) | (with_reducible assumption) | (with_reducible refine Below.alloc ?_ ?_ _) | (with_reducible refine below_drewN ?_ _) | (with_reducible refine Below.drew ?_) | (with_reducible refine Below.setCell ?_ ?_ _) | omega | (simp; done) | (simp; omega)))⟩
  refine BOwns.more (base := w1.heap.size + 1) ?_ (by omega)
  repeat (refine BOwns.setBelow ?_ (by (first | omega | (simp only [World.size_alloc]; done) | (simp only [World.size_alloc]; omega) | (simp; done) | (simp; omega))) _)
  simpa using ho3

set_option maxHeartbeats 1600000 in
theorem read_plain_no (A : Option Addr) (n cap : Nat) (xs R : List Int) (w : World) (hR : (xs.take (n - 1)).drop 1 = R) (hr : BReads w A n xs) (hc : n ≤ cap) (h2 : 2 ≤ n) (hn : n ≤ 65541) (h1 : (chk (xs.take (n - 1)) != nth xs (n - 1)) = false)
    (hs : seqB (nth xs 0) = false) (hm : numB (nth xs 0) = false) (hv : validB (nth xs 0) 0 0 (n - 1 - 1) = false) : Calls Try.prog 17 #[.slice A n cap] w (ReadPost w (rdNo 6)) := by
  have hcell0 : ∀ (o : Obj) (ad : Addr), A = some ad → (w.alloc o).cell? ad = some (.int .u8 (nth xs 0)) := fun o ad hA => by
    obtain ⟨ad', e, hc', _⟩ := (hr.alloc o).at_ (show 0 < n by omega)
    rw [hA] at e
    injection e with e
    subst e
    exact hc'
  have b0 : 0 ≤ nth xs 0 ∧ nth xs 0 ≤ 255 := by
    obtain ⟨_, _, _, h⟩ := hr.at_ (show 0 < n by omega)
    exact h
  obtain ⟨ad, rfl, _, h4, h3⟩ := hr.at_ (show n - 1 < n by omega)
  have hcell : ∀ o, (w.alloc o).cell? (ad.add (n - 1)) = some (.int .u8 (nth xs (n - 1))) := fun o => by
    obtain ⟨ad', e, hc', _⟩ := (hr.alloc o).at_ (show n - 1 < n by omega)
    injection e with e
    subst e
    exact hc'
  have hcell0 := fun o => hcell0 o ad rfl
  have HD : Hid (BReads w (some ⟨ad.block, ad.off + 1, none⟩) (n - 1 - 1) R) := by
    have := (hr.head (show n - 1 ≤ n by omega)).cut (k := 1) (cap := cap) (by omega) (by omega)
    rw [if_neg (by omega), hR] at this
    exact this
  clear hR
  have HR := Lib.hid (hr.head (show n - 1 ≤ n by omega))
  clear hr
  have HN := Lib.hid (show n - 1 ≤ 9223372036854775807 by omega)
  have hw2 : 0 ≤ (n : Int) - 1 := by omega
  have hw4 : (n : Int) - 1 < n := by omega
  have hw5 : (n : Int) - 1 ≤ cap := by omega
  have hw6 : (1 : Int) ≤ n := by omega
  have hw3 : ((n : Int) - 1).toNat = n - 1 := by omega
  have hw1 : IntKind.i64.wrap ((n : Int) - 1) = (n : Int) - 1 := IntWalk.i64_in _ (by omega)
  go_enter Try.func17, Try.ntmps17
  go_wp2
  go_quiet ((go_at_call 28; exact quiet_left (check_any _ _ _ _ _ ((HR.out.alloc _).drewN _) HN.out)))
  clear hw1 hw3
  go_wp2_with (first
    | (go_at_call 27; refine (of_any _ _).mono ?_; rintro e w1 ⟨rfl, hb1⟩; have hB1 := below_call (B := w.heap.size) (a := w) (by (repeat' (first | (with_reducible exact Below.refl _ _) | (with_reducible assumption) | (with_reducible refine Below.alloc ?_ ?_ _) | (with_reducible refine below_drewN ?_ _) | (with_reducible refine Below.drew ?_) | (with_reducible refine Below.setCell ?_ ?_ _) | omega | (simp; done) | (simp; omega)))) hb1 (by (first | omega | (simp only [World.size_alloc]; done) | (simp only [World.size_alloc]; omega) | (simp; done) | (simp; omega))); have hz1 : w.heap.size + 1 < w1.heap.size := (by have := hb1.size; simp at this; omega); have hz1' : w.heap.size < w1.heap.size := (by omega); have hk1 := keep_at hb1 w.heap.size (by (first | omega | (simp only [World.size_alloc]; done) | (simp only [World.size_alloc]; omega) | (simp; done) | (simp; omega))); have hk1' := keep_at hb1 (w.heap.size + 1) (by (first | omega | (simp only [World.size_alloc]; done) | (simp only [World.size_alloc]; omega) | (simp; done) | (simp; omega))); have hkf1 := keepf_at hb1 w.heap.size (by (first | omega | (simp only [World.size_alloc]; done) | (simp only [World.size_alloc]; omega) | (simp; done) | (simp; omega))); have hkf1' := keepf_at hb1 (w.heap.size + 1) (by (first | omega | (simp only [World.size_alloc]; done) | (simp only [World.size_alloc]; omega) | (simp; done) | (simp; omega))))
    | (go_at_call 30; refine (clone_any _ _ _ _ _ ((HD.out.below hB1).alloc _) (by omega)).mono ?_; rintro e w2 ⟨A2, c2, rfl, ho2, hb2⟩; have hB2 := below_call (B := w.heap.size) (a := w) (by (repeat' (first | (with_reducible exact Below.refl _ _) | (with_reducible assumption) | (with_reducible refine Below.alloc ?_ ?_ _) | (with_reducible refine below_drewN ?_ _) | (with_reducible refine Below.drew ?_) | (with_reducible refine Below.setCell ?_ ?_ _) | omega | (simp; done) | (simp; omega)))) hb2 (by (first | omega | (simp only [World.size_alloc]; done) | (simp only [World.size_alloc]; omega) | (simp; done) | (simp; omega))); have hz2 : w.heap.size + 2 ≤ w2.heap.size := (by have := hb2.size; simp at this; omega); have hk2 := keep_far hb2 w.heap.size (by omega) (by (first | omega | (simp only [World.size_alloc]; done) | (simp only [World.size_alloc]; omega) | (simp; done) | (simp; omega))); have hk2' := keep_far hb2 (w.heap.size + 1) (by omega) (by (first | omega | (simp only [World.size_alloc]; done) | (simp only [World.size_alloc]; omega) | (simp; done) | (simp; omega))); have hkf2 := keepf_far hb2 w.heap.size (by omega) (by (first | omega | (simp only [World.size_alloc]; done) | (simp only [World.size_alloc]; omega) | (simp; done) | (simp; omega))); have hkf2' := keepf_far hb2 (w.heap.size + 1) (by omega) (by (first | omega | (simp only [World.size_alloc]; done) | (simp only [World.size_alloc]; omega) | (simp; done) | (simp; omega))))
    | (go_at_call 21; refine (valid_any _ _ _ _ _ _ _).mono ?_; rintro e w3 ⟨rfl, hb3⟩; have ho3 := (ho2.setBelow (p := ⟨w.heap.size + 1, 3, none⟩) (by (first | omega | (simp only [World.size_alloc]; done) | (simp only [World.size_alloc]; omega) | (simp; done) | (simp; omega))) (.slice A2 (n - 1 - 1) c2)).below hb3; have hB3 := below_call (B := w.heap.size) (a := w) (by (repeat' (first | (with_reducible exact Below.refl _ _) | (with_reducible assumption) | (with_reducible refine Below.alloc ?_ ?_ _) | (with_reducible refine below_drewN ?_ _) | (with_reducible refine Below.drew ?_) | (with_reducible refine Below.setCell ?_ ?_ _) | omega | (simp; done) | (simp; omega)))) hb3 (by (first | omega | (simp only [World.size_alloc]; done) | (simp only [World.size_alloc]; omega) | (simp; done) | (simp; omega))); have hz3 : w.heap.size + 2 ≤ w3.heap.size := (by have := hb3.size; simp at this; omega); have hk3 := keep_at hb3 w.heap.size (by (first | omega | (simp only [World.size_alloc]; done) | (simp only [World.size_alloc]; omega) | (simp; done) | (simp; omega))); have hk3' := keep_at hb3 (w.heap.size + 1) (by (first | omega | (simp only [World.size_alloc]; done) | (simp only [World.size_alloc]; omega) | (simp; done) | (simp; omega))); have hkf3 := keepf_at hb3 w.heap.size (by (first | omega | (simp only [World.size_alloc]; done) | (simp only [World.size_alloc]; omega) | (simp; done) | (simp; omega)))))
  refine bodyPost_ret (v := .tuple #[.agg #[.int .i64 0, .int .u16 0, .int .u32 0, .slice none 0 0], .int .i64 6]) (by simp [results, Try.results17, go_sem, hk3, hk2, hk1, hz1, hz2]) rfl ?_
  exact ⟨_, _, _, rfl, BOwns.nil _ _ _, by (repeat' (first | (with_reducible exact Below.refl _ _) | (with_reducible assumption) | (with_reducible refine Below.alloc ?_ ?_ _) | (with_reducible refine below_drewN ?_ _) | (with_reducible refine Below.drew ?_) | (with_reducible refine Below.setCell ?_ ?_ _) | omega | (simp; done) | (simp; omega)))⟩


end Go.Proofs.Ytbcleifhadkecaa
