/-
  Read of frame, where the kind has a sequence or a number.
-/
import Derived.Test.YtbcleifhadkecaaRead
set_option linter.unusedSimpArgs false
set_option linter.unusedVariables false
namespace Go.Proofs.Ytbcleifhadkecaa
open Go.RowKit

set_option maxHeartbeats 1600000 in
theorem read_seq_yes (A : Option Addr) (n cap : Nat) (xs R : List Int) (w : World) (hR : (xs.take (n - 1)).drop 1 = R) (hr : BReads w A n xs) (hc : n ≤ cap) (h2 : 2 ≤ n) (hn : n ≤ 65541) (h1 : (chk (xs.take (n - 1)) != nth xs (n - 1)) = false)
    (hs : seqB (nth xs 0) = true) (hm : numB (nth xs 0) = false) (h7 : 4 ≤ n) (hv : validB (nth xs 0) (be (R.take 2)) 0 (n - 1 - 1 - 2) = true) : Calls Try.prog 17 #[.slice A n cap] w (ReadPost w ⟨0, nth xs 0, (be (R.take 2)), 0, (R.drop 2)⟩) := by
  have hcell0 : ∀ (o : Obj) (ad : Addr), A = some ad → (w.alloc o).cell? ad = some (.int .u8 (nth xs 0)) := fun o ad hA => by
    obtain ⟨ad', e, hc', _⟩ := (hr.alloc o).at_ (show 0 < n by omega)
    rw [hA] at e
    injection e with e
    subst e
    exact hc'
  have b0 : 0 ≤ nth xs 0 ∧ nth xs 0 ≤ 255 := by
    obtain ⟨_, _, _, h⟩ := hr.at_ (show 0 < n by omega)
    exact h
  obtain ⟨ad, rfl, _, h4, h3⟩ := hr.at_ (show n - 1 < n by omega)
  have hcell : ∀ o, (w.alloc o).cell? (ad.add (n - 1)) = some (.int .u8 (nth xs (n - 1))) := fun o => by
    obtain ⟨ad', e, hc', _⟩ := (hr.alloc o).at_ (show n - 1 < n by omega)
    injection e with e
    subst e
    exact hc'
  have hcell0 := fun o => hcell0 o ad rfl
  have HD : Hid (BReads w (some ⟨ad.block, ad.off + 1, none⟩) (n - 1 - 1) R) := by
    have := (hr.head (show n - 1 ≤ n by omega)).cut (k := 1) (cap := cap) (by omega) (by omega)
    rw [if_neg (by omega), hR] at this
    exact this
  clear hR
  have HR := Lib.hid (hr.head (show n - 1 ≤ n by omega))
  clear hr
  have HN := Lib.hid (show n - 1 ≤ 9223372036854775807 by omega)
  have hw2 : 0 ≤ (n : Int) - 1 := by omega
  have hw4 : (n : Int) - 1 < n := by omega
  have hw5 : (n : Int) - 1 ≤ cap := by omega
  have hw6 : (1 : Int) ≤ n := by omega
  have hw3 : ((n : Int) - 1).toNat = n - 1 := by omega
  have hw1 : IntKind.i64.wrap ((n : Int) - 1) = (n : Int) - 1 := IntWalk.i64_in _ (by omega)
  go_enter Try.func17, Try.ntmps17
  go_wp2
  go_quiet ((go_at_call 28; exact quiet_left (check_any _ _ _ _ _ ((HR.out.alloc _).drewN _) HN.out)))
  clear hw1 hw3
  have hl7 : (2 : Int) ≤ (n : Int) - 1 - 1 := by omega
  have hl8 : ¬ ((n : Int) - 1 - 1 < 2) := by omega
  have hsb := be2_bd R HD.out.2
  go_wp2_with (first
    | (go_at_call 27; refine (of_any _ _).mono ?_; rintro e w1 ⟨rfl, hb1⟩; have hB1 := below_call (B := w.heap.size) (a := w) (by (repeat' (first | (with_reducible exact Below.refl _ _) | (with_reducible assumption) | (with_reducible refine Below.alloc ?_ ?_ _) | (with_reducible refine below_drewN ?_ _) | (with_reducible refine Below.drew ?_) | (with_reducible refine Below.setCell ?_ ?_ _) | omega | (simp; done) | (simp; omega)))) hb1 (by (first | omega | (simp only [World.size_alloc]; done) | (simp only [World.size_alloc]; omega) | (simp; done) | (simp; omega))); have hz1 : w.heap.size + 1 < w1.heap.size := (by have := hb1.size; simp at this; omega); have hz1' : w.heap.size < w1.heap.size := (by omega); have hk1 := keep_at hb1 w.heap.size (by (first | omega | (simp only [World.size_alloc]; done) | (simp only [World.size_alloc]; omega) | (simp; done) | (simp; omega))); have hk1' := keep_at hb1 (w.heap.size + 1) (by (first | omega | (simp only [World.size_alloc]; done) | (simp only [World.size_alloc]; omega) | (simp; done) | (simp; omega))); have hkf1 := keepf_at hb1 w.heap.size (by (first | omega | (simp only [World.size_alloc]; done) | (simp only [World.size_alloc]; omega) | (simp; done) | (simp; omega))); have hkf1' := keepf_at hb1 (w.heap.size + 1) (by (first | omega | (simp only [World.size_alloc]; done) | (simp only [World.size_alloc]; omega) | (simp; done) | (simp; omega))))
    | (go_at_call 29; refine (take_any _ _ _ _ 2 _ ((HD.out.below hB1).alloc _) (fun h => by cases h) (by omega) (by omega) (by omega) (by omega)).mono ?_; rintro e wt ⟨A', c', rfl, hrt, hAt, hct, nqt, rfl⟩; have HT := Lib.hid hrt; have HAT := Lib.hid hAt; clear hrt hAt)
    | (go_at_call 30; refine (clone_any _ _ _ _ _ (HT.out _ (HD.out.below (by (repeat' (first | (with_reducible exact Below.refl _ _) | (with_reducible assumption) | (with_reducible refine Below.alloc ?_ ?_ _) | (with_reducible refine below_drewN ?_ _) | (with_reducible refine Below.drew ?_) | (with_reducible refine Below.setCell ?_ ?_ _) | omega | (simp; done) | (simp; omega)))))) (by omega)).mono ?_; rintro e w2 ⟨A2, c2, rfl, ho2, hb2⟩; have hB2 := below_call (B := w.heap.size) (a := w) (by (repeat' (first | (with_reducible exact Below.refl _ _) | (with_reducible assumption) | (with_reducible refine Below.alloc ?_ ?_ _) | (with_reducible refine below_drewN ?_ _) | (with_reducible refine Below.drew ?_) | (with_reducible refine Below.setCell ?_ ?_ _) | omega | (simp; done) | (simp; omega)))) hb2 (by (first | omega | (simp only [World.size_alloc]; done) | (simp only [World.size_alloc]; omega) | (simp; done) | (simp; omega))); have hz2 : w.heap.size + 2 ≤ w2.heap.size := (by have := hb2.size; simp at this; omega); have hk2 := keep_at hb2 w.heap.size (by (first | omega | (simp only [World.size_alloc]; done) | (simp only [World.size_alloc]; omega) | (simp; done) | (simp; omega))); have hk2' := keep_at hb2 (w.heap.size + 1) (by (first | omega | (simp only [World.size_alloc]; done) | (simp only [World.size_alloc]; omega) | (simp; done) | (simp; omega))); have hkf2 := keepf_at hb2 w.heap.size (by (first | omega | (simp only [World.size_alloc]; done) | (simp only [World.size_alloc]; omega) | (simp; done) | (simp; omega))); have hkf2' := keepf_at hb2 (w.heap.size + 1) (by (first | omega | (simp only [World.size_alloc]; done) | (simp only [World.size_alloc]; omega) | (simp; done) | (simp; omega))))
    | (go_at_call 21; refine (valid_any _ _ _ _ _ _ _).mono ?_; rintro e w3 ⟨rfl, hb3⟩; have ho3 := (ho2.setBelow (p := ⟨w.heap.size + 1, 3, none⟩) (by (first | omega | (simp only [World.size_alloc]; done) | (simp only [World.size_alloc]; omega) | (simp; done) | (simp; omega))) (.slice A2 (n - 1 - 1 - 2) c2)).below hb3; have hB3 := below_call (B := w.heap.size) (a := w) (by (repeat' (first | (with_reducible exact Below.refl _ _) | (with_reducible assumption) | (with_reducible refine Below.alloc ?_ ?_ _) | (with_reducible refine below_drewN ?_ _) | (with_reducible refine Below.drew ?_) | (with_reducible refine Below.setCell ?_ ?_ _) | omega | (simp; done) | (simp; omega)))) hb3 (by (first | omega | (simp only [World.size_alloc]; done) | (simp only [World.size_alloc]; omega) | (simp; done) | (simp; omega))); have hz3 : w.heap.size + 2 ≤ w3.heap.size := (by have := hb3.size; simp at this; omega); have hk3 := keep_at hb3 w.heap.size (by (first | omega | (simp only [World.size_alloc]; done) | (simp only [World.size_alloc]; omega) | (simp; done) | (simp; omega))); have hk3' := keep_at hb3 (w.heap.size + 1) (by (first | omega | (simp only [World.size_alloc]; done) | (simp only [World.size_alloc]; omega) | (simp; done) | (simp; omega))); have hkf3 := keepf_at hb3 w.heap.size (by (first | omega | (simp only [World.size_alloc]; done) | (simp only [World.size_alloc]; omega) | (simp; done) | (simp; omega)))))
  refine bodyPost_ret (v := .tuple #[.agg #[.int .i64 (nth xs 0), .int .u16 (be (R.take 2)), .int .u32 0, .slice A2 (n - 1 - 1 - 2) c2], .int .i64 0]) (by simp [results, Try.results17, go_sem, hk3, hk2, hk1, hz1, hz1', hz2]) rfl ?_
  refine ⟨_, _, _, rfl, ?_, by (repeat' (first | (with_reducible exact Below.refl _ _) | (with_reducible assumption) | (with_reducible refine Below.alloc ?_ ?_ _) | (with_reducible refine below_drewN ?_ _) | (with_reducible refine Below.drew ?_) | (with_reducible refine Below.setCell ?_ ?_ _) | omega | (simp; done) | (simp; omega)))⟩
  refine BOwns.more (base := w1.heap.size + 1) ?_ (by omega)
  repeat (refine BOwns.setBelow ?_ (by (first | omega | (simp only [World.size_alloc]; done) | (simp only [World.size_alloc]; omega) | (simp; done) | (simp; omega))) _)
  simpa using ho3

set_option maxHeartbeats 1600000 in
theorem read_seq_no (A : Option Addr) (n cap : Nat) (xs R : List Int) (w : World) (hR : (xs.take (n - 1)).drop 1 = R) (hr : BReads w A n xs) (hc : n ≤ cap) (h2 : 2 ≤ n) (hn : n ≤ 65541) (h1 : (chk (xs.take (n - 1)) != nth xs (n - 1)) = false)
    (hs : seqB (nth xs 0) = true) (hm : numB (nth xs 0) = false) (h7 : 4 ≤ n) (hv : validB (nth xs 0) (be (R.take 2)) 0 (n - 1 - 1 - 2) = false) : Calls Try.prog 17 #[.slice A n cap] w (ReadPost w (rdNo 6)) := by
  have hcell0 : ∀ (o : Obj) (ad : Addr), A = some ad → (w.alloc o).cell? ad = some (.int .u8 (nth xs 0)) := fun o ad hA => by
    obtain ⟨ad', e, hc', _⟩ := (hr.alloc o).at_ (show 0 < n by omega)
    rw [hA] at e
    injection e with e
    subst e
    exact hc'
  have b0 : 0 ≤ nth xs 0 ∧ nth xs 0 ≤ 255 := by
    obtain ⟨_, _, _, h⟩ := hr.at_ (show 0 < n by omega)
    exact h
  obtain ⟨ad, rfl, _, h4, h3⟩ := hr.at_ (show n - 1 < n by omega)
  have hcell : ∀ o, (w.alloc o).cell? (ad.add (n - 1)) = some (.int .u8 (nth xs (n - 1))) := fun o => by
    obtain ⟨ad', e, hc', _⟩ := (hr.alloc o).at_ (show n - 1 < n by omega)
    injection e with e
    subst e
    exact hc'
  have hcell0 := fun o => hcell0 o ad rfl
  have HD : Hid (BReads w (some ⟨ad.block, ad.off + 1, none⟩) (n - 1 - 1) R) := by
    have := (hr.head (show n - 1 ≤ n by omega)).cut (k := 1) (cap := cap) (by omega) (by omega)
    rw [if_neg (by omega), hR] at this
    exact this
  clear hR
  have HR := Lib.hid (hr.head (show n - 1 ≤ n by omega))
  clear hr
  have HN := Lib.hid (show n - 1 ≤ 9223372036854775807 by omega)
  have hw2 : 0 ≤ (n : Int) - 1 := by omega
  have hw4 : (n : Int) - 1 < n := by omega
  have hw5 : (n : Int) - 1 ≤ cap := by omega
  have hw6 : (1 : Int) ≤ n := by omega
  have hw3 : ((n : Int) - 1).toNat = n - 1 := by omega
  have hw1 : IntKind.i64.wrap ((n : Int) - 1) = (n : Int) - 1 := IntWalk.i64_in _ (by omega)
  go_enter Try.func17, Try.ntmps17
  go_wp2
  go_quiet ((go_at_call 28; exact quiet_left (check_any _ _ _ _ _ ((HR.out.alloc _).drewN _) HN.out)))
  clear hw1 hw3
  have hl7 : (2 : Int) ≤ (n : Int) - 1 - 1 := by omega
  have hl8 : ¬ ((n : Int) - 1 - 1 < 2) := by omega
  have hsb := be2_bd R HD.out.2
  go_wp2_with (first
    | (go_at_call 27; refine (of_any _ _).mono ?_; rintro e w1 ⟨rfl, hb1⟩; have hB1 := below_call (B := w.heap.size) (a := w) (by (repeat' (first | (with_reducible exact Below.refl _ _) | (with_reducible assumption) | (with_reducible refine Below.alloc ?_ ?_ _) | (with_reducible refine below_drewN ?_ _) | (with_reducible refine Below.drew ?_) | (with_reducible refine Below.setCell ?_ ?_ _) | omega | (simp; done) | (simp; omega)))) hb1 (by (first | omega | (simp only [World.size_alloc]; done) | (simp only [World.size_alloc]; omega) | (simp; done) | (simp; omega))); have hz1 : w.heap.size + 1 < w1.heap.size := (by have := hb1.size; simp at this; omega); have hz1' : w.heap.size < w1.heap.size := (by omega); have hk1 := keep_at hb1 w.heap.size (by (first | omega | (simp only [World.size_alloc]; done) | (simp only [World.size_alloc]; omega) | (simp; done) | (simp; omega))); have hk1' := keep_at hb1 (w.heap.size + 1) (by (first | omega | (simp only [World.size_alloc]; done) | (simp only [World.size_alloc]; omega) | (simp; done) | (simp; omega))); have hkf1 := keepf_at hb1 w.heap.size (by (first | omega | (simp only [World.size_alloc]; done) | (simp only [World.size_alloc]; omega) | (simp; done) | (simp; omega))); have hkf1' := keepf_at hb1 (w.heap.size + 1) (by (first | omega | (simp only [World.size_alloc]; done) | (simp only [World.size_alloc]; omega) | (simp; done) | (simp; omega))))
    | (go_at_call 29; refine (take_any _ _ _ _ 2 _ ((HD.out.below hB1).alloc _) (fun h => by cases h) (by omega) (by omega) (by omega) (by omega)).mono ?_; rintro e wt ⟨A', c', rfl, hrt, hAt, hct, nqt, rfl⟩; have HT := Lib.hid hrt; have HAT := Lib.hid hAt; clear hrt hAt)
    | (go_at_call 30; refine (clone_any _ _ _ _ _ (HT.out _ (HD.out.below (by (repeat' (first | (with_reducible exact Below.refl _ _) | (with_reducible assumption) | (with_reducible refine Below.alloc ?_ ?_ _) | (with_reducible refine below_drewN ?_ _) | (with_reducible refine Below.drew ?_) | (with_reducible refine Below.setCell ?_ ?_ _) | omega | (simp; done) | (simp; omega)))))) (by omega)).mono ?_; rintro e w2 ⟨A2, c2, rfl, ho2, hb2⟩; have hB2 := below_call (B := w.heap.size) (a := w) (by (repeat' (first | (with_reducible exact Below.refl _ _) | (with_reducible assumption) | (with_reducible refine Below.alloc ?_ ?_ _) | (with_reducible refine below_drewN ?_ _) | (with_reducible refine Below.drew ?_) | (with_reducible refine Below.setCell ?_ ?_ _) | omega | (simp; done) | (simp; omega)))) hb2 (by (first | omega | (simp only [World.size_alloc]; done) | (simp only [World.size_alloc]; omega) | (simp; done) | (simp; omega))); have hz2 : w.heap.size + 2 ≤ w2.heap.size := (by have := hb2.size; simp at this; omega); have hk2 := keep_at hb2 w.heap.size (by (first | omega | (simp only [World.size_alloc]; done) | (simp only [World.size_alloc]; omega) | (simp; done) | (simp; omega))); have hk2' := keep_at hb2 (w.heap.size + 1) (by (first | omega | (simp only [World.size_alloc]; done) | (simp only [World.size_alloc]; omega) | (simp; done) | (simp; omega))); have hkf2 := keepf_at hb2 w.heap.size (by (first | omega | (simp only [World.size_alloc]; done) | (simp only [World.size_alloc]; omega) | (simp; done) | (simp; omega))); have hkf2' := keepf_at hb2 (w.heap.size + 1) (by (first | omega | (simp only [World.size_alloc]; done) | (simp only [World.size_alloc]; omega) | (simp; done) | (simp; omega))))
    | (go_at_call 21; refine (valid_any _ _ _ _ _ _ _).mono ?_; rintro e w3 ⟨rfl, hb3⟩; have ho3 := (ho2.setBelow (p := ⟨w.heap.size + 1, 3, none⟩) (by (first | omega | (simp only [World.size_alloc]; done) | (simp only [World.size_alloc]; omega) | (simp; done) | (simp; omega))) (.slice A2 (n - 1 - 1 - 2) c2)).below hb3; have hB3 := below_call (B := w.heap.size) (a := w) (by (repeat' (first | (with_reducible exact Below.refl _ _) | (with_reducible assumption) | (with_reducible refine Below.alloc ?_ ?_ _) | (with_reducible refine below_drewN ?_ _) | (with_reducible refine Below.drew ?_) | (with_reducible refine Below.setCell ?_ ?_ _) | omega | (simp; done) | (simp; omega)))) hb3 (by (first | omega | (simp only [World.size_alloc]; done) | (simp only [World.size_alloc]; omega) | (simp; done) | (simp; omega))); have hz3 : w.heap.size + 2 ≤ w3.heap.size := (by have := hb3.size; simp at this; omega); have hk3 := keep_at hb3 w.heap.size (by (first | omega | (simp only [World.size_alloc]; done) | (simp only [World.size_alloc]; omega) | (simp; done) | (simp; omega))); have hk3' := keep_at hb3 (w.heap.size + 1) (by (first | omega | (simp only [World.size_alloc]; done) | (simp only [World.size_alloc]; omega) | (simp; done) | (simp; omega))); have hkf3 := keepf_at hb3 w.heap.size (by (first | omega | (simp only [World.size_alloc]; done) | (simp only [World.size_alloc]; omega) | (simp; done) | (simp; omega)))))
  refine bodyPost_ret (v := .tuple #[.agg #[.int .i64 0, .int .u16 0, .int .u32 0, .slice none 0 0], .int .i64 6]) (by simp [results, Try.results17, go_sem, hk3, hk2, hk1, hz1, hz1', hz2]) rfl ?_
  exact ⟨_, _, _, rfl, BOwns.nil _ _ _, by (repeat' (first | (with_reducible exact Below.refl _ _) | (with_reducible assumption) | (with_reducible refine Below.alloc ?_ ?_ _) | (with_reducible refine below_drewN ?_ _) | (with_reducible refine Below.drew ?_) | (with_reducible refine Below.setCell ?_ ?_ _) | omega | (simp; done) | (simp; omega)))⟩

set_option maxHeartbeats 1600000 in
theorem read_num_yes (A : Option Addr) (n cap : Nat) (xs R : List Int) (w : World) (hR : (xs.take (n - 1)).drop 1 = R) (hr : BReads w A n xs) (hc : n ≤ cap) (h2 : 2 ≤ n) (hn : n ≤ 65541) (h1 : (chk (xs.take (n - 1)) != nth xs (n - 1)) = false)
    (hs : seqB (nth xs 0) = false) (hm : numB (nth xs 0) = true) (h7 : 6 ≤ n) (hv : validB (nth xs 0) 0 (be (R.take 4)) (n - 1 - 1 - 4) = true) : Calls Try.prog 17 #[.slice A n cap] w (ReadPost w ⟨0, nth xs 0, 0, (be (R.take 4)), (R.drop 4)⟩) := by
  have hcell0 : ∀ (o : Obj) (ad : Addr), A = some ad → (w.alloc o).cell? ad = some (.int .u8 (nth xs 0)) := fun o ad hA => by
    obtain ⟨ad', e, hc', _⟩ := (hr.alloc o).at_ (show 0 < n by omega)
    rw [hA] at e
    injection e with e
    subst e
    exact hc'
  have b0 : 0 ≤ nth xs 0 ∧ nth xs 0 ≤ 255 := by
    obtain ⟨_, _, _, h⟩ := hr.at_ (show 0 < n by omega)
    exact h
  obtain ⟨ad, rfl, _, h4, h3⟩ := hr.at_ (show n - 1 < n by omega)
  have hcell : ∀ o, (w.alloc o).cell? (ad.add (n - 1)) = some (.int .u8 (nth xs (n - 1))) := fun o => by
    obtain ⟨ad', e, hc', _⟩ := (hr.alloc o).at_ (show n - 1 < n by omega)
    injection e with e
    subst e
    exact hc'
  have hcell0 := fun o => hcell0 o ad rfl
  have HD : Hid (BReads w (some ⟨ad.block, ad.off + 1, none⟩) (n - 1 - 1) R) := by
    have := (hr.head (show n - 1 ≤ n by omega)).cut (k := 1) (cap := cap) (by omega) (by omega)
    rw [if_neg (by omega), hR] at this
    exact this
  clear hR
  have HR := Lib.hid (hr.head (show n - 1 ≤ n by omega))
  clear hr
  have HN := Lib.hid (show n - 1 ≤ 9223372036854775807 by omega)
  have hw2 : 0 ≤ (n : Int) - 1 := by omega
  have hw4 : (n : Int) - 1 < n := by omega
  have hw5 : (n : Int) - 1 ≤ cap := by omega
  have hw6 : (1 : Int) ≤ n := by omega
  have hw3 : ((n : Int) - 1).toNat = n - 1 := by omega
  have hw1 : IntKind.i64.wrap ((n : Int) - 1) = (n : Int) - 1 := IntWalk.i64_in _ (by omega)
  go_enter Try.func17, Try.ntmps17
  go_wp2
  go_quiet ((go_at_call 28; exact quiet_left (check_any _ _ _ _ _ ((HR.out.alloc _).drewN _) HN.out)))
  clear hw1 hw3
  have hl7 : (4 : Int) ≤ (n : Int) - 1 - 1 := by omega
  have hl8 : ¬ ((n : Int) - 1 - 1 < 4) := by omega
  go_wp2_with (first
    | (go_at_call 27; refine (of_any _ _).mono ?_; rintro e w1 ⟨rfl, hb1⟩; have hB1 := below_call (B := w.heap.size) (a := w) (by (repeat' (first | (with_reducible exact Below.refl _ _) | (with_reducible assumption) | (with_reducible refine Below.alloc ?_ ?_ _) | (with_reducible refine below_drewN ?_ _) | (with_reducible refine Below.drew ?_) | (with_reducible refine Below.setCell ?_ ?_ _) | omega | (simp; done) | (simp; omega)))) hb1 (by (first | omega | (simp only [World.size_alloc]; done) | (simp only [World.size_alloc]; omega) | (simp; done) | (simp; omega))); have hz1 : w.heap.size + 1 < w1.heap.size := (by have := hb1.size; simp at this; omega); have hz1' : w.heap.size < w1.heap.size := (by omega); have hk1 := keep_at hb1 w.heap.size (by (first | omega | (simp only [World.size_alloc]; done) | (simp only [World.size_alloc]; omega) | (simp; done) | (simp; omega))); have hk1' := keep_at hb1 (w.heap.size + 1) (by (first | omega | (simp only [World.size_alloc]; done) | (simp only [World.size_alloc]; omega) | (simp; done) | (simp; omega))); have hkf1 := keepf_at hb1 w.heap.size (by (first | omega | (simp only [World.size_alloc]; done) | (simp only [World.size_alloc]; omega) | (simp; done) | (simp; omega))); have hkf1' := keepf_at hb1 (w.heap.size + 1) (by (first | omega | (simp only [World.size_alloc]; done) | (simp only [World.size_alloc]; omega) | (simp; done) | (simp; omega))))
    | (go_at_call 29; refine (take_any _ _ _ _ 4 _ ((HD.out.below hB1).alloc _) (fun h => by cases h) (by omega) (by omega) (by omega) (by omega)).mono ?_; rintro e wt ⟨A', c', rfl, hrt, hAt, hct, nqt, rfl⟩; have HT := Lib.hid hrt; have HAT := Lib.hid hAt; clear hrt hAt)
    | (go_at_call 30; refine (clone_any _ _ _ _ _ (HT.out _ (HD.out.below (by (repeat' (first | (with_reducible exact Below.refl _ _) | (with_reducible assumption) | (with_reducible refine Below.alloc ?_ ?_ _) | (with_reducible refine below_drewN ?_ _) | (with_reducible refine Below.drew ?_) | (with_reducible refine Below.setCell ?_ ?_ _) | omega | (simp; done) | (simp; omega)))))) (by omega)).mono ?_; rintro e w2 ⟨A2, c2, rfl, ho2, hb2⟩; have hB2 := below_call (B := w.heap.size) (a := w) (by (repeat' (first | (with_reducible exact Below.refl _ _) | (with_reducible assumption) | (with_reducible refine Below.alloc ?_ ?_ _) | (with_reducible refine below_drewN ?_ _) | (with_reducible refine Below.drew ?_) | (with_reducible refine Below.setCell ?_ ?_ _) | omega | (simp; done) | (simp; omega)))) hb2 (by (first | omega | (simp only [World.size_alloc]; done) | (simp only [World.size_alloc]; omega) | (simp; done) | (simp; omega))); have hz2 : w.heap.size + 2 ≤ w2.heap.size := (by have := hb2.size; simp at this; omega); have hk2 := keep_at hb2 w.heap.size (by (first | omega | (simp only [World.size_alloc]; done) | (simp only [World.size_alloc]; omega) | (simp; done) | (simp; omega))); have hk2' := keep_at hb2 (w.heap.size + 1) (by (first | omega | (simp only [World.size_alloc]; done) | (simp only [World.size_alloc]; omega) | (simp; done) | (simp; omega))); have hkf2 := keepf_at hb2 w.heap.size (by (first | omega | (simp only [World.size_alloc]; done) | (simp only [World.size_alloc]; omega) | (simp; done) | (simp; omega))); have hkf2' := keepf_at hb2 (w.heap.size + 1) (by (first | omega | (simp only [World.size_alloc]; done) | (simp only [World.size_alloc]; omega) | (simp; done) | (simp; omega))))
    | (go_at_call 21; refine (valid_any _ _ _ _ _ _ _).mono ?_; rintro e w3 ⟨rfl, hb3⟩; have ho3 := (ho2.setBelow (p := ⟨w.heap.size + 1, 3, none⟩) (by (first | omega | (simp only [World.size_alloc]; done) | (simp only [World.size_alloc]; omega) | (simp; done) | (simp; omega))) (.slice A2 (n - 1 - 1 - 4) c2)).below hb3; have hB3 := below_call (B := w.heap.size) (a := w) (by (repeat' (first | (with_reducible exact Below.refl _ _) | (with_reducible assumption) | (with_reducible refine Below.alloc ?_ ?_ _) | (with_reducible refine below_drewN ?_ _) | (with_reducible refine Below.drew ?_) | (with_reducible refine Below.setCell ?_ ?_ _) | omega | (simp; done) | (simp; omega)))) hb3 (by (first | omega | (simp only [World.size_alloc]; done) | (simp only [World.size_alloc]; omega) | (simp; done) | (simp; omega))); have hz3 : w.heap.size + 2 ≤ w3.heap.size := (by have := hb3.size; simp at this; omega); have hk3 := keep_at hb3 w.heap.size (by (first | omega | (simp only [World.size_alloc]; done) | (simp only [World.size_alloc]; omega) | (simp; done) | (simp; omega))); have hk3' := keep_at hb3 (w.heap.size + 1) (by (first | omega | (simp only [World.size_alloc]; done) | (simp only [World.size_alloc]; omega) | (simp; done) | (simp; omega))); have hkf3 := keepf_at hb3 w.heap.size (by (first | omega | (simp only [World.size_alloc]; done) | (simp only [World.size_alloc]; omega) | (simp; done) | (simp; omega)))))
  refine bodyPost_ret (v := .tuple #[.agg #[.int .i64 (nth xs 0), .int .u16 0, .int .u32 (be (R.take 4)), .slice A2 (n - 1 - 1 - 4) c2], .int .i64 0]) (by simp [results, Try.results17, go_sem, hk3, hk2, hk1, hz1, hz1', hz2]) rfl ?_
  refine ⟨_, _, _, rfl, ?_, by (repeat' (first | (with_reducible exact Below.refl _ _) | (with_reducible assumption) | (with_reducible refine Below.alloc ?_ ?_ _) | (with_reducible refine below_drewN ?_ _) | (with_reducible refine Below.drew ?_) | (with_reducible refine Below.setCell ?_ ?_ _) | omega | (simp; done) | (simp; omega)))⟩
  refine BOwns.more (base := w1.heap.size + 1) ?_ (by omega)
  repeat (refine BOwns.setBelow ?_ (by (first | omega | (simp only [World.size_alloc]; done) | (simp only [World.size_alloc]; omega) | (simp; done) | (simp; omega))) _)
  simpa using ho3

set_option maxHeartbeats 1600000 in
theorem read_num_no (A : Option Addr) (n cap : Nat) (xs R : List Int) (w : World) (hR : (xs.take (n - 1)).drop 1 = R) (hr : BReads w A n xs) (hc : n ≤ cap) (h2 : 2 ≤ n) (hn : n ≤ 65541) (h1 : (chk (xs.take (n - 1)) != nth xs (n - 1)) = false)
    (hs : seqB (nth xs 0) = false) (hm : numB (nth xs 0) = true) (h7 : 6 ≤ n) (hv : validB (nth xs 0) 0 (be (R.take 4)) (n - 1 - 1 - 4) = false) : Calls Try.prog 17 #[.slice A n cap] w (ReadPost w (rdNo 6)) := by
  have hcell0 : ∀ (o : Obj) (ad : Addr), A = some ad → (w.alloc o).cell? ad = some (.int .u8 (nth xs 0)) := fun o ad hA => by
    obtain ⟨ad', e, hc', _⟩ := (hr.alloc o).at_ (show 0 < n by omega)
    rw [hA] at e
    injection e with e
    subst e
    exact hc'
  have b0 : 0 ≤ nth xs 0 ∧ nth xs 0 ≤ 255 := by
    obtain ⟨_, _, _, h⟩ := hr.at_ (show 0 < n by omega)
    exact h
  obtain ⟨ad, rfl, _, h4, h3⟩ := hr.at_ (show n - 1 < n by omega)
  have hcell : ∀ o, (w.alloc o).cell? (ad.add (n - 1)) = some (.int .u8 (nth xs (n - 1))) := fun o => by
    obtain ⟨ad', e, hc', _⟩ := (hr.alloc o).at_ (show n - 1 < n by omega)
    injection e with e
    subst e
    exact hc'
  have hcell0 := fun o => hcell0 o ad rfl
  have HD : Hid (BReads w (some ⟨ad.block, ad.off + 1, none⟩) (n - 1 - 1) R) := by
    have := (hr.head (show n - 1 ≤ n by omega)).cut (k := 1) (cap := cap) (by omega) (by omega)
    rw [if_neg (by omega), hR] at this
    exact this
  clear hR
  have HR := Lib.hid (hr.head (show n - 1 ≤ n by omega))
  clear hr
  have HN := Lib.hid (show n - 1 ≤ 9223372036854775807 by omega)
  have hw2 : 0 ≤ (n : Int) - 1 := by omega
  have hw4 : (n : Int) - 1 < n := by omega
  have hw5 : (n : Int) - 1 ≤ cap := by omega
  have hw6 : (1 : Int) ≤ n := by omega
  have hw3 : ((n : Int) - 1).toNat = n - 1 := by omega
  have hw1 : IntKind.i64.wrap ((n : Int) - 1) = (n : Int) - 1 := IntWalk.i64_in _ (by omega)
  go_enter Try.func17, Try.ntmps17
  go_wp2
  go_quiet ((go_at_call 28; exact quiet_left (check_any _ _ _ _ _ ((HR.out.alloc _).drewN _) HN.out)))
  clear hw1 hw3
  have hl7 : (4 : Int) ≤ (n : Int) - 1 - 1 := by omega
  have hl8 : ¬ ((n : Int) - 1 - 1 < 4) := by omega
  go_wp2_with (first
    | (go_at_call 27; refine (of_any _ _).mono ?_; rintro e w1 ⟨rfl, hb1⟩; have hB1 := below_call (B := w.heap.size) (a := w) (by (repeat' (first | (with_reducible exact Below.refl _ _) | (with_reducible assumption) | (with_reducible refine Below.alloc ?_ ?_ _) | (with_reducible refine below_drewN ?_ _) | (with_reducible refine Below.drew ?_) | (with_reducible refine Below.setCell ?_ ?_ _) | omega | (simp; done) | (simp; omega)))) hb1 (by (first | omega | (simp only [World.size_alloc]; done) | (simp only [World.size_alloc]; omega) | (simp; done) | (simp; omega))); have hz1 : w.heap.size + 1 < w1.heap.size := (by have := hb1.size; simp at this; omega); have hz1' : w.heap.size < w1.heap.size := (by omega); have hk1 := keep_at hb1 w.heap.size (by (first | omega | (simp only [World.size_alloc]; done) | (simp only [World.size_alloc]; omega) | (simp; done) | (simp; omega))); have hk1' := keep_at hb1 (w.heap.size + 1) (by (first | omega | (simp only [World.size_alloc]; done) | (simp only [World.size_alloc]; omega) | (simp; done) | (simp; omega))); have hkf1 := keepf_at hb1 w.heap.size (by (first | omega | (simp only [World.size_alloc]; done) | (simp only [World.size_alloc]; omega) | (simp; done) | (simp; omega))); have hkf1' := keepf_at hb1 (w.heap.size + 1) (by (first | omega | (simp only [World.size_alloc]; done) | (simp only [World.size_alloc]; omega) | (simp; done) | (simp; omega))))
    | (go_at_call 29; refine (take_any _ _ _ _ 4 _ ((HD.out.below hB1).alloc _) (fun h => by cases h) (by omega) (by omega) (by omega) (by omega)).mono ?_; rintro e wt ⟨A', c', rfl, hrt, hAt, hct, nqt, rfl⟩; have HT := Lib.hid hrt; have HAT := Lib.hid hAt; clear hrt hAt)
    | (go_at_call 30; refine (clone_any _ _ _ _ _ (HT.out _ (HD.out.below (by (repeat' (first | (with_reducible exact Below.refl _ _) | (with_reducible assumption) | (with_reducible refine Below.alloc ?_ ?_ _) | (with_reducible refine below_drewN ?_ _) | (with_reducible refine Below.drew ?_) | (with_reducible refine Below.setCell ?_ ?_ _) | omega | (simp; done) | (simp; omega)))))) (by omega)).mono ?_; rintro e w2 ⟨A2, c2, rfl, ho2, hb2⟩; have hB2 := below_call (B := w.heap.size) (a := w) (by (repeat' (first | (with_reducible exact Below.refl _ _) | (with_reducible assumption) | (with_reducible refine Below.alloc ?_ ?_ _) | (with_reducible refine below_drewN ?_ _) | (with_reducible refine Below.drew ?_) | (with_reducible refine Below.setCell ?_ ?_ _) | omega | (simp; done) | (simp; omega)))) hb2 (by (first | omega | (simp only [World.size_alloc]; done) | (simp only [World.size_alloc]; omega) | (simp; done) | (simp; omega))); have hz2 : w.heap.size + 2 ≤ w2.heap.size := (by have := hb2.size; simp at this; omega); have hk2 := keep_at hb2 w.heap.size (by (first | omega | (simp only [World.size_alloc]; done) | (simp only [World.size_alloc]; omega) | (simp; done) | (simp; omega))); have hk2' := keep_at hb2 (w.heap.size + 1) (by (first | omega | (simp only [World.size_alloc]; done) | (simp only [World.size_alloc]; omega) | (simp; done) | (simp; omega))); have hkf2 := keepf_at hb2 w.heap.size (by (first | omega | (simp only [World.size_alloc]; done) | (simp only [World.size_alloc]; omega) | (simp; done) | (simp; omega))); have hkf2' := keepf_at hb2 (w.heap.size + 1) (by (first | omega | (simp only [World.size_alloc]; done) | (simp only [World.size_alloc]; omega) | (simp; done) | (simp; omega))))
    | (go_at_call 21; refine (valid_any _ _ _ _ _ _ _).mono ?_; rintro e w3 ⟨rfl, hb3⟩; have ho3 := (ho2.setBelow (p := ⟨w.heap.size + 1, 3, none⟩) (by (first | omega | (simp only [World.size_alloc]; done) | (simp only [World.size_alloc]; omega) | (simp; done) | (simp; omega))) (.slice A2 (n - 1 - 1 - 4) c2)).below hb3; have hB3 := below_call (B := w.heap.size) (a := w) (by (repeat' (first | (with_reducible exact Below.refl _ _) | (with_reducible assumption) | (with_reducible refine Below.alloc ?_ ?_ _) | (with_reducible refine below_drewN ?_ _) | (with_reducible refine Below.drew ?_) | (with_reducible refine Below.setCell ?_ ?_ _) | omega | (simp; done) | (simp; omega)))) hb3 (by (first | omega | (simp only [World.size_alloc]; done) | (simp only [World.size_alloc]; omega) | (simp; done) | (simp; omega))); have hz3 : w.heap.size + 2 ≤ w3.heap.size := (by have := hb3.size; simp at this; omega); have hk3 := keep_at hb3 w.heap.size (by (first | omega | (simp only [World.size_alloc]; done) | (simp only [World.size_alloc]; omega) | (simp; done) | (simp; omega))); have hk3' := keep_at hb3 (w.heap.size + 1) (by (first | omega | (simp only [World.size_alloc]; done) | (simp only [World.size_alloc]; omega) | (simp; done) | (simp; omega))); have hkf3 := keepf_at hb3 w.heap.size (by (first | omega | (simp only [World.size_alloc]; done) | (simp only [World.size_alloc]; omega) | (simp; done) | (simp; omega)))))
  refine bodyPost_ret (v := .tuple #[.agg #[.int .i64 0, .int .u16 0, .int .u32 0, .slice none 0 0], .int .i64 6]) (by simp [results, Try.results17, go_sem, hk3, hk2, hk1, hz1, hz1', hz2]) rfl ?_
  exact ⟨_, _, _, rfl, BOwns.nil _ _ _, by (repeat' (first | (with_reducible exact Below.refl _ _) | (with_reducible assumption) | (with_reducible refine Below.alloc ?_ ?_ _) | (with_reducible refine below_drewN ?_ _) | (with_reducible refine Below.drew ?_) | (with_reducible refine Below.setCell ?_ ?_ _) | omega | (simp; done) | (simp; omega)))⟩


end Go.Proofs.Ytbcleifhadkecaa
