/-
  Read of frame: the bytes are too few for the parts of their kind; and all the cases together.
-/
import Derived.Test.YtbcleifhadkecaaReadB
set_option linter.unusedSimpArgs false
set_option linter.unusedVariables false
namespace Go.Proofs.Ytbcleifhadkecaa
open Go.RowKit

set_option maxHeartbeats 1600000 in
theorem read_seq_fmt (A : Option Addr) (n cap : Nat) (xs R : List Int) (w : World) (hR : (xs.take (n - 1)).drop 1 = R) (hr : BReads w A n xs) (hc : n ≤ cap) (h2 : 2 ≤ n) (hn : n ≤ 65541) (h1 : (chk (xs.take (n - 1)) != nth xs (n - 1)) = false)
    (hs : seqB (nth xs 0) = true) (hm : numB (nth xs 0) = false) (h7 : n < 4) : Calls Try.prog 17 #[.slice A n cap] w (ReadPost w (rdNo 6)) := by
  have hcell0 : ∀ (o : Obj) (ad : Addr), A = some ad → (w.alloc o).cell? ad = some (.int .u8 (nth xs 0)) := fun o ad hA => by
    obtain ⟨ad', e, hc', _⟩ := (hr.alloc o).at_ (show 0 < n by omega)
    rw [hA] at e
    injection e with e
    subst e
    exact hc'
  have b0 : 0 ≤ nth xs 0 ∧ nth xs 0 ≤ 255 := by
    obtain ⟨_, _, _, h⟩ := hr.at_ (show 0 < n by omega)
    exact h
  obtain ⟨ad, rfl, _, h4, h3⟩ := hr.at_ (show n - 1 < n by omega)
  have hcell : ∀ o, (w.alloc o).cell? (ad.add (n - 1)) = some (.int .u8 (nth xs (n - 1))) := fun o => by
    obtain ⟨ad', e, hc', _⟩ := (hr.alloc o).at_ (show n - 1 < n by omega)
    injection e with e
    subst e
    exact hc'
  have hcell0 := fun o => hcell0 o ad rfl
  have HD : Hid (BReads w (some ⟨ad.block, ad.off + 1, none⟩) (n - 1 - 1) R) := by
    have := (hr.head (show n - 1 ≤ n by omega)).cut (k := 1) (cap := cap) (by omega) (by omega)
    rw [if_neg (by omega), hR] at this
    exact this
  clear hR
  have HR := Lib.hid (hr.head (show n - 1 ≤ n by omega))
  clear hr
  have HN := Lib.hid (show n - 1 ≤ 9223372036854775807 by omega)
  have hw2 : 0 ≤ (n : Int) - 1 := by omega
  have hw4 : (n : Int) - 1 < n := by omega
  have hw5 : (n : Int) - 1 ≤ cap := by omega
  have hw6 : (1 : Int) ≤ n := by omega
  have hw3 : ((n : Int) - 1).toNat = n - 1 := by omega
  have hw1 : IntKind.i64.wrap ((n : Int) - 1) = (n : Int) - 1 := IntWalk.i64_in _ (by omega)
  go_enter Try.func17, Try.ntmps17
  go_wp2
  go_quiet ((go_at_call 28; exact quiet_left (check_any _ _ _ _ _ ((HR.out.alloc _).drewN _) HN.out)))
  clear hw1 hw3
  have hl7 : (n : Int) - 1 - 1 < 2 := by omega
  have hl8 : ¬ ((2 : Int) ≤ (n : Int) - 1 - 1) := by omega
  go_wp2_with (first
    | (go_at_call 27; refine (of_any _ _).mono ?_; rintro e w1 ⟨rfl, hb1⟩; have hB1 := below_call (B := w.heap.size) (a := w) (by (repeat' (first | (with_reducible exact Below.refl _ _) | (with_reducible assumption) | (with_reducible refine Below.alloc ?_ ?_ _) | (with_reducible refine below_drewN ?_ _) | (with_reducible refine Below.drew ?_) | (with_reducible refine Below.setCell ?_ ?_ _) | omega | (simp; done) | (simp; omega)))) hb1 (by (first | omega | (simp only [World.size_alloc]; done) | (simp only [World.size_alloc]; omega) | (simp; done) | (simp; omega))); have hz1 : w.heap.size + 1 < w1.heap.size := (by have := hb1.size; simp at this; omega); have hz1' : w.heap.size < w1.heap.size := (by omega); have hk1 := keep_at hb1 w.heap.size (by (first | omega | (simp only [World.size_alloc]; done) | (simp only [World.size_alloc]; omega) | (simp; done) | (simp; omega))); have hk1' := keep_at hb1 (w.heap.size + 1) (by (first | omega | (simp only [World.size_alloc]; done) | (simp only [World.size_alloc]; omega) | (simp; done) | (simp; omega))); have hkf1 := keepf_at hb1 w.heap.size (by (first | omega | (simp only [World.size_alloc]; done) | (simp only [World.size_alloc]; omega) | (simp; done) | (simp; omega))); have hkf1' := keepf_at hb1 (w.heap.size + 1) (by (first | omega | (simp only [World.size_alloc]; done) | (simp only [World.size_alloc]; omega) | (simp; done) | (simp; omega)))))
  refine bodyPost_ret (v := .tuple #[.agg #[.int .i64 0, .int .u16 0, .int .u32 0, .slice none 0 0], .int .i64 6]) (by simp [results, Try.results17, go_sem, hk1, hz1, hz1']) rfl ?_
  exact ⟨_, _, _, rfl, BOwns.nil _ _ _, by (repeat' (first | (with_reducible exact Below.refl _ _) | (with_reducible assumption) | (with_reducible refine Below.alloc ?_ ?_ _) | (with_reducible refine below_drewN ?_ _) | (with_reducible refine Below.drew ?_) | (with_reducible refine Below.setCell ?_ ?_ _) | omega | (simp; done) | (simp; omega)))⟩

set_option maxHeartbeats 1600000 in
theorem read_num_fmt (A : Option Addr) (n cap : Nat) (xs R : List Int) (w : World) (hR : (xs.take (n - 1)).drop 1 = R) (hr : BReads w A n xs) (hc : n ≤ cap) (h2 : 2 ≤ n) (hn : n ≤ 65541) (h1 : (chk (xs.take (n - 1)) != nth xs (n - 1)) = false)
    (hs : seqB (nth xs 0) = false) (hm : numB (nth xs 0) = true) (h7 : n < 6) : Calls Try.prog 17 #[.slice A n cap] w (ReadPost w (rdNo 6)) := by
  have hcell0 : ∀ (o : Obj) (ad : Addr), A = some ad → (w.alloc o).cell? ad = some (.int .u8 (nth xs 0)) := fun o ad hA => by
    obtain ⟨ad', e, hc', _⟩ := (hr.alloc o).at_ (show 0 < n by omega)
    rw [hA] at e
    injection e with e
    subst e
    exact hc'
  have b0 : 0 ≤ nth xs 0 ∧ nth xs 0 ≤ 255 := by
    obtain ⟨_, _, _, h⟩ := hr.at_ (show 0 < n by omega)
    exact h
  obtain ⟨ad, rfl, _, h4, h3⟩ := hr.at_ (show n - 1 < n by omega)
  have hcell : ∀ o, (w.alloc o).cell? (ad.add (n - 1)) = some (.int .u8 (nth xs (n - 1))) := fun o => by
    obtain ⟨ad', e, hc', _⟩ := (hr.alloc o).at_ (show n - 1 < n by omega)
    injection e with e
    subst e
    exact hc'
  have hcell0 := fun o => hcell0 o ad rfl
  have HD : Hid (BReads w (some ⟨ad.block, ad.off + 1, none⟩) (n - 1 - 1) R) := by
    have := (hr.head (show n - 1 ≤ n by omega)).cut (k := 1) (cap := cap) (by omega) (by omega)
    rw [if_neg (by omega), hR] at this
    exact this
  clear hR
  have HR := Lib.hid (hr.head (show n - 1 ≤ n by omega))
  clear hr
  have HN := Lib.hid (show n - 1 ≤ 9223372036854775807 by omega)
  have hw2 : 0 ≤ (n : Int) - 1 := by omega
  have hw4 : (n : Int) - 1 < n := by omega
  have hw5 : (n : Int) - 1 ≤ cap := by omega
  have hw6 : (1 : Int) ≤ n := by omega
  have hw3 : ((n : Int) - 1).toNat = n - 1 := by omega
  have hw1 : IntKind.i64.wrap ((n : Int) - 1) = (n : Int) - 1 := IntWalk.i64_in _ (by omega)
  go_enter Try.func17, Try.ntmps17
  go_wp2
  go_quiet ((go_at_call 28; exact quiet_left (check_any _ _ _ _ _ ((HR.out.alloc _).drewN _) HN.out)))
  clear hw1 hw3
  have hl7 : (n : Int) - 1 - 1 < 4 := by omega
  have hl8 : ¬ ((4 : Int) ≤ (n : Int) - 1 - 1) := by omega
  go_wp2_with (first
    | (go_at_call 27; refine (of_any _ _).mono ?_; rintro e w1 ⟨rfl, hb1⟩; have hB1 := below_call (B := w.heap.size) (a := w) (by (repeat' (first | (with_reducible exact Below.refl _ _) | (with_reducible assumption) | (with_reducible refine Below.alloc ?_ ?_ _) | (with_reducible refine below_drewN ?_ _) | (with_reducible refine Below.drew ?_) | (with_reducible refine Below.setCell ?_ ?_ _) | omega | (simp; done) | (simp; omega)))) hb1 (by (first | omega | (simp only [World.size_alloc]; done) | (simp only [World.size_alloc]; omega) | (simp; done) | (simp; omega))); have hz1 : w.heap.size + 1 < w1.heap.size := (by have := hb1.size; simp at this; omega); have hz1' : w.heap.size < w1.heap.size := (by omega); have hk1 := keep_at hb1 w.heap.size (by (first | omega | (simp only [World.size_alloc]; done) | (simp only [World.size_alloc]; omega) | (simp; done) | (simp; omega))); have hk1' := keep_at hb1 (w.heap.size + 1) (by (first | omega | (simp only [World.size_alloc]; done) | (simp only [World.size_alloc]; omega) | (simp; done) | (simp; omega))); have hkf1 := keepf_at hb1 w.heap.size (by (first | omega | (simp only [World.size_alloc]; done) | (simp only [World.size_alloc]; omega) | (simp; done) | (simp; omega))); have hkf1' := keepf_at hb1 (w.heap.size + 1) (by (first | omega | (simp only [World.size_alloc]; done) | (simp only [World.size_alloc]; omega) | (simp; done) | (simp; omega)))))
  refine bodyPost_ret (v := .tuple #[.agg #[.int .i64 0, .int .u16 0, .int .u32 0, .slice none 0 0], .int .i64 6]) (by simp [results, Try.results17, go_sem, hk1, hz1, hz1']) rfl ?_
  exact ⟨_, _, _, rfl, BOwns.nil _ _ _, by (repeat' (first | (with_reducible exact Below.refl _ _) | (with_reducible assumption) | (with_reducible refine Below.alloc ?_ ?_ _) | (with_reducible refine below_drewN ?_ _) | (with_reducible refine Below.drew ?_) | (with_reducible refine Below.setCell ?_ ?_ _) | omega | (simp; done) | (simp; omega)))⟩

theorem num_seq (k : Int) (h1 : numB k = true) : seqB k = false := by
  simp [seqB, numB] at *
  omega

/-- Read of frame gives what 'rd' says. -/
theorem read_any (A : Option Addr) (n cap : Nat) (xs : List Int) (w : World) (hr : BReads w A n xs) (hc : n ≤ cap) : Calls Try.prog 17 #[.slice A n cap] w (ReadPost w (rd xs)) := by
  have hl := hr.length
  unfold rd
  rw [hl]
  by_cases h0 : 65541 < n
  · rw [if_pos h0]
    exact read_long A n cap w h0
  rw [if_neg h0]
  by_cases h1 : n < 2
  · rw [if_pos h1]
    exact read_short A n cap w h1
  rw [if_neg h1]
  by_cases h2 : chk (xs.take (n - 1)) ≠ nth xs (n - 1)
  · rw [if_pos h2]
    exact read_check A n cap xs w hr hc (by omega) (by omega) (by simpa using h2)
  rw [if_neg h2]
  have h3 : (chk (xs.take (n - 1)) != nth xs (n - 1)) = false := by simpa using h2
  have hR : ((xs.take (n - 1)).drop 1).length = n - 1 - 1 := by simp; omega
  generalize hR' : (xs.take (n - 1)).drop 1 = R at *
  unfold rdBody
  rw [hR]
  have h4 : 2 ≤ n := by omega
  have h5 : n ≤ 65541 := by omega
  rcases hs : seqB (nth xs 0) with _ | _
  · rcases hm : numB (nth xs 0) with _ | _
    · simp only [Bool.false_eq_true, false_and, or_self, if_false]
      rw [hR]
      rcases hv : validB (nth xs 0) 0 0 (n - 1 - 1) with _ | _
      · rw [if_neg (by simp)]
        exact read_plain_no A n cap xs R w hR' hr hc h4 h5 h3 hs hm hv
      · rw [if_pos rfl]
        exact read_plain_yes A n cap xs R w hR' hr hc h4 h5 h3 hs hm hv
    · simp only [Bool.false_eq_true, false_and, false_or, true_and, if_false, if_true]
      by_cases h6 : n - 1 - 1 < 4
      · rw [if_pos h6]
        exact read_num_fmt A n cap xs R w hR' hr hc h4 h5 h3 hs hm (by omega)
      rw [if_neg h6, List.length_drop, hR]
      rcases hv : validB (nth xs 0) 0 (be (R.take 4)) (n - 1 - 1 - 4) with _ | _
      · rw [if_neg (by simp)]
        exact read_num_no A n cap xs R w hR' hr hc h4 h5 h3 hs hm (by omega) hv
      · rw [if_pos rfl]
        exact read_num_yes A n cap xs R w hR' hr hc h4 h5 h3 hs hm (by omega) hv
  · have hm := seq_num _ hs
    simp only [hm, Bool.false_eq_true, false_and, or_false, true_and, if_false, if_true]
    by_cases h6 : n - 1 - 1 < 2
    · rw [if_pos h6]
      exact read_seq_fmt A n cap xs R w hR' hr hc h4 h5 h3 hs hm (by omega)
    rw [if_neg h6, List.length_drop, hR]
    rcases hv : validB (nth xs 0) (be (R.take 2)) 0 (n - 1 - 1 - 2) with _ | _
    · rw [if_neg (by simp)]
      exact read_seq_no A n cap xs R w hR' hr hc h4 h5 h3 hs hm (by omega) hv
    · rw [if_pos rfl]
      exact read_seq_yes A n cap xs R w hR' hr hc h4 h5 h3 hs hm (by omega) hv

end Go.Proofs.Ytbcleifhadkecaa
