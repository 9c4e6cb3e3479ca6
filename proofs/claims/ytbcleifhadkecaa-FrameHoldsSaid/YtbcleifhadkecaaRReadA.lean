/-
  Read of the reference: the short ways; a kind without a sequence or a number.
-/
import Derived.Test.YtbcleifhadkecaaReadC
import Derived.BigRegion
set_option linter.unusedSimpArgs false
set_option linter.unusedVariables false
namespace Go.Proofs.Ytbcleifhadkecaa
open Go.RowKit

theorem cell_rest {w : World} {ad : Addr} {n : Nat} {R : List Int} (h : BReads w (some ⟨ad.block, ad.off + 1, none⟩) n R) (j : Nat) (hj : j < n) :
    w.cell? ⟨ad.block, ad.off + 1 + j, none⟩ = some (.int .u8 (nth R j)) ∧ 0 ≤ nth R j ∧ nth R j ≤ 255 := by
  obtain ⟨a, e, hc, hb⟩ := h.at_ hj
  injection e with e
  subst e
  refine ⟨?_, hb⟩
  rw [← hc]
  unfold Addr.add
  split
  · rename_i h0; simp [h0]
  · rfl
theorem be_two (R : List Int) (h : 2 ≤ R.length) : 256 * nth R 0 + nth R 1 = be (R.take 2) := by
  match R, h with
  | a :: b :: l, _ => simp [be, nth]; omega
theorem be_four (R : List Int) (h : 4 ≤ R.length) : 16777216 * nth R 0 + 65536 * nth R 1 + 256 * nth R 2 + nth R 3 = be (R.take 4) := by
  match R, h with
  | a :: b :: c :: d :: l, _ => simp [be, nth]; omega
set_option maxHeartbeats 400000 in
theorem rread_long (A : Option Addr) (n cap : Nat) (w : World) (hn : 65541 < n) : Calls Try.prog 14 #[.slice A n cap] w (ReadPost w (rdNo 5)) := by
  go_enter Try.func14, Try.ntmps14
  go_wp2
  go_returns
  exact ⟨_, _, _, rfl, BOwns.nil _ _ _, by go_grown⟩

set_option maxHeartbeats 400000 in
theorem rread_short (A : Option Addr) (n cap : Nat) (w : World) (hn : n < 2) : Calls Try.prog 14 #[.slice A n cap] w (ReadPost w (rdNo 4)) := by
  go_enter Try.func14, Try.ntmps14
  go_wp2
  go_returns
  exact ⟨_, _, _, rfl, BOwns.nil _ _ _, by go_grown⟩

set_option maxHeartbeats 1600000 in
theorem rread_check (A : Option Addr) (n cap : Nat) (xs R : List Int) (w : World) (hR : (xs.take (n - 1)).drop 1 = R) (hr : BReads w A n xs) (hc : n ≤ cap) (h2 : 2 ≤ n) (hn : n ≤ 65541) (h1 : (chk (xs.take (n - 1)) != nth xs (n - 1)) = true)
     : Calls Try.prog 14 #[.slice A n cap] w (ReadPost w (rdNo 10)) := by
  have b0 : 0 ≤ nth xs 0 ∧ nth xs 0 ≤ 255 := by
    obtain ⟨_, _, _, h⟩ := hr.at_ (show 0 < n by omega)
    exact h
  obtain ⟨ad, rfl, _, h4, h3⟩ := hr.at_ (show n - 1 < n by omega)
  have hcell : ∀ o, (w.alloc o).cell? (ad.add (n - 1)) = some (.int .u8 (nth xs (n - 1))) := fun o => by
    obtain ⟨ad', e, hc', _⟩ := (hr.alloc o).at_ (show n - 1 < n by omega)
    injection e with e
    subst e
    exact hc'
  have hcell0 : ∀ o, (w.alloc o).cell? ad = some (.int .u8 (nth xs 0)) := fun o => by
    obtain ⟨ad', e, hc', _⟩ := (hr.alloc o).at_ (show 0 < n by omega)
    injection e with e
    subst e
    exact hc'
  have hblk : ad.block < w.heap.size := by
    obtain ⟨ad', e, hb, _⟩ := hr.1.2 (show 0 < n by omega)
    injection e with e
    subst e
    exact hb
  have HD : Hid (BReads w (some ⟨ad.block, ad.off + 1, none⟩) (n - 1 - 1) R) := by
    have := (hr.head (show n - 1 ≤ n by omega)).cut (k := 1) (cap := cap) (by omega) (by omega)
    rw [if_neg (by omega), hR] at this
    exact this
  clear hR
  have HR := Lib.hid (hr.head (show n - 1 ≤ n by omega))
  clear hr
  have HN := Lib.hid (show n - 1 ≤ 9223372036854775807 by omega)
  have hw2 : 0 ≤ (n : Int) - 1 := by omega
  have hw4 : (n : Int) - 1 < n := by omega
  have hw5 : (n : Int) - 1 ≤ cap := by omega
  have hw6 : (1 : Int) ≤ n := by omega
  have hw3 : ((n : Int) - 1).toNat = n - 1 := by omega
  have hw1 : IntKind.i64.wrap ((n : Int) - 1) = (n : Int) - 1 := IntWalk.i64_in _ (by omega)
  go_enter Try.func14, Try.ntmps14
  go_wp2
  go_quiet ((go_at_call 16; exact quiet_left (rcheck_any _ _ _ _ _ ((HR.out.alloc _).drewN _) HN.out)))
  clear hw1 hw3
  all_goals go_wp2
  all_goals go_returns
  all_goals exact ⟨_, _, _, rfl, BOwns.nil _ _ _, by (focus (repeat' (first | (with_reducible exact Below.refl _ _) | (with_reducible assumption) | (with_reducible refine Below.alloc ?_ ?_ _) | (with_reducible refine below_drewN ?_ _) | (with_reducible refine Below.drew ?_) | (with_reducible refine Below.setCell ?_ ?_ _) | omega | (simp; done) | (simp; omega))))⟩

set_option maxHeartbeats 1600000 in
theorem rread_seq_fmt (A : Option Addr) (n cap : Nat) (xs R : List Int) (w : World) (hR : (xs.take (n - 1)).drop 1 = R) (hr : BReads w A n xs) (hc : n ≤ cap) (h2 : 2 ≤ n) (hn : n ≤ 65541) (h1 : (chk (xs.take (n - 1)) != nth xs (n - 1)) = false)
    (hs : seqB (nth xs 0) = true) (hm : numB (nth xs 0) = false) (h7 : n < 4) : Calls Try.prog 14 #[.slice A n cap] w (ReadPost w (rdNo 6)) := by
  have b0 : 0 ≤ nth xs 0 ∧ nth xs 0 ≤ 255 := by
    obtain ⟨_, _, _, h⟩ := hr.at_ (show 0 < n by omega)
    exact h
  obtain ⟨ad, rfl, _, h4, h3⟩ := hr.at_ (show n - 1 < n by omega)
  have hcell : ∀ o, (w.alloc o).cell? (ad.add (n - 1)) = some (.int .u8 (nth xs (n - 1))) := fun o => by
    obtain ⟨ad', e, hc', _⟩ := (hr.alloc o).at_ (show n - 1 < n by omega)
    injection e with e
    subst e
    exact hc'
  have hcell0 : ∀ o, (w.alloc o).cell? ad = some (.int .u8 (nth xs 0)) := fun o => by
    obtain ⟨ad', e, hc', _⟩ := (hr.alloc o).at_ (show 0 < n by omega)
    injection e with e
    subst e
    exact hc'
  have hblk : ad.block < w.heap.size := by
    obtain ⟨ad', e, hb, _⟩ := hr.1.2 (show 0 < n by omega)
    injection e with e
    subst e
    exact hb
  have HD : Hid (BReads w (some ⟨ad.block, ad.off + 1, none⟩) (n - 1 - 1) R) := by
    have := (hr.head (show n - 1 ≤ n by omega)).cut (k := 1) (cap := cap) (by omega) (by omega)
    rw [if_neg (by omega), hR] at this
    exact this
  clear hR
  have HR := Lib.hid (hr.head (show n - 1 ≤ n by omega))
  clear hr
  have HN := Lib.hid (show n - 1 ≤ 9223372036854775807 by omega)
  have hw2 : 0 ≤ (n : Int) - 1 := by omega
  have hw4 : (n : Int) - 1 < n := by omega
  have hw5 : (n : Int) - 1 ≤ cap := by omega
  have hw6 : (1 : Int) ≤ n := by omega
  have hw3 : ((n : Int) - 1).toNat = n - 1 := by omega
  have hw1 : IntKind.i64.wrap ((n : Int) - 1) = (n : Int) - 1 := IntWalk.i64_in _ (by omega)
  go_enter Try.func14, Try.ntmps14
  go_wp2
  go_quiet ((go_at_call 16; exact quiet_left (rcheck_any _ _ _ _ _ ((HR.out.alloc _).drewN _) HN.out)))
  clear hw1 hw3
  have hl7 : ((n - 1 - 1 : Nat) : Int) < 2 := by omega
  go_wp2_with (first
    | (go_at_call 25; refine (seq_any _ _).mono ?_; rintro e w' ⟨rfl, rfl⟩)
    | (go_at_call 26; refine (num_any _ _).mono ?_; rintro e w' ⟨rfl, rfl⟩))
  refine bodyPost_ret (v := .tuple #[.agg #[.int .i64 0, .int .u16 0, .int .u32 0, .slice none 0 0], .int .i64 6]) (by simp [results, Try.results14, go_sem]) rfl ?_
  exact ⟨_, _, _, rfl, BOwns.nil _ _ _, by (focus (repeat' (first | (with_reducible exact Below.refl _ _) | (with_reducible assumption) | (with_reducible refine Below.alloc ?_ ?_ _) | (with_reducible refine below_drewN ?_ _) | (with_reducible refine Below.drew ?_) | (with_reducible refine Below.setCell ?_ ?_ _) | omega | (simp; done) | (simp; omega))))⟩

set_option maxHeartbeats 1600000 in
theorem rread_num_fmt (A : Option Addr) (n cap : Nat) (xs R : List Int) (w : World) (hR : (xs.take (n - 1)).drop 1 = R) (hr : BReads w A n xs) (hc : n ≤ cap) (h2 : 2 ≤ n) (hn : n ≤ 65541) (h1 : (chk (xs.take (n - 1)) != nth xs (n - 1)) = false)
    (hs : seqB (nth xs 0) = false) (hm : numB (nth xs 0) = true) (h7 : n < 6) : Calls Try.prog 14 #[.slice A n cap] w (ReadPost w (rdNo 6)) := by
  have b0 : 0 ≤ nth xs 0 ∧ nth xs 0 ≤ 255 := by
    obtain ⟨_, _, _, h⟩ := hr.at_ (show 0 < n by omega)
    exact h
  obtain ⟨ad, rfl, _, h4, h3⟩ := hr.at_ (show n - 1 < n by omega)
  have hcell : ∀ o, (w.alloc o).cell? (ad.add (n - 1)) = some (.int .u8 (nth xs (n - 1))) := fun o => by
    obtain ⟨ad', e, hc', _⟩ := (hr.alloc o).at_ (show n - 1 < n by omega)
    injection e with e
    subst e
    exact hc'
  have hcell0 : ∀ o, (w.alloc o).cell? ad = some (.int .u8 (nth xs 0)) := fun o => by
    obtain ⟨ad', e, hc', _⟩ := (hr.alloc o).at_ (show 0 < n by omega)
    injection e with e
    subst e
    exact hc'
  have hblk : ad.block < w.heap.size := by
    obtain ⟨ad', e, hb, _⟩ := hr.1.2 (show 0 < n by omega)
    injection e with e
    subst e
    exact hb
  have HD : Hid (BReads w (some ⟨ad.block, ad.off + 1, none⟩) (n - 1 - 1) R) := by
    have := (hr.head (show n - 1 ≤ n by omega)).cut (k := 1) (cap := cap) (by omega) (by omega)
    rw [if_neg (by omega), hR] at this
    exact this
  clear hR
  have HR := Lib.hid (hr.head (show n - 1 ≤ n by omega))
  clear hr
  have HN := Lib.hid (show n - 1 ≤ 9223372036854775807 by omega)
  have hw2 : 0 ≤ (n : Int) - 1 := by omega
  have hw4 : (n : Int) - 1 < n := by omega
  have hw5 : (n : Int) - 1 ≤ cap := by omega
  have hw6 : (1 : Int) ≤ n := by omega
  have hw3 : ((n : Int) - 1).toNat = n - 1 := by omega
  have hw1 : IntKind.i64.wrap ((n : Int) - 1) = (n : Int) - 1 := IntWalk.i64_in _ (by omega)
  go_enter Try.func14, Try.ntmps14
  go_wp2
  go_quiet ((go_at_call 16; exact quiet_left (rcheck_any _ _ _ _ _ ((HR.out.alloc _).drewN _) HN.out)))
  clear hw1 hw3
  have hl7 : ((n - 1 - 1 : Nat) : Int) < 4 := by omega
  go_wp2_with (first
    | (go_at_call 25; refine (seq_any _ _).mono ?_; rintro e w' ⟨rfl, rfl⟩)
    | (go_at_call 26; refine (num_any _ _).mono ?_; rintro e w' ⟨rfl, rfl⟩))
  refine bodyPost_ret (v := .tuple #[.agg #[.int .i64 0, .int .u16 0, .int .u32 0, .slice none 0 0], .int .i64 6]) (by simp [results, Try.results14, go_sem]) rfl ?_
  exact ⟨_, _, _, rfl, BOwns.nil _ _ _, by (focus (repeat' (first | (with_reducible exact Below.refl _ _) | (with_reducible assumption) | (with_reducible refine Below.alloc ?_ ?_ _) | (with_reducible refine below_drewN ?_ _) | (with_reducible refine Below.drew ?_) | (with_reducible refine Below.setCell ?_ ?_ _) | omega | (simp; done) | (simp; omega))))⟩

set_option maxHeartbeats 1600000 in
theorem rread_plain_yes (A : Option Addr) (n cap : Nat) (xs R : List Int) (w : World) (hR : (xs.take (n - 1)).drop 1 = R) (hr : BReads w A n xs) (hc : n ≤ cap) (h2 : 2 ≤ n) (hn : n ≤ 65541) (h1 : (chk (xs.take (n - 1)) != nth xs (n - 1)) = false)
    (hs : seqB (nth xs 0) = false) (hm : numB (nth xs 0) = false) (hv : validB (nth xs 0) 0 0 (n - 1 - 1) = true) : Calls Try.prog 14 #[.slice A n cap] w (ReadPost w ⟨0, nth xs 0, 0, 0, R⟩) := by
  have b0 : 0 ≤ nth xs 0 ∧ nth xs 0 ≤ 255 := by
    obtain ⟨_, _, _, h⟩ := hr.at_ (show 0 < n by omega)
    exact h
  obtain ⟨ad, rfl, _, h4, h3⟩ := hr.at_ (show n - 1 < n by omega)
  have hcell : ∀ o, (w.alloc o).cell? (ad.add (n - 1)) = some (.int .u8 (nth xs (n - 1))) := fun o => by
    obtain ⟨ad', e, hc', _⟩ := (hr.alloc o).at_ (show n - 1 < n by omega)
    injection e with e
    subst e
    exact hc'
  have hcell0 : ∀ o, (w.alloc o).cell? ad = some (.int .u8 (nth xs 0)) := fun o => by
    obtain ⟨ad', e, hc', _⟩ := (hr.alloc o).at_ (show 0 < n by omega)
    injection e with e
    subst e
    exact hc'
  have hblk : ad.block < w.heap.size := by
    obtain ⟨ad', e, hb, _⟩ := hr.1.2 (show 0 < n by omega)
    injection e with e
    subst e
    exact hb
  have HD : Hid (BReads w (some ⟨ad.block, ad.off + 1, none⟩) (n - 1 - 1) R) := by
    have := (hr.head (show n - 1 ≤ n by omega)).cut (k := 1) (cap := cap) (by omega) (by omega)
    rw [if_neg (by omega), hR] at this
    exact this
  clear hR
  have HR := Lib.hid (hr.head (show n - 1 ≤ n by omega))
  clear hr
  have HN := Lib.hid (show n - 1 ≤ 9223372036854775807 by omega)
  have hw2 : 0 ≤ (n : Int) - 1 := by omega
  have hw4 : (n : Int) - 1 < n := by omega
  have hw5 : (n : Int) - 1 ≤ cap := by omega
  have hw6 : (1 : Int) ≤ n := by omega
  have hw3 : ((n : Int) - 1).toNat = n - 1 := by omega
  have hw1 : IntKind.i64.wrap ((n : Int) - 1) = (n : Int) - 1 := IntWalk.i64_in _ (by omega)
  go_enter Try.func14, Try.ntmps14
  go_wp2
  go_quiet ((go_at_call 16; exact quiet_left (rcheck_any _ _ _ _ _ ((HR.out.alloc _).drewN _) HN.out)))
  clear hw1 hw3
  go_wp2_with (first
    | (go_at_call 25; refine (seq_any _ _).mono ?_; rintro e w' ⟨rfl, rfl⟩)
    | (go_at_call 26; refine (num_any _ _).mono ?_; rintro e w' ⟨rfl, rfl⟩)
    | (at_builtin; refine append_bytes _ rfl (.const (.slice none 0 0)) (.tmp 89) 25 rfl (w.heap.size + 2) 5 Try.info5 Try.underlying25 none 0 0 [] rfl (BOwns.nil _ _ _) _ _ _ R rfl (fun h => by cases h) ?_ ?_ ?_ ?_; exact HD.out.below (by (focus (repeat' (first | (with_reducible exact Below.refl _ _) | (with_reducible assumption) | (with_reducible refine Below.alloc ?_ ?_ _) | (with_reducible refine below_drewN ?_ _) | (with_reducible refine Below.drew ?_) | (with_reducible refine Below.setCell ?_ ?_ _) | omega | (simp; done) | (simp; omega))))); omega; (focus (first | omega | (simp only [World.size_alloc]; done) | (simp only [World.size_alloc]; omega) | (simp; done) | (simp; omega))); intro A2 c2 w2 ho2 hb2; have hB2 := (show Below w.heap.size w _ by (focus (repeat' (first | (with_reducible exact Below.refl _ _) | (with_reducible assumption) | (with_reducible refine Below.alloc ?_ ?_ _) | (with_reducible refine below_drewN ?_ _) | (with_reducible refine Below.drew ?_) | (with_reducible refine Below.setCell ?_ ?_ _) | omega | (simp; done) | (simp; omega))))).trans (hb2.mono (by omega)); have hz2 : w.heap.size + 2 ≤ w2.heap.size := (by have := hb2.size; simp at this; omega); have hk2 := keep_at hb2 w.heap.size (by omega); have hk2' := keep_at hb2 (w.heap.size + 1) (by omega); have hkf2 := keepf_at hb2 w.heap.size (by omega); have hkf2' := keepf_at hb2 (w.heap.size + 1) (by omega); simp only [Nat.zero_add, List.nil_append] at ho2)
    | (go_at_call 10; refine (rvalid_any _ _ _ _ _ _ _).mono ?_; rintro e w3 ⟨rfl, hb3⟩; have ho3 := (ho2.setBelow (p := ⟨w.heap.size + 1, 3, none⟩) (by (focus (first | omega | (simp only [World.size_alloc]; done) | (simp only [World.size_alloc]; omega) | (simp; done) | (simp; omega)))) (.slice A2 (n - 1 - 1) c2)).below hb3; have hB3 := below_call (B := w.heap.size) (a := w) (by (focus (repeat' (first | (with_reducible exact Below.refl _ _) | (with_reducible assumption) | (with_reducible refine Below.alloc ?_ ?_ _) | (with_reducible refine below_drewN ?_ _) | (with_reducible refine Below.drew ?_) | (with_reducible refine Below.setCell ?_ ?_ _) | omega | (simp; done) | (simp; omega))))) hb3 (by (focus (first | omega | (simp only [World.size_alloc]; done) | (simp only [World.size_alloc]; omega) | (simp; done) | (simp; omega)))); have hz3 : w.heap.size + 2 ≤ w3.heap.size := (by have := hb3.size; simp at this; omega); have hk3 := keep_at hb3 w.heap.size (by (focus (first | omega | (simp only [World.size_alloc]; done) | (simp only [World.size_alloc]; omega) | (simp; done) | (simp; omega)))); have hk3' := keep_at hb3 (w.heap.size + 1) (by (focus (first | omega | (simp only [World.size_alloc]; done) | (simp only [World.size_alloc]; omega) | (simp; done) | (simp; omega)))); have hkf3 := keepf_at hb3 w.heap.size (by (focus (first | omega | (simp only [World.size_alloc]; done) | (simp only [World.size_alloc]; omega) | (simp; done) | (simp; omega))))))
  all_goals refine bodyPost_ret (v := .tuple #[.agg #[.int .i64 (nth xs 0), .int .u16 0, .int .u32 0, .slice A2 (n - 1 - 1) c2], .int .i64 0]) (by simp [results, Try.results14, go_sem, hk3, hk2, hz2]) rfl ?_
  all_goals refine ⟨_, _, _, rfl, ?_, by (focus (repeat' (first | (with_reducible exact Below.refl _ _) | (with_reducible assumption) | (with_reducible refine Below.alloc ?_ ?_ _) | (with_reducible refine below_drewN ?_ _) | (with_reducible refine Below.drew ?_) | (with_reducible refine Below.setCell ?_ ?_ _) | omega | (simp; done) | (simp; omega))))⟩
  all_goals refine BOwns.more (base := w.heap.size + 2) ?_ (by omega)
  all_goals repeat (refine BOwns.setBelow ?_ (by (focus (first | omega | (simp only [World.size_alloc]; done) | (simp only [World.size_alloc]; omega) | (simp; done) | (simp; omega)))) _)
  all_goals exact ho3

set_option maxHeartbeats 1600000 in
theorem rread_plain_no (A : Option Addr) (n cap : Nat) (xs R : List Int) (w : World) (hR : (xs.take (n - 1)).drop 1 = R) (hr : BReads w A n xs) (hc : n ≤ cap) (h2 : 2 ≤ n) (hn : n ≤ 65541) (h1 : (chk (xs.take (n - 1)) != nth xs (n - 1)) = false)
    (hs : seqB (nth xs 0) = false) (hm : numB (nth xs 0) = false) (hv : validB (nth xs 0) 0 0 (n - 1 - 1) = false) : Calls Try.prog 14 #[.slice A n cap] w (ReadPost w (rdNo 6)) := by
  have b0 : 0 ≤ nth xs 0 ∧ nth xs 0 ≤ 255 := by
    obtain ⟨_, _, _, h⟩ := hr.at_ (show 0 < n by omega)
    exact h
  obtain ⟨ad, rfl, _, h4, h3⟩ := hr.at_ (show n - 1 < n by omega)
  have hcell : ∀ o, (w.alloc o).cell? (ad.add (n - 1)) = some (.int .u8 (nth xs (n - 1))) := fun o => by
    obtain ⟨ad', e, hc', _⟩ := (hr.alloc o).at_ (show n - 1 < n by omega)
    injection e with e
    subst e
    exact hc'
  have hcell0 : ∀ o, (w.alloc o).cell? ad = some (.int .u8 (nth xs 0)) := fun o => by
    obtain ⟨ad', e, hc', _⟩ := (hr.alloc o).at_ (show 0 < n by omega)
    injection e with e
    subst e
    exact hc'
  have hblk : ad.block < w.heap.size := by
    obtain ⟨ad', e, hb, _⟩ := hr.1.2 (show 0 < n by omega)
    injection e with e
    subst e
    exact hb
  have HD : Hid (BReads w (some ⟨ad.block, ad.off + 1, none⟩) (n - 1 - 1) R) := by
    have := (hr.head (show n - 1 ≤ n by omega)).cut (k := 1) (cap := cap) (by omega) (by omega)
    rw [if_neg (by omega), hR] at this
    exact this
  clear hR
  have HR := Lib.hid (hr.head (show n - 1 ≤ n by omega))
  clear hr
  have HN := Lib.hid (show n - 1 ≤ 9223372036854775807 by omega)
  have hw2 : 0 ≤ (n : Int) - 1 := by omega
  have hw4 : (n : Int) - 1 < n := by omega
  have hw5 : (n : Int) - 1 ≤ cap := by omega
  have hw6 : (1 : Int) ≤ n := by omega
  have hw3 : ((n : Int) - 1).toNat = n - 1 := by omega
  have hw1 : IntKind.i64.wrap ((n : Int) - 1) = (n : Int) - 1 := IntWalk.i64_in _ (by omega)
  go_enter Try.func14, Try.ntmps14
  go_wp2
  go_quiet ((go_at_call 16; exact quiet_left (rcheck_any _ _ _ _ _ ((HR.out.alloc _).drewN _) HN.out)))
  clear hw1 hw3
  go_wp2_with (first
    | (go_at_call 25; refine (seq_any _ _).mono ?_; rintro e w' ⟨rfl, rfl⟩)
    | (go_at_call 26; refine (num_any _ _).mono ?_; rintro e w' ⟨rfl, rfl⟩)
    | (at_builtin; refine append_bytes _ rfl (.const (.slice none 0 0)) (.tmp 89) 25 rfl (w.heap.size + 2) 5 Try.info5 Try.underlying25 none 0 0 [] rfl (BOwns.nil _ _ _) _ _ _ R rfl (fun h => by cases h) ?_ ?_ ?_ ?_; exact HD.out.below (by (focus (repeat' (first | (with_reducible exact Below.refl _ _) | (with_reducible assumption) | (with_reducible refine Below.alloc ?_ ?_ _) | (with_reducible refine below_drewN ?_ _) | (with_reducible refine Below.drew ?_) | (with_reducible refine Below.setCell ?_ ?_ _) | omega | (simp; done) | (simp; omega))))); omega; (focus (first | omega | (simp only [World.size_alloc]; done) | (simp only [World.size_alloc]; omega) | (simp; done) | (simp; omega))); intro A2 c2 w2 ho2 hb2; have hB2 := (show Below w.heap.size w _ by (focus (repeat' (first | (with_reducible exact Below.refl _ _) | (with_reducible assumption) | (with_reducible refine Below.alloc ?_ ?_ _) | (with_reducible refine below_drewN ?_ _) | (with_reducible refine Below.drew ?_) | (with_reducible refine Below.setCell ?_ ?_ _) | omega | (simp; done) | (simp; omega))))).trans (hb2.mono (by omega)); have hz2 : w.heap.size + 2 ≤ w2.heap.size := (by have := hb2.size; simp at this; omega); have hk2 := keep_at hb2 w.heap.size (by omega); have hk2' := keep_at hb2 (w.heap.size + 1) (by omega); have hkf2 := keepf_at hb2 w.heap.size (by omega); have hkf2' := keepf_at hb2 (w.heap.size + 1) (by omega); simp only [Nat.zero_add, List.nil_append] at ho2)
    | (go_at_call 10; refine (rvalid_any _ _ _ _ _ _ _).mono ?_; rintro e w3 ⟨rfl, hb3⟩; have ho3 := (ho2.setBelow (p := ⟨w.heap.size + 1, 3, none⟩) (by (focus (first | omega | (simp only [World.size_alloc]; done) | (simp only [World.size_alloc]; omega) | (simp; done) | (simp; omega)))) (.slice A2 (n - 1 - 1) c2)).below hb3; have hB3 := below_call (B := w.heap.size) (a := w) (by (focus (repeat' (first | (with_reducible exact Below.refl _ _) | (with_reducible assumption) | (with_reducible refine Below.alloc ?_ ?_ _) | (with_reducible refine below_drewN ?_ _) | (with_reducible refine Below.drew ?_) | (with_reducible refine Below.setCell ?_ ?_ _) | omega | (simp; done) | (simp; omega))))) hb3 (by (focus (first | omega | (simp only [World.size_alloc]; done) | (simp only [World.size_alloc]; omega) | (simp; done) | (simp; omega)))); have hz3 : w.heap.size + 2 ≤ w3.heap.size := (by have := hb3.size; simp at this; omega); have hk3 := keep_at hb3 w.heap.size (by (focus (first | omega | (simp only [World.size_alloc]; done) | (simp only [World.size_alloc]; omega) | (simp; done) | (simp; omega)))); have hk3' := keep_at hb3 (w.heap.size + 1) (by (focus (first | omega | (simp only [World.size_alloc]; done) | (simp only [World.size_alloc]; omega) | (simp; done) | (simp; omega)))); have hkf3 := keepf_at hb3 w.heap.size (by (focus (first | omega | (simp only [World.size_alloc]; done) | (simp only [World.size_alloc]; omega) | (simp; done) | (simp; omega))))))
  all_goals refine bodyPost_ret (v := .tuple #[.agg #[.int .i64 0, .int .u16 0, .int .u32 0, .slice none 0 0], .int .i64 6]) (by simp [results, Try.results14, go_sem, hk3, hk2, hz2]) rfl ?_
  all_goals exact ⟨_, _, _, rfl, BOwns.nil _ _ _, by (focus (repeat' (first | (with_reducible exact Below.refl _ _) | (with_reducible assumption) | (with_reducible refine Below.alloc ?_ ?_ _) | (with_reducible refine below_drewN ?_ _) | (with_reducible refine Below.drew ?_) | (with_reducible refine Below.setCell ?_ ?_ _) | omega | (simp; done) | (simp; omega))))⟩


end Go.Proofs.Ytbcleifhadkecaa
