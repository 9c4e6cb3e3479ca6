/-
  Read of the reference: a kind with a number; and all the cases together.
-/
import Derived.Test.YtbcleifhadkecaaRReadB
import Derived.BigRegion
set_option linter.unusedSimpArgs false
set_option linter.unusedVariables false
namespace Go.Proofs.Ytbcleifhadkecaa
open Go.RowKit

set_option maxHeartbeats 1600000 in
theorem rread_num_yes (A : Option Addr) (n cap : Nat) (xs R : List Int) (w : World) (hR : (xs.take (n - 1)).drop 1 = R) (hr : BReads w A n xs) (hc : n ≤ cap) (h2 : 2 ≤ n) (hn : n ≤ 65541) (h1 : (chk (xs.take (n - 1)) != nth xs (n - 1)) = false)
    (hs : seqB (nth xs 0) = false) (hm : numB (nth xs 0) = true) (h7 : 6 ≤ n) (hv : validB (nth xs 0) 0 (be (R.take 4)) (n - 1 - 1 - 4) = true) : Calls Try.prog 14 #[.slice A n cap] w (ReadPost w ⟨0, nth xs 0, 0, (be (R.take 4)), (R.drop 4)⟩) := by
  have b0 : 0 ≤ nth xs 0 ∧ nth xs 0 ≤ 255 := by
    obtain ⟨_, _, _, h⟩ := hr.at_ (show 0 < n by omega)
    exact h
  obtain ⟨ad, rfl, _, h4, h3⟩ := hr.at_ (show n - 1 < n by omega)
  have hcell : ∀ o, (w.alloc o).cell? (ad.add (n - 1)) = some (.int .u8 (nth xs (n - 1))) := fun o => by
    obtain ⟨ad', e, hc', _⟩ := (hr.alloc o).at_ (show n - 1 < n by omega)
    injection e with e
    subst e
    exact hc'
  have hcell0 : ∀ o, (w.alloc o).cell? ad = some (.int .u8 (nth xs 0)) := fun o => by
    obtain ⟨ad', e, hc', _⟩ := (hr.alloc o).at_ (show 0 < n by omega)
    injection e with e
    subst e
    exact hc'
  have hblk : ad.block < w.heap.size := by
    obtain ⟨ad', e, hb, _⟩ := hr.1.2 (show 0 < n by omega)
    injection e with e
    subst e
    exact hb
  have HD : Hid (BReads w (some ⟨ad.block, ad.off + 1, none⟩) (n - 1 - 1) R) := by
    have := (hr.head (show n - 1 ≤ n by omega)).cut (k := 1) (cap := cap) (by omega) (by omega)
    rw [if_neg (by omega), hR] at this
    exact this
  clear hR
  have HR := Lib.hid (hr.head (show n - 1 ≤ n by omega))
  clear hr
  have HN := Lib.hid (show n - 1 ≤ 9223372036854775807 by omega)
  have hw2 : 0 ≤ (n : Int) - 1 := by omega
  have hw4 : (n : Int) - 1 < n := by omega
  have hw5 : (n : Int) - 1 ≤ cap := by omega
  have hw6 : (1 : Int) ≤ n := by omega
  have hw3 : ((n : Int) - 1).toNat = n - 1 := by omega
  have hw1 : IntKind.i64.wrap ((n : Int) - 1) = (n : Int) - 1 := IntWalk.i64_in _ (by omega)
  go_enter Try.func14, Try.ntmps14
  go_wp2
  go_quiet ((go_at_call 16; exact quiet_left (rcheck_any _ _ _ _ _ ((HR.out.alloc _).drewN _) HN.out)))
  clear hw1 hw3
  have hl7 : (4 : Int) ≤ (n : Int) - 1 - 1 := by omega
  have hl8 : ¬ ((n : Int) - 1 - 1 < 4) := by omega
  have r0 := (cell_rest HD.out 0 (by omega)).2
  have c0 : ∀ o nq o', (((w.alloc o).drewN nq).alloc o').cell? ⟨ad.block, ad.off + 1, none⟩ = some (.int .u8 (nth R 0)) := fun o nq o' => (cell_rest (((HD.out.alloc o).drewN nq).alloc o') 0 (by omega)).1
  have r1 := (cell_rest HD.out 1 (by omega)).2
  have c1 : ∀ o nq o', (((w.alloc o).drewN nq).alloc o').cell? ⟨ad.block, ad.off + 1 + 1, none⟩ = some (.int .u8 (nth R 1)) := fun o nq o' => (cell_rest (((HD.out.alloc o).drewN nq).alloc o') 1 (by omega)).1
  have r2 := (cell_rest HD.out 2 (by omega)).2
  have c2 : ∀ o nq o', (((w.alloc o).drewN nq).alloc o').cell? ⟨ad.block, ad.off + 1 + 2, none⟩ = some (.int .u8 (nth R 2)) := fun o nq o' => (cell_rest (((HD.out.alloc o).drewN nq).alloc o') 2 (by omega)).1
  have r3 := (cell_rest HD.out 3 (by omega)).2
  have c3 : ∀ o nq o', (((w.alloc o).drewN nq).alloc o').cell? ⟨ad.block, ad.off + 1 + 3, none⟩ = some (.int .u8 (nth R 3)) := fun o nq o' => (cell_rest (((HD.out.alloc o).drewN nq).alloc o') 3 (by omega)).1
  have HV := Lib.hid (be_four R (by have := HD.out.length; omega))
  have HTb : Hid (∀ W, Below w.heap.size w W → BReads W (some ⟨ad.block, ad.off + 1 + 4, none⟩) (n - 1 - 1 - 4) (R.drop 4)) := fun W hW => by
    have := (HD.out.below hW).cut (k := 4) (cap := cap - 1) (by omega) (by omega)
    rw [if_neg (by omega)] at this
    exact this
  have q0 : (0 : Int) < ((n - 1 - 1 : Nat) : Int) := by omega
  have e0 : IntKind.u32.wrap (nth R 0) = nth R 0 := IntWalk.u32_in _ (by omega)
  have q1 : (1 : Int) < ((n - 1 - 1 : Nat) : Int) := by omega
  have e1 : IntKind.u32.wrap (nth R 1) = nth R 1 := IntWalk.u32_in _ (by omega)
  have q2 : (2 : Int) < ((n - 1 - 1 : Nat) : Int) := by omega
  have e2 : IntKind.u32.wrap (nth R 2) = nth R 2 := IntWalk.u32_in _ (by omega)
  have q3 : (3 : Int) < ((n - 1 - 1 : Nat) : Int) := by omega
  have e3 : IntKind.u32.wrap (nth R 3) = nth R 3 := IntWalk.u32_in _ (by omega)
  have f0 : IntKind.u32.wrap (16777216 * nth R 0) = 16777216 * nth R 0 := IntWalk.u32_in _ (by omega)
  have f1 : IntKind.u32.wrap (65536 * nth R 1) = 65536 * nth R 1 := IntWalk.u32_in _ (by omega)
  have f2 : IntKind.u32.wrap (256 * nth R 2) = 256 * nth R 2 := IntWalk.u32_in _ (by omega)
  have f3 : IntKind.u32.wrap (16777216 * nth R 0 + 65536 * nth R 1) = 16777216 * nth R 0 + 65536 * nth R 1 := IntWalk.u32_in _ (by omega)
  have f4 : IntKind.u32.wrap (16777216 * nth R 0 + 65536 * nth R 1 + 256 * nth R 2) = 16777216 * nth R 0 + 65536 * nth R 1 + 256 * nth R 2 := IntWalk.u32_in _ (by omega)
  have f5 : IntKind.u32.wrap (16777216 * nth R 0 + 65536 * nth R 1 + 256 * nth R 2 + nth R 3) = be (R.take 4) := (IntWalk.u32_in _ (by omega)).trans HV.out
  go_wp2_with (first
    | (go_at_call 25; refine (seq_any _ _).mono ?_; rintro e w' ⟨rfl, rfl⟩)
    | (go_at_call 26; refine (num_any _ _).mono ?_; rintro e w' ⟨rfl, rfl⟩))
  go_region
  clear f0 f1 f2 f3 f4 f5 e0 q0 e1 q1 e2 q2 e3 q3
  go_wp2_with (first
    | (go_at_call 25; refine (seq_any _ _).mono ?_; rintro e w' ⟨rfl, rfl⟩)
    | (go_at_call 26; refine (num_any _ _).mono ?_; rintro e w' ⟨rfl, rfl⟩)
    | (at_builtin; refine append_bytes _ rfl (.const (.slice none 0 0)) (.tmp 89) 25 rfl (w.heap.size + 2) 5 Try.info5 Try.underlying25 none 0 0 [] rfl (BOwns.nil _ _ _) _ _ _ (R.drop 4) rfl (fun h => by cases h) ?_ ?_ ?_ ?_; exact HTb.out _ (by (focus (repeat' (first | (with_reducible exact Below.refl _ _) | (with_reducible assumption) | (with_reducible refine Below.alloc ?_ ?_ _) | (with_reducible refine below_drewN ?_ _) | (with_reducible refine Below.drew ?_) | (with_reducible refine Below.setCell ?_ ?_ _) | omega | (simp; done) | (simp; omega))))); omega; (focus (first | omega | (simp only [World.size_alloc]; done) | (simp only [World.size_alloc]; omega) | (simp; done) | (simp; omega))); intro A2 c2 w2 ho2 hb2; have hB2 := (show Below w.heap.size w _ by (focus (repeat' (first | (with_reducible exact Below.refl _ _) | (with_reducible assumption) | (with_reducible refine Below.alloc ?_ ?_ _) | (with_reducible refine below_drewN ?_ _) | (with_reducible refine Below.drew ?_) | (with_reducible refine Below.setCell ?_ ?_ _) | omega | (simp; done) | (simp; omega))))).trans (hb2.mono (by omega)); have hz2 : w.heap.size + 2 ≤ w2.heap.size := (by have := hb2.size; simp at this; omega); have hk2 := keep_at hb2 w.heap.size (by omega); have hk2' := keep_at hb2 (w.heap.size + 1) (by omega); have hkf2 := keepf_at hb2 w.heap.size (by omega); have hkf2' := keepf_at hb2 (w.heap.size + 1) (by omega); simp only [Nat.zero_add, List.nil_append] at ho2)
    | (go_at_call 10; refine (rvalid_any _ _ _ _ _ _ _).mono ?_; rintro e w3 ⟨rfl, hb3⟩; have ho3 := (ho2.setBelow (p := ⟨w.heap.size + 1, 3, none⟩) (by (focus (first | omega | (simp only [World.size_alloc]; done) | (simp only [World.size_alloc]; omega) | (simp; done) | (simp; omega)))) (.slice A2 (n - 1 - 1 - 4) c2)).below hb3; have hB3 := below_call (B := w.heap.size) (a := w) (by (focus (repeat' (first | (with_reducible exact Below.refl _ _) | (with_reducible assumption) | (with_reducible refine Below.alloc ?_ ?_ _) | (with_reducible refine below_drewN ?_ _) | (with_reducible refine Below.drew ?_) | (with_reducible refine Below.setCell ?_ ?_ _) | omega | (simp; done) | (simp; omega))))) hb3 (by (focus (first | omega | (simp only [World.size_alloc]; done) | (simp only [World.size_alloc]; omega) | (simp; done) | (simp; omega)))); have hz3 : w.heap.size + 2 ≤ w3.heap.size := (by have := hb3.size; simp at this; omega); have hk3 := keep_at hb3 w.heap.size (by (focus (first | omega | (simp only [World.size_alloc]; done) | (simp only [World.size_alloc]; omega) | (simp; done) | (simp; omega)))); have hk3' := keep_at hb3 (w.heap.size + 1) (by (focus (first | omega | (simp only [World.size_alloc]; done) | (simp only [World.size_alloc]; omega) | (simp; done) | (simp; omega)))); have hkf3 := keepf_at hb3 w.heap.size (by (focus (first | omega | (simp only [World.size_alloc]; done) | (simp only [World.size_alloc]; omega) | (simp; done) | (simp; omega))))))
  all_goals refine bodyPost_ret (v := .tuple #[.agg #[.int .i64 (nth xs 0), .int .u16 0, .int .u32 (be (R.take 4)), .slice A2 (n - 1 - 1 - 4) c2], .int .i64 0]) (by simp [results, Try.results14, go_sem, hk3, hk2, hz2]) rfl ?_
  all_goals refine ⟨_, _, _, rfl, ?_, by (focus (repeat' (first | (with_reducible exact Below.refl _ _) | (with_reducible assumption) | (with_reducible refine Below.alloc ?_ ?_ _) | (with_reducible refine below_drewN ?_ _) | (with_reducible refine Below.drew ?_) | (with_reducible refine Below.setCell ?_ ?_ _) | omega | (simp; done) | (simp; omega))))⟩
  all_goals refine BOwns.more (base := w.heap.size + 2) ?_ (by omega)
  all_goals repeat (refine BOwns.setBelow ?_ (by (focus (first | omega | (simp only [World.size_alloc]; done) | (simp only [World.size_alloc]; omega) | (simp; done) | (simp; omega)))) _)
  all_goals exact ho3

set_option maxHeartbeats 1600000 in
theorem rread_num_no (A : Option Addr) (n cap : Nat) (xs R : List Int) (w : World) (hR : (xs.take (n - 1)).drop 1 = R) (hr : BReads w A n xs) (hc : n ≤ cap) (h2 : 2 ≤ n) (hn : n ≤ 65541) (h1 : (chk (xs.take (n - 1)) != nth xs (n - 1)) = false)
    (hs : seqB (nth xs 0) = false) (hm : numB (nth xs 0) = true) (h7 : 6 ≤ n) (hv : validB (nth xs 0) 0 (be (R.take 4)) (n - 1 - 1 - 4) = false) : Calls Try.prog 14 #[.slice A n cap] w (ReadPost w (rdNo 6)) := by
  have b0 : 0 ≤ nth xs 0 ∧ nth xs 0 ≤ 255 := by
    obtain ⟨_, _, _, h⟩ := hr.at_ (show 0 < n by omega)
    exact h
  obtain ⟨ad, rfl, _, h4, h3⟩ := hr.at_ (show n - 1 < n by omega)
  have hcell : ∀ o, (w.alloc o).cell? (ad.add (n - 1)) = some (.int .u8 (nth xs (n - 1))) := fun o => by
    obtain ⟨ad', e, hc', _⟩ := (hr.alloc o).at_ (show n - 1 < n by omega)
    injection e with e
    subst e
    exact hc'
  have hcell0 : ∀ o, (w.alloc o).cell? ad = some (.int .u8 (nth xs 0)) := fun o => by
    obtain ⟨ad', e, hc', _⟩ := (hr.alloc o).at_ (show 0 < n by omega)
    injection e with e
    subst e
    exact hc'
  have hblk : ad.block < w.heap.size := by
    obtain ⟨ad', e, hb, _⟩ := hr.1.2 (show 0 < n by omega)
    injection e with e
    subst e
    exact hb
  have HD : Hid (BReads w (some ⟨ad.block, ad.off + 1, none⟩) (n - 1 - 1) R) := by
    have := (hr.head (show n - 1 ≤ n by omega)).cut (k := 1) (cap := cap) (by omega) (by omega)
    rw [if_neg (by omega), hR] at this
    exact this
  clear hR
  have HR := Lib.hid (hr.head (show n - 1 ≤ n by omega))
  clear hr
  have HN := Lib.hid (show n - 1 ≤ 9223372036854775807 by omega)
  have hw2 : 0 ≤ (n : Int) - 1 := by omega
  have hw4 : (n : Int) - 1 < n := by omega
  have hw5 : (n : Int) - 1 ≤ cap := by omega
  have hw6 : (1 : Int) ≤ n := by omega
  have hw3 : ((n : Int) - 1).toNat = n - 1 := by omega
  have hw1 : IntKind.i64.wrap ((n : Int) - 1) = (n : Int) - 1 := IntWalk.i64_in _ (by omega)
  go_enter Try.func14, Try.ntmps14
  go_wp2
  go_quiet ((go_at_call 16; exact quiet_left (rcheck_any _ _ _ _ _ ((HR.out.alloc _).drewN _) HN.out)))
  clear hw1 hw3
  have hl7 : (4 : Int) ≤ (n : Int) - 1 - 1 := by omega
  have hl8 : ¬ ((n : Int) - 1 - 1 < 4) := by omega
  have r0 := (cell_rest HD.out 0 (by omega)).2
  have c0 : ∀ o nq o', (((w.alloc o).drewN nq).alloc o').cell? ⟨ad.block, ad.off + 1, none⟩ = some (.int .u8 (nth R 0)) := fun o nq o' => (cell_rest (((HD.out.alloc o).drewN nq).alloc o') 0 (by omega)).1
  have r1 := (cell_rest HD.out 1 (by omega)).2
  have c1 : ∀ o nq o', (((w.alloc o).drewN nq).alloc o').cell? ⟨ad.block, ad.off + 1 + 1, none⟩ = some (.int .u8 (nth R 1)) := fun o nq o' => (cell_rest (((HD.out.alloc o).drewN nq).alloc o') 1 (by omega)).1
  have r2 := (cell_rest HD.out 2 (by omega)).2
  have c2 : ∀ o nq o', (((w.alloc o).drewN nq).alloc o').cell? ⟨ad.block, ad.off + 1 + 2, none⟩ = some (.int .u8 (nth R 2)) := fun o nq o' => (cell_rest (((HD.out.alloc o).drewN nq).alloc o') 2 (by omega)).1
  have r3 := (cell_rest HD.out 3 (by omega)).2
  have c3 : ∀ o nq o', (((w.alloc o).drewN nq).alloc o').cell? ⟨ad.block, ad.off + 1 + 3, none⟩ = some (.int .u8 (nth R 3)) := fun o nq o' => (cell_rest (((HD.out.alloc o).drewN nq).alloc o') 3 (by omega)).1
  have HV := Lib.hid (be_four R (by have := HD.out.length; omega))
  have HTb : Hid (∀ W, Below w.heap.size w W → BReads W (some ⟨ad.block, ad.off + 1 + 4, none⟩) (n - 1 - 1 - 4) (R.drop 4)) := fun W hW => by
    have := (HD.out.below hW).cut (k := 4) (cap := cap - 1) (by omega) (by omega)
    rw [if_neg (by omega)] at this
    exact this
  have q0 : (0 : Int) < ((n - 1 - 1 : Nat) : Int) := by omega
  have e0 : IntKind.u32.wrap (nth R 0) = nth R 0 := IntWalk.u32_in _ (by omega)
  have q1 : (1 : Int) < ((n - 1 - 1 : Nat) : Int) := by omega
  have e1 : IntKind.u32.wrap (nth R 1) = nth R 1 := IntWalk.u32_in _ (by omega)
  have q2 : (2 : Int) < ((n - 1 - 1 : Nat) : Int) := by omega
  have e2 : IntKind.u32.wrap (nth R 2) = nth R 2 := IntWalk.u32_in _ (by omega)
  have q3 : (3 : Int) < ((n - 1 - 1 : Nat) : Int) := by omega
  have e3 : IntKind.u32.wrap (nth R 3) = nth R 3 := IntWalk.u32_in _ (by omega)
  have f0 : IntKind.u32.wrap (16777216 * nth R 0) = 16777216 * nth R 0 := IntWalk.u32_in _ (by omega)
  have f1 : IntKind.u32.wrap (65536 * nth R 1) = 65536 * nth R 1 := IntWalk.u32_in _ (by omega)
  have f2 : IntKind.u32.wrap (256 * nth R 2) = 256 * nth R 2 := IntWalk.u32_in _ (by omega)
  have f3 : IntKind.u32.wrap (16777216 * nth R 0 + 65536 * nth R 1) = 16777216 * nth R 0 + 65536 * nth R 1 := IntWalk.u32_in _ (by omega)
  have f4 : IntKind.u32.wrap (16777216 * nth R 0 + 65536 * nth R 1 + 256 * nth R 2) = 16777216 * nth R 0 + 65536 * nth R 1 + 256 * nth R 2 := IntWalk.u32_in _ (by omega)
  have f5 : IntKind.u32.wrap (16777216 * nth R 0 + 65536 * nth R 1 + 256 * nth R 2 + nth R 3) = be (R.take 4) := (IntWalk.u32_in _ (by omega)).trans HV.out
  go_wp2_with (first
    | (go_at_call 25; refine (seq_any _ _).mono ?_; rintro e w' ⟨rfl, rfl⟩)
    | (go_at_call 26; refine (num_any _ _).mono ?_; rintro e w' ⟨rfl, rfl⟩))
  go_region
  clear f0 f1 f2 f3 f4 f5 e0 q0 e1 q1 e2 q2 e3 q3
  go_wp2_with (first
    | (go_at_call 25; refine (seq_any _ _).mono ?_; rintro e w' ⟨rfl, rfl⟩)
    | (go_at_call 26; refine (num_any _ _).mono ?_; rintro e w' ⟨rfl, rfl⟩)
    | (at_builtin; refine append_bytes _ rfl (.const (.slice none 0 0)) (.tmp 89) 25 rfl (w.heap.size + 2) 5 Try.info5 Try.underlying25 none 0 0 [] rfl (BOwns.nil _ _ _) _ _ _ (R.drop 4) rfl (fun h => by cases h) ?_ ?_ ?_ ?_; exact HTb.out _ (by (focus (repeat' (first | (with_reducible exact Below.refl _ _) | (with_reducible assumption) | (with_reducible refine Below.alloc ?_ ?_ _) | (with_reducible refine below_drewN ?_ _) | (with_reducible refine Below.drew ?_) | (with_reducible refine Below.setCell ?_ ?_ _) | omega | (simp; done) | (simp; omega))))); omega; (focus (first | omega | (simp only [World.size_alloc]; done) | (simp only [World.size_alloc]; omega) | (simp; done) | (simp; omega))); intro A2 c2 w2 ho2 hb2; have hB2 := (show Below w.heap.size w _ by (focus (repeat' (first | (with_reducible exact Below.refl _ _) | (with_reducible assumption) | (with_reducible refine Below.alloc ?_ ?_ _) | (with_reducible refine below_drewN ?_ _) | (with_reducible refine Below.drew ?_) | (with_reducible refine Below.setCell ?_ ?_ _) | omega | (simp; done) | (simp; omega))))).trans (hb2.mono (by omega)); have hz2 : w.heap.size + 2 ≤ w2.heap.size := (by have := hb2.size; simp at this; omega); have hk2 := keep_at hb2 w.heap.size (by omega); have hk2' := keep_at hb2 (w.heap.size + 1) (by omega); have hkf2 := keepf_at hb2 w.heap.size (by omega); have hkf2' := keepf_at hb2 (w.heap.size + 1) (by omega); simp only [Nat.zero_add, List.nil_append] at ho2)
    | (go_at_call 10; refine (rvalid_any _ _ _ _ _ _ _).mono ?_; rintro e w3 ⟨rfl, hb3⟩; have ho3 := (ho2.setBelow (p := ⟨w.heap.size + 1, 3, none⟩) (by (focus (first | omega | (simp only [World.size_alloc]; done) | (simp only [World.size_alloc]; omega) | (simp; done) | (simp; omega)))) (.slice A2 (n - 1 - 1 - 4) c2)).below hb3; have hB3 := below_call (B := w.heap.size) (a := w) (by (focus (repeat' (first | (with_reducible exact Below.refl _ _) | (with_reducible assumption) | (with_reducible refine Below.alloc ?_ ?_ _) | (with_reducible refine below_drewN ?_ _) | (with_reducible refine Below.drew ?_) | (with_reducible refine Below.setCell ?_ ?_ _) | omega | (simp; done) | (simp; omega))))) hb3 (by (focus (first | omega | (simp only [World.size_alloc]; done) | (simp only [World.size_alloc]; omega) | (simp; done) | (simp; omega)))); have hz3 : w.heap.size + 2 ≤ w3.heap.size := (by have := hb3.size; simp at this; omega); have hk3 := keep_at hb3 w.heap.size (by (focus (first | omega | (simp only [World.size_alloc]; done) | (simp only [World.size_alloc]; omega) | (simp; done) | (simp; omega)))); have hk3' := keep_at hb3 (w.heap.size + 1) (by (focus (first | omega | (simp only [World.size_alloc]; done) | (simp only [World.size_alloc]; omega) | (simp; done) | (simp; omega)))); have hkf3 := keepf_at hb3 w.heap.size (by (focus (first | omega | (simp only [World.size_alloc]; done) | (simp only [World.size_alloc]; omega) | (simp; done) | (simp; omega))))))
  all_goals refine bodyPost_ret (v := .tuple #[.agg #[.int .i64 0, .int .u16 0, .int .u32 0, .slice none 0 0], .int .i64 6]) (by simp [results, Try.results14, go_sem, hk3, hk2, hz2]) rfl ?_
  all_goals exact ⟨_, _, _, rfl, BOwns.nil _ _ _, by (focus (repeat' (first | (with_reducible exact Below.refl _ _) | (with_reducible assumption) | (with_reducible refine Below.alloc ?_ ?_ _) | (with_reducible refine below_drewN ?_ _) | (with_reducible refine Below.drew ?_) | (with_reducible refine Below.setCell ?_ ?_ _) | omega | (simp; done) | (simp; omega))))⟩

/-- Read of the reference gives what 'rd' says. -/
theorem rread_any (A : Option Addr) (n cap : Nat) (xs : List Int) (w : World) (hr : BReads w A n xs) (hc : n ≤ cap) : Calls Try.prog 14 #[.slice A n cap] w (ReadPost w (rd xs)) := by
  have hl := hr.length
  unfold rd
  rw [hl]
  by_cases h0 : 65541 < n
  · rw [if_pos h0]
    exact rread_long A n cap w h0
  rw [if_neg h0]
  by_cases h1 : n < 2
  · rw [if_pos h1]
    exact rread_short A n cap w h1
  rw [if_neg h1]
  by_cases h2 : chk (xs.take (n - 1)) ≠ nth xs (n - 1)
  · rw [if_pos h2]
    exact rread_check A n cap xs _ w rfl hr hc (by omega) (by omega) (by simpa using h2)
  rw [if_neg h2]
  have h3 : (chk (xs.take (n - 1)) != nth xs (n - 1)) = false := by simpa using h2
  have hR : ((xs.take (n - 1)).drop 1).length = n - 1 - 1 := by simp; omega
  generalize hR' : (xs.take (n - 1)).drop 1 = R at *
  unfold rdBody
  rw [hR]
  have h4 : 2 ≤ n := by omega
  have h5 : n ≤ 65541 := by omega
  rcases hs : seqB (nth xs 0) with _ | _
  · rcases hm : numB (nth xs 0) with _ | _
    · simp only [Bool.false_eq_true, false_and, or_self, if_false]
      rw [hR]
      rcases hv : validB (nth xs 0) 0 0 (n - 1 - 1) with _ | _
      · rw [if_neg (by simp)]
        exact rread_plain_no A n cap xs R w hR' hr hc h4 h5 h3 hs hm hv
      · rw [if_pos rfl]
        exact rread_plain_yes A n cap xs R w hR' hr hc h4 h5 h3 hs hm hv
    · simp only [Bool.false_eq_true, false_and, false_or, true_and, if_false, if_true]
      by_cases h6 : n - 1 - 1 < 4
      · rw [if_pos h6]
        exact rread_num_fmt A n cap xs R w hR' hr hc h4 h5 h3 hs hm (by omega)
      rw [if_neg h6, List.length_drop, hR]
      rcases hv : validB (nth xs 0) 0 (be (R.take 4)) (n - 1 - 1 - 4) with _ | _
      · rw [if_neg (by simp)]
        exact rread_num_no A n cap xs R w hR' hr hc h4 h5 h3 hs hm (by omega) hv
      · rw [if_pos rfl]
        exact rread_num_yes A n cap xs R w hR' hr hc h4 h5 h3 hs hm (by omega) hv
  · have hm := seq_num _ hs
    simp only [hm, Bool.false_eq_true, false_and, or_false, true_and, if_false, if_true]
    by_cases h6 : n - 1 - 1 < 2
    · rw [if_pos h6]
      exact rread_seq_fmt A n cap xs R w hR' hr hc h4 h5 h3 hs hm (by omega)
    rw [if_neg h6, List.length_drop, hR]
    rcases hv : validB (nth xs 0) (be (R.take 2)) 0 (n - 1 - 1 - 2) with _ | _
    · rw [if_neg (by simp)]
      exact rread_seq_no A n cap xs R w hR' hr hc h4 h5 h3 hs hm (by omega) hv
    · rw [if_pos rfl]
      exact rread_seq_yes A n cap xs R w hR' hr hc h4 h5 h3 hs hm (by omega) hv

end Go.Proofs.Ytbcleifhadkecaa
