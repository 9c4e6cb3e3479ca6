/-
  nil and zero tournaments.
-/
import Derived.Test.YtngcmihaheiigaaKnown
set_option linter.unusedSimpArgs false
set_option linter.unusedVariables false
namespace Go.Proofs.Ytngcmihaheiigaa
open Go.RowKit

/-- nil, or a zero tournament. -/
def ZP (w : World) (p : Option Addr) : Prop := p = none ∨ ∃ g, p = some ⟨g, 0, none⟩ ∧ w.cell? ⟨g, 0, none⟩ = some (.slice none 0 0)
theorem zcell_lt {w : World} {a : Addr} {v : Value} (h : w.cell? a = some v) : a.block < w.heap.size := by
  rcases Nat.lt_or_ge a.block w.heap.size with h' | h'
  · exact h'
  · simp [World.cell?, Array.getElem?_eq_none h'] at h
theorem ZP.below {w w' : World} {p : Option Addr} (h : ZP w p) (hb : Below w.heap.size w w') : ZP w' p := by
  rcases h with h | ⟨g, h1, h2⟩
  · exact .inl h
  · exact .inr ⟨g, h1, (hb.cell (p := ⟨g, 0, none⟩) (zcell_lt h2)).trans h2⟩
theorem none_t (p : Option Addr) (w : World) (h : ZP w p) : Calls Try.prog 25 #[.pointer p] w fun e w' => e = .returned (.bool true) ∧ w = w' := by
  rcases h with rfl | ⟨g, rfl, hc⟩
  · go_enter Try.func25, Try.ntmps25
    go_wp2
    go_ret
    exact ⟨rfl, rfl⟩
  · go_enter Try.func25, Try.ntmps25
    go_wp2
    go_ret
    exact ⟨rfl, rfl⟩
theorem z_start (p : Option Addr) (w : World) (h : ZP w p) : Calls Try.prog 10 #[.pointer p] w fun e w' => e = .returned (.tuple #[.slice none 0 0, .int .i64 1]) ∧ w = w' := by
  have H := Lib.hid h
  clear h
  go_enter Try.func10, Try.ntmps10
  go_wp2_with (go_at_call 25; refine (none_t p _ H.out).mono ?_; rintro e w1 ⟨rfl, rfl⟩)
  go_ret2
  exact ⟨rfl, rfl⟩
theorem z_report (p : Option Addr) (d s : Int) (w : World) (h : ZP w p) : Calls Try.prog 11 #[.pointer p, .int .i64 d, .int .i64 s] w fun e w' => e = .returned (.int .i64 1) ∧ w = w' := by
  have H := Lib.hid h
  clear h
  go_enter Try.func11, Try.ntmps11
  go_wp2_with (go_at_call 25; refine (none_t p _ H.out).mono ?_; rintro e w1 ⟨rfl, rfl⟩)
  go_ret
  exact ⟨rfl, rfl⟩
theorem z_close (p : Option Addr) (w : World) (h : ZP w p) : Calls Try.prog 12 #[.pointer p] w fun e w' => e = .returned (.int .i64 1) ∧ w = w' := by
  have H := Lib.hid h
  clear h
  go_enter Try.func12, Try.ntmps12
  go_wp2_with (go_at_call 25; refine (none_t p _ H.out).mono ?_; rintro e w1 ⟨rfl, rfl⟩)
  go_ret
  exact ⟨rfl, rfl⟩
theorem z_points (p : Option Addr) (w : World) (h : ZP w p) : Calls Try.prog 13 #[.pointer p] w fun e w' => e = .returned (.slice none 0 0) ∧ w = w' := by
  have H := Lib.hid h
  clear h
  go_enter Try.func13, Try.ntmps13
  go_wp2_with (go_at_call 25; refine (none_t p _ H.out).mono ?_; rintro e w1 ⟨rfl, rfl⟩)
  go_ret
  exact ⟨rfl, rfl⟩
theorem z_order (p : Option Addr) (w : World) (h : ZP w p) : Calls Try.prog 20 #[.pointer p] w fun e w' => e = .returned (.slice none 0 0) ∧ Below w.heap.size w w' := by
  have H := Lib.hid h
  clear h
  go_enter Try.func20, Try.ntmps20
  go_wp2_with (go_at_call 25; refine (none_t p _ (H.out.below (by (focus (repeat' (first | (with_reducible exact Below.refl _ _) | (with_reducible assumption) | (with_reducible refine Below.alloc ?_ ?_ _) | (with_reducible refine below_drewN ?_ _) | (with_reducible refine Below.drew ?_) | (with_reducible refine Below.setCell ?_ ?_ _) | omega | (simp; done) | (simp; omega))))))).mono ?_; rintro e w1 ⟨rfl, rfl⟩)
  go_ret
  exact ⟨rfl, by (focus (repeat' (first | (with_reducible exact Below.refl _ _) | (with_reducible assumption) | (with_reducible refine Below.alloc ?_ ?_ _) | (with_reducible refine below_drewN ?_ _) | (with_reducible refine Below.drew ?_) | (with_reducible refine Below.setCell ?_ ?_ _) | omega | (simp; done) | (simp; omega))))⟩
theorem z_rounds (p : Option Addr) (w : World) (h : ZP w p) : Calls Try.prog 21 #[.pointer p] w fun e w' => e = .returned (.int .i64 0) ∧ w = w' := by
  have H := Lib.hid h
  clear h
  go_enter Try.func21, Try.ntmps21
  go_wp2_with (go_at_call 25; refine (none_t p _ H.out).mono ?_; rintro e w1 ⟨rfl, rfl⟩)
  go_ret
  exact ⟨rfl, rfl⟩
theorem z_duels (p : Option Addr) (k : Int) (w : World) (h : ZP w p) : Calls Try.prog 22 #[.pointer p, .int .i64 k] w fun e w' => e = .returned (.slice none 0 0) ∧ w = w' := by
  have H := Lib.hid h
  clear h
  go_enter Try.func22, Try.ntmps22
  go_wp2_with (go_at_call 25; refine (none_t p _ H.out).mono ?_; rintro e w1 ⟨rfl, rfl⟩)
  go_ret
  exact ⟨rfl, rfl⟩
theorem z_copy (p : Option Addr) (w : World) (h : ZP w p) : Calls Try.prog 23 #[.pointer p] w fun e w' => e = .returned (.pointer none) ∧ w = w' := by
  have H := Lib.hid h
  clear h
  go_enter Try.func23, Try.ntmps23
  go_wp2_with (go_at_call 25; refine (none_t p _ H.out).mono ?_; rintro e w1 ⟨rfl, rfl⟩)
  go_ret
  exact ⟨rfl, rfl⟩
theorem z_starts (p : Option Addr) (w : World) (h : ZP w p) : Calls Try.prog 16 #[.pointer p, .slice none 0 0, .int .i64 1] w fun e w' => e = .returned (.bool true) ∧ Below w.heap.size w w' := by
  have H := Lib.hid h
  clear h
  go_enter Try.func16, Try.ntmps16
  go_wp2_with (first
    | (go_at_call 10; refine (z_start p _ H.out).mono ?_; rintro e w1 ⟨rfl, rfl⟩)
    | (go_at_call 31; refine (duels_any none none 0 0 0 0 [] [] _ Reads.none_ Reads.none_ (by omega)).mono ?_; rw [decide_eq_true (rfl : ([] : List D) = [])]; rintro e w2 ⟨rfl, hb2⟩)
    | fail)
  go_ret
  exact ⟨rfl, hb2⟩

set_option maxRecDepth 100000 in
set_option maxHeartbeats 1600000 in
theorem none_law (n s : Int) (w : World) : Calls Try.prog 7 #[.int .i64 n, .int .i64 s] w fun e w' => e = .returned (.bool true) ∧ Below w.heap.size w w' := by
  go_enter Try.func7, Try.ntmps7
  go_wp2
  have HZ : Hid (Blk ((w.alloc (.cells #[.slice none 0 0, .slice none 0 0, .slice none 0 0, .bool false] 57)).alloc (.cells #[.pointer none, .pointer (some ⟨w.heap.size, 0, none⟩)] 24)) w.heap.size 57 #[.slice none 0 0, .slice none 0 0, .slice none 0 0, .bool false]) := Lib.hid ((Blk.mk_ _ _ _ _ rfl).alloc _)
  have HS : Hid (Blk ((w.alloc (.cells #[.slice none 0 0, .slice none 0 0, .slice none 0 0, .bool false] 57)).alloc (.cells #[.pointer none, .pointer (some ⟨w.heap.size, 0, none⟩)] 24)) (w.heap.size + 1) 24 #[.pointer none, .pointer (some ⟨w.heap.size, 0, none⟩)]) := Lib.hid (Blk.mk_ _ _ _ _ (by simp))
  have hB : Below w.heap.size w ((w.alloc (.cells #[.slice none 0 0, .slice none 0 0, .slice none 0 0, .bool false] 57)).alloc (.cells #[.pointer none, .pointer (some ⟨w.heap.size, 0, none⟩)] 24)) := by (focus (repeat' (first | (with_reducible exact Below.refl _ _) | (with_reducible assumption) | (with_reducible refine Below.alloc ?_ ?_ _) | (with_reducible refine below_drewN ?_ _) | (with_reducible refine Below.drew ?_) | (with_reducible refine Below.setCell ?_ ?_ _) | omega | (simp; done) | (simp; omega))))
  generalize ((w.alloc (.cells #[.slice none 0 0, .slice none 0 0, .slice none 0 0, .bool false] 57)).alloc (.cells #[.pointer none, .pointer (some ⟨w.heap.size, 0, none⟩)] 24)) = w1 at *
  go_loopw [11] (fun i W => ∃ k : Nat, k ≤ 2 ∧ i = .int .i64 k ∧ Below w1.heap.size w1 W) (fun i _ => 2 - (intOf i).toNat)
  case atStart => exact ⟨0, by omega, rfl, Below.refl _ _⟩
  case round =>
    obtain ⟨k, hk, rfl, hb⟩ := hrel
    by_cases hlt : k < 2
    · obtain ⟨p, hc, hp⟩ : ∃ p : Option Addr, wr.cell? ⟨w.heap.size + 1, k, none⟩ = some (.pointer p) ∧ ZP wr p := by
        have hs := HS.out.call hb
        have hz := HZ.out.call hb
        rcases (show k = 0 ∨ k = 1 by omega) with rfl | rfl
        · exact ⟨none, (hs.at_ 0).trans rfl, .inl rfl⟩
        · exact ⟨_, (hs.at_ 1).trans rfl, .inr ⟨_, rfl, (hz.at_ 0).trans rfl⟩⟩
      have HP := Lib.hid hp
      have hlt' : (k : Int) < 2 := by omega
      have hgs : w.heap.size + 1 < wr.heap.size := (HS.out.call hb).lt
      clear hp
      go_wp2_with (first
        | (go_at_call 16; refine (z_starts p _ HP.out).mono ?_; rintro e w3 ⟨rfl, hb3⟩; have HP3 := Lib.hid (HP.out.below hb3))
        | (go_at_call 11; refine (z_report p n s _ HP3.out).mono ?_; rintro e w4 ⟨rfl, rfl⟩)
        | (go_at_call 12; refine (z_close p _ HP3.out).mono ?_; rintro e w5 ⟨rfl, rfl⟩)
        | (go_at_call 13; refine (z_points p _ HP3.out).mono ?_; rintro e w5 ⟨rfl, rfl⟩)
        | (go_at_call 20; refine (z_order p _ HP3.out).mono ?_; rintro e w6 ⟨rfl, hb6⟩; have HP6 := Lib.hid (HP3.out.below hb6))
        | (go_at_call 21; refine (z_rounds p _ HP6.out).mono ?_; rintro e w5 ⟨rfl, rfl⟩)
        | (go_at_call 22; refine (z_duels p n _ HP6.out).mono ?_; rintro e w5 ⟨rfl, rfl⟩)
        | (go_at_call 23; refine (z_copy p _ HP6.out).mono ?_; rintro e w5 ⟨rfl, rfl⟩)
        | fail)
      go_roundw
      case rel => exact ⟨k + 1, by omega, by go_num, hb.trans ((hb3.trans (hb6.mono hb3.size)).mono hb.size)⟩
      case measure => simp [intOf]; omega
    · obtain rfl : k = 2 := by omega
      go_wp2_with (go_at_call 8; refine (known_any _).mono ?_; rintro e w3 ⟨rfl, hb3⟩)
      go_ret
      exact ⟨rfl, hB.trans ((hb.trans (hb3.mono hb.size)).mono hB.size)⟩
end Go.Proofs.Ytngcmihaheiigaa
