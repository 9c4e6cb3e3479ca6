/-
  score: the points of a player in a game.
-/
import Derived.Test.YtekbjlihpmjlfaaKnown
set_option linter.unusedSimpArgs false
set_option linter.unusedVariables false
namespace Go.Proofs.Ytekbjlihpmjlfaa
open Go.RowKit

set_option maxHeartbeats 800000 in
theorem score_any (g : Gm) (p : Int) (w : World) : Calls Try.prog 16 #[.agg #[.int .i64 g.a, .int .i64 g.b, .int .i64 g.o], .int .i64 p] w fun e w' => e = .returned (.int .i64 (scS g p)) ∧ Below w.heap.size w w' := by
  obtain ⟨a, b, o⟩ := g
  simp only
  obtain ⟨s, hs⟩ : ∃ s, scS ⟨a, b, o⟩ p = s := ⟨_, rfl⟩
  rw [hs]
  have HS := Lib.hid hs
  clear hs
  go_enter Try.func16, Try.ntmps16
  go_wp2
  all_goals go_ret
  all_goals refine ⟨?_, by (focus (repeat' (first | (with_reducible exact Below.refl _ _) | (with_reducible assumption) | (with_reducible refine Below.alloc ?_ ?_ _) | (with_reducible refine below_drewN ?_ _) | (with_reducible refine Below.drew ?_) | (with_reducible refine Below.setCell ?_ ?_ _) | omega | (simp; done) | (simp; omega))))⟩
  all_goals
    rw [← HS.out]
    clear HS
    congr 2
    unfold scS Inv
    by_cases ha : a = p <;> by_cases hb : b = p <;> by_cases h3 : o = 3 <;> by_cases h1 : o = 1 <;> simp_all
  all_goals
    exfalso
    rename_i hh
    refine hh ?_
    rw [beq_eq_false_iff_ne.2 (by assumption), beq_eq_false_iff_ne.2 (by assumption)]
set_option maxHeartbeats 800000 in
theorem sum_any (A : Option Addr) (len c : Nat) (l : List Gm) (p : Int) (w : World) (hx : Reads w 3 A len (gcells l)) (hlen : len ≤ 100000) :
    Calls Try.prog 29 #[.slice A len c, .int .i64 p] w fun e w' => e = .returned (.int .i64 (sumS l p)) ∧ Below w.heap.size w w' := by
  have HX := Lib.hid hx
  have HL := Lib.hid (glen hx)
  clear hx
  go_enter Try.func29, Try.ntmps29
  go_wp2
  go_loopw [5, 6] (fun o i W => ∃ (k : Nat) (s : Int), k ≤ len ∧ o = .int .i64 s ∧ i = .int .i64 k ∧ s = sumS (l.take k) p ∧ 0 ≤ s ∧ s ≤ 3 * (k : Int) ∧ Below w.heap.size w W) (fun _ i _ => len - (intOf i).toNat)
  case atStart => exact ⟨0, 0, Nat.zero_le _, rfl, rfl, rfl, by omega, by omega, Below.refl _ _⟩
  case round =>
    obtain ⟨k, s, hk, rfl, rfl, hs, h0, h3, hB⟩ := hrel
    have HS := Lib.hid hs
    clear hs
    by_cases hlt : k < len
    · have hlt' : (k : Int) < len := by omega
      obtain ⟨ad, rfl, -, c0, c1, c2⟩ := game_at (HX.out.below hB) hlt
      have HTK := Lib.hid (gtake_snoc (l := l) (k := k) (by rw [HL.out]; exact hlt))
      generalize gth l k = g at *
      have hsc := scS_bd g p
      go_wp2_with fail
      refine (score_any g p _).mono ?_
      rintro e w5 ⟨rfl, hb5⟩
      have HQ : Hid (s + scS g p = sumS (l.take (k + 1)) p) := Lib.hid (by rw [HTK.out, sumS_snoc, HS.out])
      generalize scS g p = q at *
      go_wp2
      go_roundw
      case rel => exact ⟨k + 1, s + q, hlt, rfl, by go_num, HQ.out, by omega, by omega, below_call hB hb5 hB.size⟩
      case measure => simp [intOf]; omega
    · obtain rfl : k = len := by omega
      go_wp2
      go_ret
      refine ⟨?_, hB⟩
      have h := HS.out
      rw [List.take_of_length_le (by rw [HL.out]; exact Nat.le_refl _)] at h
      rw [h]
      rfl
end Go.Proofs.Ytekbjlihpmjlfaa
