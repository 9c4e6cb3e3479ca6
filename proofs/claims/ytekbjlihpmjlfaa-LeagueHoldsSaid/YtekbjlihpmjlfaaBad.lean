/-
  bad, ahead: the law's own error, and which row is ahead.
-/
import Derived.Test.YtekbjlihpmjlfaaSco
set_option linter.unusedSimpArgs false
set_option linter.unusedVariables false
namespace Go.Proofs.Ytekbjlihpmjlfaa
open Go.RowKit

set_option maxHeartbeats 1600000 in
theorem ahead_any (x y : Rw) (w : World) : Calls Try.prog 12 #[.agg x.cells.toArray, .agg y.cells.toArray] w fun e w' => e = .returned (.bool (decide (Ahead x y))) ∧ Below w.heap.size w w' := by
  obtain ⟨x0, x1, x2, x3, x4, x5⟩ := x
  obtain ⟨y0, y1, y2, y3, y4, y5⟩ := y
  simp only [Rw.cells]
  obtain ⟨s, hs⟩ : ∃ s, decide (Ahead ⟨x0, x1, x2, x3, x4, x5⟩ ⟨y0, y1, y2, y3, y4, y5⟩) = s := ⟨_, rfl⟩
  rw [hs]
  by_cases h1 : x1 = y1
  · by_cases h2 : x2 = y2
    · by_cases h3 : x3 = y3
      · have HS : Hid (s = decide (x0 < y0)) := Lib.hid (by rw [← hs, decide_eq_decide]; unfold Ahead; simp only; omega)
        have e1 : (x1 == y1) = true := by rw [beq_iff_eq]; exact h1
        have e2 : (x2 == y2) = true := by rw [beq_iff_eq]; exact h2
        have e3 : (x3 == y3) = true := by rw [beq_iff_eq]; exact h3
        clear hs h1 h2 h3
        go_enter Try.func12, Try.ntmps12
        go_wp2
        go_ret
        exact ⟨by rw [HS.out]; rfl, by (focus (repeat' (first | (with_reducible exact Below.refl _ _) | (with_reducible assumption) | (with_reducible refine Below.alloc ?_ ?_ _) | (with_reducible refine below_drewN ?_ _) | (with_reducible refine Below.drew ?_) | (with_reducible refine Below.setCell ?_ ?_ _) | omega | (simp; done) | (simp; omega))))⟩
      · have HS : Hid (s = decide (y3 < x3)) := Lib.hid (by rw [← hs, decide_eq_decide]; unfold Ahead; simp only; omega)
        have e1 : (x1 == y1) = true := by rw [beq_iff_eq]; exact h1
        have e2 : (x2 == y2) = true := by rw [beq_iff_eq]; exact h2
        have e3 : (x3 == y3) = false := by rw [beq_eq_false_iff_ne]; exact h3
        clear hs h1 h2 h3
        go_enter Try.func12, Try.ntmps12
        go_wp2
        go_ret
        exact ⟨by rw [HS.out]; rfl, by (focus (repeat' (first | (with_reducible exact Below.refl _ _) | (with_reducible assumption) | (with_reducible refine Below.alloc ?_ ?_ _) | (with_reducible refine below_drewN ?_ _) | (with_reducible refine Below.drew ?_) | (with_reducible refine Below.setCell ?_ ?_ _) | omega | (simp; done) | (simp; omega))))⟩
    · have HS : Hid (s = decide (y2 < x2)) := Lib.hid (by rw [← hs, decide_eq_decide]; unfold Ahead; simp only; omega)
      have e1 : (x1 == y1) = true := by rw [beq_iff_eq]; exact h1
      have e2 : (x2 == y2) = false := by rw [beq_eq_false_iff_ne]; exact h2
      clear hs h1 h2
      go_enter Try.func12, Try.ntmps12
      go_wp2
      go_ret
      exact ⟨by rw [HS.out]; rfl, by (focus (repeat' (first | (with_reducible exact Below.refl _ _) | (with_reducible assumption) | (with_reducible refine Below.alloc ?_ ?_ _) | (with_reducible refine below_drewN ?_ _) | (with_reducible refine Below.drew ?_) | (with_reducible refine Below.setCell ?_ ?_ _) | omega | (simp; done) | (simp; omega))))⟩
  · have HS : Hid (s = decide (y1 < x1)) := Lib.hid (by rw [← hs, decide_eq_decide]; unfold Ahead; simp only; omega)
    have e1 : (x1 == y1) = false := by rw [beq_eq_false_iff_ne]; exact h1
    clear hs h1
    go_enter Try.func12, Try.ntmps12
    go_wp2
    go_ret
    exact ⟨by rw [HS.out]; rfl, by (focus (repeat' (first | (with_reducible exact Below.refl _ _) | (with_reducible assumption) | (with_reducible refine Below.alloc ?_ ?_ _) | (with_reducible refine below_drewN ?_ _) | (with_reducible refine Below.drew ?_) | (with_reducible refine Below.setCell ?_ ?_ _) | omega | (simp; done) | (simp; omega))))⟩

set_option maxHeartbeats 1600000 in
theorem lbad_any (n : Int) (A : Option Addr) (len c : Nat) (l : List Gm) (w : World) (hx : Reads w 3 A len (gcells l)) :
    Calls Try.prog 10 #[.int .i64 n, .slice A len c] w fun e w' => e = .returned (.int .i64 (errS n l)) ∧ Below w.heap.size w w' := by
  have HX := Lib.hid hx
  have hll := glen hx
  have HL := Lib.hid hll
  clear hx
  by_cases h0 : 2000 < len
  · have HE : Hid (errS n l = 5) := Lib.hid (by unfold errS; rw [if_pos (by omega)])
    have h0' : (2000 : Int) < len := by omega
    clear hll
    go_enter Try.func10, Try.ntmps10
    go_wp2
    go_ret
    exact ⟨by rw [HE.out]; rfl, by (focus (repeat' (first | (with_reducible exact Below.refl _ _) | (with_reducible assumption) | (with_reducible refine Below.alloc ?_ ?_ _) | (with_reducible refine below_drewN ?_ _) | (with_reducible refine Below.drew ?_) | (with_reducible refine Below.setCell ?_ ?_ _) | omega | (simp; done) | (simp; omega))))⟩
  have h0' : decide ((2000 : Int) < len) = false := decide_eq_false (by omega)
  have HLE : Hid (l.length ≤ 2000) := Lib.hid (by omega)
  clear hll
  go_enter Try.func10, Try.ntmps10
  go_wp2
  go_loopw [5] (fun i W => ∃ k : Nat, k ≤ len ∧ i = .int .i64 k ∧ Hid (∀ g ∈ l.take k, GOk n g) ∧ Below w.heap.size w W) (fun i _ => len - (intOf i).toNat)
  case atStart => exact ⟨0, Nat.zero_le _, rfl, Lib.hid (fun g h => by simp at h), Below.refl _ _⟩
  case round =>
    obtain ⟨k, hk, rfl, HE, hB⟩ := hrel
    by_cases hlt : k < len
    · have hlt' : (k : Int) < len := by omega
      obtain ⟨ad, rfl, -, c0, c1, c2⟩ := game_at (HX.out.below hB) hlt
      have HTK := Lib.hid (gtake_snoc (l := l) (k := k) (by rw [HL.out]; exact hlt))
      have HIN : Hid (gth l k ∈ l) := Lib.hid (List.mem_of_getElem? (gth_get (by rw [HL.out]; exact hlt)))
      have HB' : Hid (∀ cs, Below w.heap.size w (wr.alloc (.cells cs 30))) := Lib.hid fun cs => hB.alloc hB.size _
      generalize gth l k = g at *
      by_cases hok : GOk n g
      · have HN : Hid (∀ g ∈ l.take (k + 1), GOk n g) := Lib.hid (by
          rw [HTK.out]
          intro q hq
          rcases List.mem_append.1 hq with hq | hq
          · exact HE.out q hq
          · rw [List.mem_singleton] at hq
            rw [hq]; exact hok)
        obtain ⟨g1, g2, g3, g4, g5, g6, g7⟩ := hok
        obtain ⟨a, b, o⟩ := g
        simp only at g1 g2 g3 g4 g5 g6 g7 c0 c1 c2
        have e1 : decide (a < 0) = false := decide_eq_false (by omega)
        have e2 : decide (n ≤ a) = false := decide_eq_false (by omega)
        have e3 : decide (b < 0) = false := decide_eq_false (by omega)
        have e4 : decide (n ≤ b) = false := decide_eq_false (by omega)
        have e5 : (a == b) = false := by rw [beq_eq_false_iff_ne]; exact g5
        have e6 : decide (o < 1) = false := decide_eq_false (by omega)
        have e7 : decide (3 < o) = false := decide_eq_false (by omega)
        clear g1 g2 g3 g4 g5 g6 g7
        go_wp2
        go_roundw
        case rel => exact ⟨k + 1, hlt, by go_num, HN, HB'.out _⟩
        case measure => simp [intOf]; omega
      · have HEE : Hid (errS n l = 2) := Lib.hid (by
          unfold errS
          rw [if_neg (by have := HLE.out; omega)]
          split
          · rfl
          · rw [if_neg]
            rw [List.all_eq_true]
            intro h
            exact hok (of_decide_eq_true (h _ HIN.out)))
        obtain ⟨a, b, o⟩ := g
        simp only at c0 c1 c2
        have hcs : (a < 0) ∨ (decide (a < 0) = false ∧ n ≤ a) ∨ (decide (a < 0) = false ∧ decide (n ≤ a) = false ∧ b < 0) ∨ (decide (a < 0) = false ∧ decide (n ≤ a) = false ∧ decide (b < 0) = false ∧ n ≤ b) ∨
            (decide (a < 0) = false ∧ decide (n ≤ a) = false ∧ decide (b < 0) = false ∧ decide (n ≤ b) = false ∧ (a == b) = true) ∨
            (decide (a < 0) = false ∧ decide (n ≤ a) = false ∧ decide (b < 0) = false ∧ decide (n ≤ b) = false ∧ (a == b) = false ∧ o < 1) ∨
            (decide (a < 0) = false ∧ decide (n ≤ a) = false ∧ decide (b < 0) = false ∧ decide (n ≤ b) = false ∧ (a == b) = false ∧ decide (o < 1) = false ∧ 3 < o) := by
          unfold GOk at hok
          simp only [decide_eq_false_iff_not, beq_iff_eq, beq_eq_false_iff_ne] at hok ⊢
          omega
        clear hok
        rcases hcs with h1 | ⟨h1, h2⟩ | ⟨h1, h2, h3⟩ | ⟨h1, h2, h3, h4⟩ | ⟨h1, h2, h3, h4, h5⟩ | ⟨h1, h2, h3, h4, h5, h6⟩ | ⟨h1, h2, h3, h4, h5, h6, h7⟩
        all_goals
          go_wp2
          go_ret
          exact ⟨by rw [HEE.out]; rfl, HB'.out _⟩
    · obtain rfl : k = len := by omega
      have HAL : Hid (errS n l = if n < 2 ∨ 40 < n then 2 else 0) := Lib.hid (by
        unfold errS
        rw [if_neg (by have := HLE.out; omega)]
        congr 1
        rw [if_pos]
        rw [List.all_eq_true]
        intro g hg
        refine decide_eq_true (HE.out g ?_)
        rw [List.take_of_length_le (by rw [HL.out]; exact Nat.le_refl _)]
        exact hg)
      by_cases h1 : n < 2
      · have HF : Hid (errS n l = 2) := Lib.hid (by rw [HAL.out, if_pos (.inl h1)])
        go_wp2
        go_ret
        exact ⟨by rw [HF.out]; rfl, hB⟩
      · have h1' : decide (n < 2) = false := decide_eq_false h1
        by_cases h2 : 40 < n
        · have HF : Hid (errS n l = 2) := Lib.hid (by rw [HAL.out, if_pos (.inr h2)])
          clear h1
          go_wp2
          go_ret
          exact ⟨by rw [HF.out]; rfl, hB⟩
        · have h2' : decide (40 < n) = false := decide_eq_false h2
          have HF : Hid (errS n l = 0) := Lib.hid (by rw [HAL.out, if_neg (by omega)])
          clear h1 h2
          go_wp2
          go_ret
          exact ⟨by rw [HF.out]; rfl, hB⟩
end Go.Proofs.Ytekbjlihpmjlfaa
