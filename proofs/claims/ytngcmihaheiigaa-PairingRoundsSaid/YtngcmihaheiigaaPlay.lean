/-
  PairingPlays: the walk.
-/
import Derived.Test.YtngcmihaheiigaaStep
import Derived.Test.YtngcmihaheiigaaKnown
set_option linter.unusedSimpArgs false
set_option linter.unusedVariables false
namespace Go.Proofs.Ytngcmihaheiigaa
open Go.RowKit

/-- A call. -/
structure AC where
  a : Int
  d : Int
  s : Int
def AC.cells (c : AC) : List Value := [.int .i64 c.a, .int .i64 c.d, .int .i64 c.s]
theorem act_at {w : World} {A : Option Addr} {n : Nat} {l : List AC} (h : RowR w 3 A n (l.map AC.cells)) {k : Nat} (hk : k < n) : ∃ (ad : Addr) (c : AC), A = some ad ∧ w.cell? (ad.add (k * 3)) = some (.int .i64 c.a) ∧ w.cell? ⟨(ad.add (k * 3)).block, (ad.add (k * 3)).off + 1, none⟩ = some (.int .i64 c.d) ∧ w.cell? ⟨(ad.add (k * 3)).block, (ad.add (k * 3)).off + 2, none⟩ = some (.int .i64 c.s) := by
  obtain ⟨ad, r, e, hb, hr, _, hc⟩ := RowR.at_ h hk
  rw [List.getElem?_map] at hr
  obtain ⟨c, _, rfl⟩ := Option.map_eq_some_iff.1 hr
  exact ⟨ad, c, e, hc 0 _ rfl, part_at 0 (hc 1 _ rfl), part_at 1 (hc 2 _ rfl)⟩
theorem mn0 {w : World} (B : Nat) {n : Nat} (h : 2 ≤ n ∧ n ≤ 14) (hb : B ≤ w.heap.size) : Mn (w.alloc (.cells #[.int .i64 n, .slice none 0 0, .slice none 0 0, .bool false] 45)) B w.heap.size (ts0 n) ⟨none, 0, [], none, 0, []⟩ :=
  ⟨Blk.mk_ _ _ _ _ rfl, hb, XOwns.nil_ _ _ _ _, XOwns.nil_ _ _ _ _, (fun k s l h => by simp at h), (fun k s l h => by simp at h), ts0_ok h⟩
/-- The tournament and the model at the beginning. -/
theorem tm0 {w : World} {B g n : Nat} {x : TC} (hn : 2 ≤ n ∧ n ≤ 14) (h : Tn w B g (ts0 n) x) : TM B g w.heap.size (ts0 n) x (ts0 n) ⟨none, 0, [], none, 0, []⟩ (w.alloc (.cells #[.int .i64 n, .slice none 0 0, .slice none 0 0, .bool false] 45)) :=
  ⟨h.below ((Below.refl _ _).alloc (Nat.le_refl _) _), mn0 B hn (by have := h.base; have := h.blk.lt; omega), fun i hi hm => by
    have := (h.foot i hi).2
    rcases hm with (rfl | hm | hm) | ⟨k, s, hk, _⟩ | ⟨k, s, hk, _⟩
    · omega
    · cases hm
    · cases hm
    · simp at hk
    · simp at hk⟩

set_option maxRecDepth 100000 in
set_option maxHeartbeats 1600000 in
theorem plays_ok (n : Nat) (A : Option Addr) (len cap : Nat) (l : List AC) (w : World) (hn : 2 ≤ n ∧ n ≤ 8) (hx : RowR w 3 A len (l.map AC.cells)) (hlen : len ≤ 80) :
    Calls Try.prog 6 #[.int .i64 n, .slice A len cap] w fun e w' => e = .returned (.bool true) ∧ Below w.heap.size w w' := by
  have HX := Lib.hid hx
  have HN : Hid (2 ≤ n ∧ n ≤ 14) := Lib.hid (by omega)
  obtain ⟨hn1, hn2⟩ := hn
  have t1 : ¬ (n : Int) < 2 := by omega
  have t2 : ¬ (8 : Int) < n := by omega
  have t3 : ¬ (80 : Int) < len := by omega
  clear hx
  go_enter Try.func6, Try.ntmps6
  go_wp2_with (go_at_call 9; refine (new_ok n _ HN.out).mono ?_; rintro e w1 ⟨gP, x1, rfl, hT1, hB1⟩; have HT1 := Lib.hid hT1; have hz1 := hB1.size; clear hT1)
  have HM1 := Lib.hid (tm0 HN.out HT1.out)
  have HB2 : Hid (Below w.heap.size w (w1.alloc (.cells #[.int .i64 n, .slice none 0 0, .slice none 0 0, .bool false] 45))) := Lib.hid (hB1.trans (((Below.refl _ _).alloc (Nat.le_refl _) _).mono hz1))
  clear HT1 hB1 hz1
  generalize w1.heap.size = q at *
  go_loopw [5, 8] (fun t i W => ∃ (k p : Nat) (st : TS) (x : TC) (y : MC), k ≤ len ∧ t = .pointer (some ⟨p, 0, none⟩) ∧ i = .int .i64 k ∧ Hid (TM w.heap.size p q st x st y W ∧ Below w.heap.size w W)) (fun _ i _ => len - (intOf i).toNat)
  case atStart => exact ⟨0, gP, _, _, _, Nat.zero_le _, rfl, rfl, Lib.hid ⟨HM1.out, HB2.out⟩⟩
  case round =>
    obtain ⟨k, p, st, x, y, hk, rfl, rfl, HH⟩ := hrel
    clear HM1 HB2
    by_cases hlt : k < len
    · have hlt' : (k : Int) < len := by omega
      obtain ⟨ad, c, rfl, c0, c1, c2⟩ := act_at (HX.out.below HH.out.2) hlt
      obtain ⟨ca, cd, cs⟩ := c
      simp only at c0 c1 c2
      go_wp2_with (first
        | (go_at_call 19; refine (step_any w.heap.size p q st x y ca cd cs _ HH.out.1).mono ?_; rintro e w2 ⟨p2, x2, y2, rfl, ht2, hb2⟩; have HT2 := Lib.hid ht2; have HB2 := Lib.hid (HH.out.2.trans hb2); clear ht2 hb2)
        | (go_at_call 14; refine (alike_any w.heap.size p2 w.heap.size q (stepS st ca cd cs) x2 y2 _ HT2.out.T HT2.out.M).mono ?_; rintro e w3 ⟨rfl, hb3⟩)
        | fail)
      go_roundw
      case rel => exact ⟨k + 1, p2, stepS st ca cd cs, x2, y2, hlt, rfl, by go_num, Lib.hid ⟨HT2.out.below hb3, below_call HB2.out hb3 HB2.out.size⟩⟩
      case measure => simp [intOf]; omega
    · obtain rfl : k = len := by omega
      go_wp2_with (go_at_call 8; refine (known_any _).mono ?_; rintro e w4 ⟨rfl, hb4⟩)
      go_ret
      exact ⟨rfl, below_call HH.out.2 hb4 HH.out.2.size⟩
end Go.Proofs.Ytngcmihaheiigaa
