/-
  slices.Grow of nil, slices.Concat of two.
-/
import Derived.Test.YtngcmihaheiigaaEqs
import Derived.Lib.AppendZerosOnto
import Derived.Lib.SliceRun
import Derived.Lib.Walk
set_option linter.unusedSimpArgs false
set_option linter.unusedVariables false
namespace Go.Proofs.Ytngcmihaheiigaa
open Go.RowKit

theorem Try.info3 : (Try.prog.info? 3).map (fun i => (i.zero, i.size, i.bytes)) = some (some (.int .i64 0), 1, 8) := by kernel_rfl

set_option maxHeartbeats 1600000 in
theorem grow_any (n : Nat) (w : World) (hn : n ≤ 100000) : Calls Try.prog 48 #[.slice none 0 0, .int .i64 n] w fun e w' => ∃ A c, e = .returned (.slice A 0 c) ∧ XOwns w' w.heap.size 3 1 A 0 c [] ∧ Below w.heap.size w w' := by
  rcases Nat.eq_zero_or_pos n with h0 | h0
  · subst h0
    go_enter Try.func48, Try.ntmps48
    go_wp2
    go_ret
    exact ⟨none, 0, rfl, XOwns.nil_ _ _ _ _, Below.refl _ _⟩
  · obtain ⟨i0, hi, hz0, hz1, hz2⟩ := info_parts Try.info3
    have hold : (Builtin.firstCells i0.size 0 (.slice none 0 0)).run Try.prog w.drew = .ok ([] : List Value).toArray w.drew := run_firstCells_none w.drew i0.size 0 0 0
    have hrz : ∀ ty, (Builtin.append_ #[37, 3] ty #[.slice none 0 0, .int .i64 n]).run Try.prog w = _ := fun ty =>
      Lib.run_append_grow_zeros w 37 3 ty 3 i0 (.int .i64 0) .i64 .i64 Try.underlying37 Try.underlying3 hi hz0 none 0 0 [] hold n h0 (by omega) (by omega) (by omega) (by rw [hz2]; omega) (growslice_fits (by omega) (by rw [hz2]; omega))
    rw [Nat.zero_add] at hrz
    have hG1 : n ≤ grownCap w n 0 3 := grownCap_ge w _ _ _
    have hG2 : grownCap w n 0 3 ≤ maxLen := grownCap_le_maxLen w n 0 3 (by unfold maxLen; omega)
    generalize grownCap w n 0 3 = G at *
    have HG2 := Lib.hid hG2
    have hG3 : G ≤ 9223372036854775807 := by unfold maxLen at hG2; omega
    have hn0 : (0 : Int) < n := by omega
    clear hi hz0 hz1 hz2 hold hG2
    go_enter Try.func48, Try.ntmps48
    go_wp2_with (at_builtin; refine Lib.wpList_append_run _ rfl _ _ _ _ rfl _ _ rfl rfl _ _ (hrz _) ?_)
    all_goals go_ret
    all_goals refine ⟨some ⟨w.heap.size, 0, none⟩, G, rfl, ⟨⟨rfl, .inr ⟨w.heap.size, G, (Builtin.zeroCells (Value.int .i64 0).cells n ++ Builtin.zeroCells (Value.int .i64 0).cells (G - n)), rfl, Nat.le_refl _, ?_, Nat.zero_le _, HG2.out, ?_, rfl⟩⟩, fun h => by cases h⟩, (Below.refl _ _).drew.alloc (by simp) _⟩
    · exact Blk.mk_ w.drew 3 _ _ rfl
    · simp [Builtin.zeroCells, Value.cells]
      omega

set_option maxHeartbeats 1600000 in
theorem concat_any (g : Nat) (t : TypeId) (A B : Option Addr) (n c m d : Nat) (xs ys : List Int) (w : World) (hb : Blk w g t #[.slice A n c, .slice B m d]) (hx : Reads w 1 A n (ics xs)) (hy : Reads w 1 B m (ics ys)) (hA : A = none → c = 0) (hB : B = none → d = 0) (hn : n ≤ 1000) (hm : m ≤ 1000) :
    Calls Try.prog 41 #[.slice (some ⟨g, 0, none⟩) 2 2] w fun e w' => ∃ A' c', e = .returned (.slice A' (n + m) c') ∧ XOwns w' w.heap.size 3 1 A' (n + m) c' (ics (xs ++ ys)) ∧ Below w.heap.size w w' := by
  have HB := Lib.hid hb
  have HX := Lib.hid hx
  have HY := Lib.hid hy
  have HA := Lib.hid hA
  have HBB := Lib.hid hB
  have c0 := (hb.at_ 0).trans rfl
  have c1 := (hb.at_ 1).trans rfl
  have hbl := hb.lt
  have hw1 : IntKind.i64.wrap ((n : Int) + m) = (n : Int) + m := IntWalk.i64_in _ (by omega)
  clear hx hy hA hB hb
  go_enter Try.func41, Try.ntmps41
  go_wp2
  go_loop [3, 11] (fun s i => (i = .int .i64 0 ∧ s = .int .i64 0) ∨ (i = .int .i64 1 ∧ s = .int .i64 n) ∨ (i = .int .i64 2 ∧ s = .int .i64 ((n : Int) + m))) (fun _ i => 2 - (intOf i).toNat)
  case atStart => exact .inl ⟨rfl, rfl⟩
  case round =>
    have hn0 : (0 : Int) ≤ n := by omega
    have hw2 : IntKind.i64.wrap (n : Int) = n := IntWalk.i64_in _ (by omega)
    rcases hrel with ⟨rfl, rfl⟩ | ⟨rfl, rfl⟩ | ⟨rfl, rfl⟩
    · go_wp2
      go_round
      case rel => exact .inr (.inl ⟨rfl, rfl⟩)
      case measure => simp [intOf]
    · have hnm : ((n : Int) + m < 0) = False := eq_false (by omega)
      go_wp2
      go_round
      case rel => exact .inr (.inr ⟨rfl, rfl⟩)
      case measure => simp [intOf]
    · go_wp2_with fail
      refine (grow_any (n + m) _ (by omega)).mono ?_
      rintro e w2 ⟨A2, c2, rfl, hO2, hB2⟩
      have HO2 := Lib.hid hO2
      have HBK : Hid (∀ W, Below w.heap.size w W → Blk W g t #[.slice A n c, .slice B m d]) := Lib.hid fun W hb => HB.out.below hb hbl
      have HXX : Hid (∀ W, Below w.heap.size w W → Reads W 1 A n (ics xs)) := Lib.hid fun W hb => HX.out.below hb
      have HYY : Hid (∀ W, Below w.heap.size w W → Reads W 1 B m (ics ys)) := Lib.hid fun W hb => HY.out.below hb
      clear hO2 hw1 hw2 hn0 c0 c1
      go_wp2
      go_loopw [6, 27] (fun v i W => ∃ (A2 : Option Addr) (c2 : Nat), ((i = .int .i64 0 ∧ v = .slice A2 0 c2 ∧ XOwns W w.heap.size 3 1 A2 0 c2 []) ∨ (i = .int .i64 1 ∧ v = .slice A2 n c2 ∧ XOwns W w.heap.size 3 1 A2 n c2 (ics xs)) ∨ (i = .int .i64 2 ∧ v = .slice A2 (n + m) c2 ∧ XOwns W w.heap.size 3 1 A2 (n + m) c2 (ics (xs ++ ys)))) ∧ Below w.heap.size w W) (fun _ i _ => 2 - (intOf i).toNat)
      case atStart => exact ⟨A2, c2, .inl ⟨rfl, rfl, HO2.out⟩, hB2⟩
      case round =>
        obtain ⟨A3, c3, ⟨rfl, rfl, hO⟩ | ⟨rfl, rfl, hO⟩ | ⟨rfl, rfl, hO⟩, hB⟩ := hrel
        · have HO := Lib.hid hO
          have hz := hB.size
          have c0 := ((HBK.out _ hB).at_ 0).trans rfl
          clear hO
          go_wp2_with (at_builtin; refine append_xr ?_ (.tmp 31) (.tmp 32) 37 ?_ w.heap.size 3 (.int .i64 0) 1 8 Try.info3 Try.underlying37 rfl (by decide) A3 0 c3 [] ?_ HO.out A n c (ics xs) ?_ HA.out (HXX.out _ hB) (ics_one _) ?_ ?_ ?_ ?_; rfl; rfl; rfl; rfl; omega; omega; omega; intro A4 c4 w4 ho4 hb4; rw [Nat.zero_add] at ho4 ⊢)
          go_roundw
          case rel => exact ⟨A4, c4, .inr (.inl ⟨rfl, rfl, ho4⟩), hB.trans hb4⟩
          case measure => simp [intOf]
        · have HO := Lib.hid hO
          have hz := hB.size
          have c1 := ((HBK.out _ hB).at_ 1).trans rfl
          clear hO
          go_wp2_with (at_builtin; refine append_xr ?_ (.tmp 31) (.tmp 32) 37 ?_ w.heap.size 3 (.int .i64 0) 1 8 Try.info3 Try.underlying37 rfl (by decide) A3 n c3 (ics xs) ?_ HO.out B m d (ics ys) ?_ HBB.out (HYY.out _ hB) (ics_one _) ?_ ?_ ?_ ?_; rfl; rfl; rfl; rfl; omega; omega; omega; intro A4 c4 w4 ho4 hb4)
          go_roundw
          case rel => exact ⟨A4, c4, .inr (.inr ⟨rfl, rfl, by rw [show ics (xs ++ ys) = ics xs ++ ics ys by simp [ics]]; exact ho4⟩), hB.trans hb4⟩
          case measure => simp [intOf]
        · go_wp2
          go_ret
          exact ⟨A3, c3, rfl, hO, hB⟩
end Go.Proofs.Ytngcmihaheiigaa
