/-
  slices.EqualFunc over packets, slices.Equal over moves.
-/
import Derived.Test.YtpmlipcpohajgaaDids
import Derived.Laws.StructEq
set_option linter.unusedSimpArgs false
set_option linter.unusedVariables false
namespace Go.Proofs.Ytpmlipcpohajgaa
open Go.RowKit

set_option maxHeartbeats 400000 in
theorem sent_any (a b : SentV) (A B : Option Addr) (n c n' c' : Nat) (w : World) (hx : BReads w A n a.d) (hy : BReads w B n' b.d) :
    Calls Try.prog 27 #[.agg #[.int .i64 a.c, .slice A n c], .agg #[.int .i64 b.c, .slice B n' c']] w fun e w' => e = .returned (.bool (sentEq a b)) ∧ Below w.heap.size w w' := by
  go_enter Try.func27, Try.ntmps27
  go_wp2_with (go_at_call 25; refine (bequal_any _ _ _ _ _ _ _ _ _ ((hx.alloc _).alloc _) ((hy.alloc _).alloc _)).mono ?_; rintro e w' ⟨rfl, rfl⟩)
  all_goals go_ret
  all_goals refine ⟨?_, by go_grown⟩
  all_goals simp_all [sentEq]

set_option maxHeartbeats 1600000 in
theorem equalfunc_any (A B : Option Addr) (n c n' c' : Nat) (l m : List SentV) (w : World) (hx : SReads w A n l) (hy : SReads w B n' m) (hn : n ≤ 9223372036854775807) (hn' : n' ≤ 9223372036854775807) :
    Calls Try.prog 26 #[.slice A n c, .slice B n' c', .func (.func 27) #[] #[]] w fun e w' => e = .returned (.bool (sentsEq l m)) ∧ Below w.heap.size w w' := by
  have hl := hx.length
  have hm := hy.length
  by_cases hne : n = n'
  · subst hne
    have HX := Lib.hid hx
    have HY := Lib.hid hy
    have HL := Lib.hid hl
    have HM := Lib.hid hm
    clear hx hy hl hm
    go_enter Try.func26, Try.ntmps26
    go_wp2
    go_loopw [17] (fun i W => ∃ k : Nat, k ≤ n ∧ i = .int .i64 k ∧ Hid (∀ j, j < k → sentEq (l.getD j s0) (m.getD j s0) = true) ∧ Below w.heap.size w W) (fun i _ => n - (intOf i).toNat)
    case atStart => exact ⟨0, Nat.zero_le _, rfl, Lib.hid (fun j h => absurd h (by omega)), Below.refl _ _⟩
    case round =>
      obtain ⟨k, hk, rfl, HE, hB⟩ := hrel
      have hz := hB.size
      by_cases hlt : k < n
      · obtain ⟨ad, v, D, dc, rfl, hab, hv, c0, c1, hd, _⟩ := (HX.out.below hB).at_ hlt
        obtain ⟨bd, v', D', dc', rfl, hbb, hv', e0, e1, hd', _⟩ := (HY.out.below hB).at_ hlt
        have hlt' : (k : Int) < n := by omega
        have hadb : (ad.add (k * 2)).block < wr.heap.size := by rw [block_of_add]; exact hab
        have hbdb : (bd.add (k * 2)).block < wr.heap.size := by rw [block_of_add]; exact hbb
        have HD : Hid (∀ W, Below wr.heap.size wr W → BReads W D v.d.length v.d) := fun W h => hd.below h
        have HD' : Hid (∀ W, Below wr.heap.size wr W → BReads W D' v'.d.length v'.d) := fun W h => hd'.below h
        have HV : Hid (l.getD k s0 = v) := Lib.hid (by simp [List.getD, hv])
        have HV' : Hid (m.getD k s0 = v') := Lib.hid (by simp [List.getD, hv'])
        clear hd hd' hv hv'
        cases hq : sentEq v v' with
        | true =>
          have HQ := Lib.hid hq
          clear hq
          go_wp2_with (first
            | (go_at_call 27; refine (sent_any v v' D D' _ _ _ _ _ (HD.out _ (by (focus (repeat' (first | (with_reducible exact Below.refl _ _) | (with_reducible assumption) | (with_reducible refine Below.alloc ?_ ?_ _) | (with_reducible refine below_drewN ?_ _) | (with_reducible refine Below.drew ?_) | (with_reducible refine Below.setCell ?_ ?_ _) | omega | (simp; done) | (simp; omega)))))) (HD'.out _ (by (focus (repeat' (first | (with_reducible exact Below.refl _ _) | (with_reducible assumption) | (with_reducible refine Below.alloc ?_ ?_ _) | (with_reducible refine below_drewN ?_ _) | (with_reducible refine Below.drew ?_) | (with_reducible refine Below.setCell ?_ ?_ _) | omega | (simp; done) | (simp; omega))))))).mono ?_; rintro e w1 ⟨rfl, hb1⟩; rw [HQ.out]; have hB1 : Below w.heap.size w w1 := Below.trans (by (focus (repeat' (first | (with_reducible exact Below.refl _ _) | (with_reducible assumption) | (with_reducible refine Below.alloc ?_ ?_ _) | (with_reducible refine below_drewN ?_ _) | (with_reducible refine Below.drew ?_) | (with_reducible refine Below.setCell ?_ ?_ _) | omega | (simp; done) | (simp; omega))))) (hb1.mono (by (focus (first | omega | (simp only [World.size_alloc]; done) | (simp only [World.size_alloc]; omega) | (simp; done) | (simp; omega))))))
            | fail)
          go_roundw
          case rel => exact ⟨k + 1, by omega, by go_num, Lib.hid (fun j hj => by
            rcases Nat.lt_or_ge j k with h | h
            · exact HE.out j h
            · obtain rfl : j = k := by omega
              rw [HV.out, HV'.out]; exact HQ.out), hB1⟩
          case measure => simp [intOf]; omega
        | false =>
          have HQ := Lib.hid hq
          clear hq
          have HF : Hid (sentsEq l m = false) := Lib.hid (by
            rw [Bool.eq_false_iff]
            intro h
            have hlm := (allEq_iff s0 sentEq sentEq_iff _ _).1 h
            have h1 := HQ.out
            rw [← HV.out, ← HV'.out, hlm, Bool.eq_false_iff] at h1
            exact h1 ((sentEq_iff _ _).2 rfl))
          go_wp2_with (first
            | (go_at_call 27; refine (sent_any v v' D D' _ _ _ _ _ (HD.out _ (by (focus (repeat' (first | (with_reducible exact Below.refl _ _) | (with_reducible assumption) | (with_reducible refine Below.alloc ?_ ?_ _) | (with_reducible refine below_drewN ?_ _) | (with_reducible refine Below.drew ?_) | (with_reducible refine Below.setCell ?_ ?_ _) | omega | (simp; done) | (simp; omega)))))) (HD'.out _ (by (focus (repeat' (first | (with_reducible exact Below.refl _ _) | (with_reducible assumption) | (with_reducible refine Below.alloc ?_ ?_ _) | (with_reducible refine below_drewN ?_ _) | (with_reducible refine Below.drew ?_) | (with_reducible refine Below.setCell ?_ ?_ _) | omega | (simp; done) | (simp; omega))))))).mono ?_; rintro e w1 ⟨rfl, hb1⟩; rw [HQ.out]; have hB1 : Below w.heap.size w w1 := Below.trans (by (focus (repeat' (first | (with_reducible exact Below.refl _ _) | (with_reducible assumption) | (with_reducible refine Below.alloc ?_ ?_ _) | (with_reducible refine below_drewN ?_ _) | (with_reducible refine Below.drew ?_) | (with_reducible refine Below.setCell ?_ ?_ _) | omega | (simp; done) | (simp; omega))))) (hb1.mono (by (focus (first | omega | (simp only [World.size_alloc]; done) | (simp only [World.size_alloc]; omega) | (simp; done) | (simp; omega))))))
            | fail)
          go_ret
          exact ⟨by rw [HF.out]; rfl, hB1⟩
      · obtain rfl : k = n := by omega
        have HT : Hid (sentsEq l m = true) := Lib.hid (by
          unfold sentsEq allEq
          rw [Bool.and_eq_true, beq_iff_eq, List.all_eq_true, HL.out, HM.out]
          exact ⟨rfl, fun i hi => HE.out i (List.mem_range.1 hi)⟩)
        go_wp2
        go_ret
        exact ⟨by rw [HT.out]; rfl, hB⟩
  · have HF : Hid (sentsEq l m = false) := Lib.hid (by
      rw [Bool.eq_false_iff]
      intro h
      have hlm := (allEq_iff s0 sentEq sentEq_iff _ _).1 h
      rw [hlm] at hl
      omega)
    have hb : (n != n') = true := by simp [hne]
    clear hx hy hl hm hne
    go_enter Try.func26, Try.ntmps26
    go_wp2
    all_goals go_ret
    all_goals exact ⟨by rw [HF.out]; rfl, Below.refl _ _⟩

theorem below_drew_ {B : Nat} {a w : World} (h : Below B a w) (k : Nat) : Below B a (w.drewN k) := ⟨h.os, h.tape, h.output, h.size, h.block⟩

theorem neq_move (a b : MoveV) (W : World) : (binOp .neq 72 (.agg #[.int .i64 a.p, .int .i64 a.why, .int .i64 a.k, .int .i64 a.id, .int .i64 a.to, .int .u64 a.at_]) (.agg #[.int .i64 b.p, .int .i64 b.why, .int .i64 b.k, .int .i64 b.id, .int .i64 b.to, .int .u64 b.at_])).run Try.prog W = .ok (.bool (!moveEq a b)) W := by
  have h72 : Try.prog.underlying 72 = some (.struct (Try.prog.fieldsOf 72)) := by kernel_rfl
  have h70 : Try.prog.underlying 70 = some (.struct (Try.prog.fieldsOf 70)) := by kernel_rfl
  have p72 : Try.prog.stoodInHeld 72 = false := by kernel_rfl
  have p70 : Try.prog.stoodInHeld 70 = false := by kernel_rfl
  rw [run_neq_struct, run_equalIn_agg W 9999 72 _ _ h72 p72]
  simp [Program.fieldsOf, Try.underlying72, Op.eqFields, go_sem, moveEq]
  repeat' split
  all_goals simp_all

set_option maxHeartbeats 1600000 in
theorem mequal_any (A B : Option Addr) (n c n' c' : Nat) (l m : List MoveV) (w : World) (hx : MReads w A n l) (hy : MReads w B n' m) (hn : n ≤ 9223372036854775807) (hn' : n' ≤ 9223372036854775807) :
    Calls Try.prog 28 #[.slice A n c, .slice B n' c'] w fun e w' => e = .returned (.bool (movesEq l m)) ∧ Below w.heap.size w w' := by
  have hl := hx.length
  have hm := hy.length
  by_cases hne : n = n'
  · subst hne
    have HX := Lib.hid hx
    have HY := Lib.hid hy
    have HL := Lib.hid hl
    have HM := Lib.hid hm
    clear hx hy hl hm
    go_enter Try.func28, Try.ntmps28
    go_wp2
    go_loopw [13] (fun i W => ∃ k : Nat, k ≤ n ∧ i = .int .i64 k ∧ Hid (∀ j, j < k → moveEq (l.getD j m0) (m.getD j m0) = true) ∧ Below w.heap.size w W) (fun i _ => n - (intOf i).toNat)
    case atStart => exact ⟨0, Nat.zero_le _, rfl, Lib.hid (fun j h => absurd h (by omega)), Below.refl _ _⟩
    case round =>
      obtain ⟨k, hk, rfl, HE, hB⟩ := hrel
      have hz := hB.size
      by_cases hlt : k < n
      · obtain ⟨ad, v, rfl, hab, hv, c0, c1, c2, c3, c4, c5⟩ := (HX.out.below hB).at_ hlt
        obtain ⟨bd, v', rfl, hbb, hv', e0, e1, e2, e3, e4, e5⟩ := (HY.out.below hB).at_ hlt
        have hlt' : (k : Int) < n := by omega
        have HV : Hid (l.getD k m0 = v) := Lib.hid (by simp [List.getD, hv])
        have HV' : Hid (m.getD k m0 = v') := Lib.hid (by simp [List.getD, hv'])
        clear hv hv'
        have hnq := neq_move v v'
        have hgd : Try.prog.eqGuardType Try.prog.depth 72 = false := by kernel_rfl
        cases hq : moveEq v v' with
        | true =>
          rw [hq] at hnq
          have HQ := Lib.hid hq
          clear hq
          go_wp2
          go_quiet (fail)
          clear hnq
          go_wp2
          go_roundw
          case rel => exact ⟨k + 1, by omega, by go_num, Lib.hid (fun j hj => by
            rcases Nat.lt_or_ge j k with h | h
            · exact HE.out j h
            · obtain rfl : j = k := by omega
              rw [HV.out, HV'.out]; exact HQ.out), below_drew_ hB nq⟩
          case measure => simp [intOf]; omega
        | false =>
          rw [hq] at hnq
          have HQ := Lib.hid hq
          clear hq
          have HF : Hid (movesEq l m = false) := Lib.hid (by
            rw [Bool.eq_false_iff]
            intro h
            have hlm := (allEq_iff m0 moveEq moveEq_iff _ _).1 h
            have h1 := HQ.out
            rw [← HV.out, ← HV'.out, hlm, Bool.eq_false_iff] at h1
            exact h1 ((moveEq_iff _ _).2 rfl))
          go_wp2
          go_quiet (fail)
          clear hnq
          go_wp2
          go_ret
          exact ⟨by rw [HF.out]; rfl, below_drew_ hB nq⟩
      · obtain rfl : k = n := by omega
        have HT : Hid (movesEq l m = true) := Lib.hid (by
          unfold movesEq allEq
          rw [Bool.and_eq_true, beq_iff_eq, List.all_eq_true, HL.out, HM.out]
          exact ⟨rfl, fun i hi => HE.out i (List.mem_range.1 hi)⟩)
        go_wp2
        go_ret
        exact ⟨by rw [HT.out]; rfl, hB⟩
  · have HF : Hid (movesEq l m = false) := Lib.hid (by
      rw [Bool.eq_false_iff]
      intro h
      have hlm := (allEq_iff m0 moveEq moveEq_iff _ _).1 h
      rw [hlm] at hl
      omega)
    have hb : (n != n') = true := by simp [hne]
    clear hx hy hl hm hne
    go_enter Try.func28, Try.ntmps28
    go_wp2
    all_goals go_ret
    all_goals exact ⟨by rw [HF.out]; rfl, Below.refl _ _⟩

end Go.Proofs.Ytpmlipcpohajgaa
