/-
  Equal, in script and in its reference; the reference's Same; bytes.Equal.
-/
import Derived.Test.YtpmlipcpohajgaaOps
import Derived.Handy
import Derived.Deep.QuietTactic
import Derived.BigQuiet
import Derived.Deep.RegionLaw
import Derived.Deep.RegionWith
set_option linter.unusedSimpArgs false
set_option linter.unusedVariables false
namespace Go.Proofs.Ytpmlipcpohajgaa
open Go.RowKit

def opEq (a b : OpV) : Bool := a.k == b.k && a.c == b.c && a.n == b.n && a.m == b.m && a.d == b.d
theorem opEq_iff (a b : OpV) : opEq a b = true ↔ a = b := by
  cases a; cases b
  simp [opEq, and_assoc]

set_option maxHeartbeats 400000 in
theorem bequal_any (A B : Option Addr) (n c n' c' : Nat) (xs ys : List Int) (w : World) (hx : BReads w A n xs) (hy : BReads w B n' ys) :
    Calls Try.prog 25 #[.slice A n c, .slice B n' c'] w fun e w' => e = .returned (.bool (xs == ys)) ∧ w = w' := by
  have h1 := convert_bytes (P := Try.prog) hx c 22 5 Try.underlying22 Try.underlying5 9 Try.underlying9
  have h2 := convert_bytes (P := Try.prog) hy c' 22 5 Try.underlying22 Try.underlying5 9 Try.underlying9
  have h3 := Lib.hid (str_inj hx.2 hy.2)
  go_enter Try.func25, Try.ntmps25
  go_wp2
  go_ret
  exact ⟨by rw [← h3.out]; rfl, rfl⟩

set_option maxHeartbeats 800000 in
theorem equal_any (a b : OpV) (A B : Option Addr) (n c n' c' : Nat) (w : World) (hx : BReads w A n a.d) (hy : BReads w B n' b.d) :
    Calls Try.prog 15 #[.agg #[.int .i64 a.k, .int .i64 a.c, .int .i64 a.n, .int .i64 a.m, .slice A n c], .agg #[.int .i64 b.k, .int .i64 b.c, .int .i64 b.n, .int .i64 b.m, .slice B n' c']] w fun e w' => e = .returned (.bool (opEq a b)) ∧ Below w.heap.size w w' := by
  go_enter Try.func15, Try.ntmps15
  go_wp2_with (go_at_call 25; refine (bequal_any _ _ _ _ _ _ _ _ _ ((hx.alloc _).alloc _) ((hy.alloc _).alloc _)).mono ?_; rintro e w' ⟨rfl, rfl⟩)
  all_goals go_ret
  all_goals refine ⟨?_, by go_grown⟩
  all_goals simp_all [opEq]

set_option maxHeartbeats 800000 in
theorem requal_any (a b : OpV) (A B : Option Addr) (n c n' c' : Nat) (w : World) (hx : BReads w A n a.d) (hy : BReads w B n' b.d) :
    Calls Try.prog 16 #[.agg #[.int .i64 a.k, .int .i64 a.c, .int .i64 a.n, .int .i64 a.m, .slice A n c], .agg #[.int .i64 b.k, .int .i64 b.c, .int .i64 b.n, .int .i64 b.m, .slice B n' c']] w fun e w' => e = .returned (.bool (opEq a b)) ∧ Below w.heap.size w w' := by
  have h1 := fun o1 o2 => convert_bytes (P := Try.prog) ((hx.alloc o1).alloc o2) c 22 5 Try.underlying22 Try.underlying5 9 Try.underlying9
  have h2 := fun o1 o2 => convert_bytes (P := Try.prog) ((hy.alloc o1).alloc o2) c' 22 5 Try.underlying22 Try.underlying5 9 Try.underlying9
  have h3 := Lib.hid (str_inj hx.2 hy.2)
  clear hx hy
  go_enter Try.func16, Try.ntmps16
  go_wp2
  all_goals go_ret
  all_goals refine ⟨?_, by go_grown⟩
  all_goals have h4 := h3.out
  all_goals simp_all [opEq]

theorem cell_part {w : World} {a : Addr} {i : Nat} {v : Value} (j : Nat) (h : w.cell? (a.add (i + (j + 1))) = some v) : w.cell? ⟨(a.add i).block, (a.add i).off + (j + 1), none⟩ = some v := by
  rw [← add_of_add] at h
  generalize a.add i = b at *
  simpa [Addr.add] using h
def opsEq (l m : List OpV) : Bool := l.length == m.length && (List.range l.length).all fun i => opEq (l.getD i ⟨0, 0, 0, 0, []⟩) (m.getD i ⟨0, 0, 0, 0, []⟩)
theorem opsEq_iff (l m : List OpV) : opsEq l m = true ↔ l = m := by
  unfold opsEq
  rw [Bool.and_eq_true, beq_iff_eq, List.all_eq_true]
  constructor
  · rintro ⟨h1, h2⟩
    refine List.ext_getElem h1 fun i q1 q2 => ?_
    have := (opEq_iff _ _).1 (h2 i (List.mem_range.2 q1))
    simpa [List.getD, List.getElem?_eq_getElem q1, List.getElem?_eq_getElem q2] using this
  · rintro rfl
    exact ⟨rfl, fun i _ => (opEq_iff _ _).2 rfl⟩

set_option maxHeartbeats 1600000 in
theorem same_any (A B : Option Addr) (n c n' c' : Nat) (l m : List OpV) (w : World) (hx : OReads w A n l) (hy : OReads w B n' m) (hn : n ≤ 1000000) (hn' : n' ≤ 1000000) :
    Calls Try.prog 21 #[.slice A n c, .slice B n' c'] w fun e w' => e = .returned (.bool (opsEq l m)) ∧ Below w.heap.size w w' := by
  have hl := hx.length
  have hm := hy.length
  by_cases hne : n = n'
  · subst hne
    have HX := Lib.hid hx
    have HY := Lib.hid hy
    have HL := Lib.hid hl
    have HM := Lib.hid hm
    clear hx hy hl hm
    go_enter Try.func21, Try.ntmps21
    go_wp2
    go_loopw [5] (fun i W => ∃ k : Nat, k ≤ n ∧ i = .int .i64 k ∧ Hid (∀ j, j < k → opEq (l.getD j ⟨0, 0, 0, 0, []⟩) (m.getD j ⟨0, 0, 0, 0, []⟩) = true) ∧ Below w.heap.size w W) (fun i _ => n - (intOf i).toNat)
    case atStart => exact ⟨0, Nat.zero_le _, rfl, Lib.hid (fun j h => absurd h (by omega)), Below.refl _ _⟩
    case round =>
      obtain ⟨k, hk, rfl, HE, hB⟩ := hrel
      by_cases hlt : k < n
      · obtain ⟨ad, v, D, dc, rfl, hv, c0, c1, c2, c3, c4, hd, _⟩ := (HX.out.below hB).at_ hlt
        obtain ⟨bd, v', D', dc', rfl, hv', e0, e1, e2, e3, e4, hd', _⟩ := (HY.out.below hB).at_ hlt
        have hlt' : (k : Int) < n := by omega
        have p1 := cell_part 0 c1
        have p2 := cell_part 1 c2
        have p3 := cell_part 2 c3
        have p4 := cell_part 3 c4
        have q1 := cell_part 0 e1
        have q2 := cell_part 1 e2
        have q3 := cell_part 2 e3
        have q4 := cell_part 3 e4
        clear c1 c2 c3 c4 e1 e2 e3 e4
        have HD : Hid (∀ W, Below wr.heap.size wr W → BReads W D v.d.length v.d) := fun W h => hd.below h
        have HD' : Hid (∀ W, Below wr.heap.size wr W → BReads W D' v'.d.length v'.d) := fun W h => hd'.below h
        have HV : Hid (l.getD k ⟨0, 0, 0, 0, []⟩ = v) := Lib.hid (by simp [List.getD, hv])
        have HV' : Hid (m.getD k ⟨0, 0, 0, 0, []⟩ = v') := Lib.hid (by simp [List.getD, hv'])
        have hz := hB.size
        clear hd hd' hv hv'
        cases hq : opEq v v' with
        | true =>
          have HQ := Lib.hid hq
          clear hq
          go_wp2_with fail
          go_region_law ((go_simp; go_at_call 16; refine (requal_any v v' D D' _ _ _ _ _ (HD.out _ (by (focus (repeat' (first | (with_reducible exact Below.refl _ _) | (with_reducible assumption) | (with_reducible refine Below.alloc ?_ ?_ _) | (with_reducible refine below_drewN ?_ _) | (with_reducible refine Below.drew ?_) | (with_reducible refine Below.setCell ?_ ?_ _) | omega | (simp; done) | (simp; omega)))))) (HD'.out _ (by (focus (repeat' (first | (with_reducible exact Below.refl _ _) | (with_reducible assumption) | (with_reducible refine Below.alloc ?_ ?_ _) | (with_reducible refine below_drewN ?_ _) | (with_reducible refine Below.drew ?_) | (with_reducible refine Below.setCell ?_ ?_ _) | omega | (simp; done) | (simp; omega))))))).mono ?_; rintro e w1 ⟨rfl, hb1⟩; rw [HQ.out]; have hB1 := below_call (W := wr) hB (Below.trans (by (focus (repeat' (first | (with_reducible exact Below.refl _ _) | (with_reducible assumption) | (with_reducible refine Below.alloc ?_ ?_ _) | (with_reducible refine below_drewN ?_ _) | (with_reducible refine Below.drew ?_) | (with_reducible refine Below.setCell ?_ ?_ _) | omega | (simp; done) | (simp; omega))))) hb1) (by omega)))
          all_goals
            clear c0 p1 p2 p3 p4 e0 q1 q2 q3 q4
            go_wp2
            go_roundw
            case rel => exact ⟨k + 1, by omega, by go_num, Lib.hid (fun j hj => by
              rcases Nat.lt_or_ge j k with h | h
              · exact HE.out j h
              · obtain rfl : j = k := by omega
                rw [HV.out, HV'.out]; exact HQ.out), hB1⟩
            case measure => simp [intOf]; omega
        | false =>
          have HQ := Lib.hid hq
          clear hq
          have HF : Hid (opsEq l m = false) := Lib.hid (by
            rw [Bool.eq_false_iff]
            intro h
            have hlm := (opsEq_iff _ _).1 h
            have h1 := HQ.out
            rw [← HV.out, ← HV'.out, hlm, Bool.eq_false_iff] at h1
            exact h1 ((opEq_iff _ _).2 rfl))
          go_wp2_with fail
          go_region_law ((go_simp; go_at_call 16; refine (requal_any v v' D D' _ _ _ _ _ (HD.out _ (by (focus (repeat' (first | (with_reducible exact Below.refl _ _) | (with_reducible assumption) | (with_reducible refine Below.alloc ?_ ?_ _) | (with_reducible refine below_drewN ?_ _) | (with_reducible refine Below.drew ?_) | (with_reducible refine Below.setCell ?_ ?_ _) | omega | (simp; done) | (simp; omega)))))) (HD'.out _ (by (focus (repeat' (first | (with_reducible exact Below.refl _ _) | (with_reducible assumption) | (with_reducible refine Below.alloc ?_ ?_ _) | (with_reducible refine below_drewN ?_ _) | (with_reducible refine Below.drew ?_) | (with_reducible refine Below.setCell ?_ ?_ _) | omega | (simp; done) | (simp; omega))))))).mono ?_; rintro e w1 ⟨rfl, hb1⟩; rw [HQ.out]; have hB1 := below_call (W := wr) hB (Below.trans (by (focus (repeat' (first | (with_reducible exact Below.refl _ _) | (with_reducible assumption) | (with_reducible refine Below.alloc ?_ ?_ _) | (with_reducible refine below_drewN ?_ _) | (with_reducible refine Below.drew ?_) | (with_reducible refine Below.setCell ?_ ?_ _) | omega | (simp; done) | (simp; omega))))) hb1) (by omega)))
          all_goals
            go_wp2
            go_ret
            exact ⟨by rw [HF.out]; rfl, hB1⟩
      · obtain rfl : k = n := by omega
        have HT : Hid (opsEq l m = true) := Lib.hid (by
          unfold opsEq
          rw [Bool.and_eq_true, beq_iff_eq, List.all_eq_true, HL.out, HM.out]
          exact ⟨rfl, fun i hi => HE.out i (List.mem_range.1 hi)⟩)
        go_wp2
        go_ret
        exact ⟨by rw [HT.out]; rfl, hB⟩
  · have HF : Hid (opsEq l m = false) := Lib.hid (by
      rw [Bool.eq_false_iff]
      intro h
      have hlm := (opsEq_iff _ _).1 h
      rw [hlm] at hl
      omega)
    have hb : (n != n') = true := by simp [hne]
    clear hx hy hl hm hne
    go_enter Try.func21, Try.ntmps21
    go_wp2
    all_goals go_ret
    all_goals exact ⟨by rw [HF.out]; rfl, Below.refl _ _⟩

end Go.Proofs.Ytpmlipcpohajgaa
