/-
  Lists of numbers and of duels: equal; none; free.
-/
import Derived.Test.YtngcmihaheiigaaPlain
import Derived.Test.YtngcmihaheiigaaOnlyF
import Derived.Test.YtngcmihaheiigaaSched
import Derived.Test.YtngcmihaheiigaaLater
import Derived.Test.YtngcmihaheiigaaRowR
import Derived.Test.YtngcmihaheiigaaAppOp
import Derived.Handy
import Derived.Deep.QuietTactic
import Derived.BigQuiet
set_option linter.unusedSimpArgs false
set_option linter.unusedVariables false
namespace Go.Proofs.Ytngcmihaheiigaa
open Go.RowKit

/-- The number at a place, behind a name. -/
def ith (xs : List Int) (k : Nat) : Int := xs.getD k 0
theorem ith_get {xs : List Int} {k : Nat} (h : k < xs.length) : xs[k]? = some (ith xs k) := by simp [ith, List.getD, List.getElem?_eq_getElem h]
theorem ith_ext {xs ys : List Int} (hl : xs.length = ys.length) (h : ∀ j, j < xs.length → ith xs j = ith ys j) : xs = ys := by
  refine List.ext_getElem? fun j => ?_
  rcases Nat.lt_or_ge j xs.length with hj | hj
  · rw [ith_get hj, ith_get (by omega), h j hj]
  · rw [List.getElem?_eq_none hj, List.getElem?_eq_none (by omega)]
theorem ilen {w : World} {A : Option Addr} {n : Nat} {xs : List Int} (h : Reads w 1 A n (ics xs)) : xs.length = n := by have := h.1; simpa [ics] using this
theorem int_at {w : World} {A : Option Addr} {n : Nat} {xs : List Int} (h : Reads w 1 A n (ics xs)) {k : Nat} (hk : k < n) : ∃ ad, A = some ad ∧ ad.block < w.heap.size ∧ w.cell? (ad.add k) = some (.int .i64 (ith xs k)) := by
  obtain ⟨ad, u, e, hb, hx, hc⟩ := h.at_ hk
  have hl := ilen h
  refine ⟨ad, e, hb, ?_⟩
  rw [ics, List.getElem?_map, ith_get (by omega)] at hx
  simp only [Option.map_some, Option.some.injEq] at hx
  rw [hc, hx]
theorem int_cell {w : World} {ad : Addr} {n : Nat} {xs : List Int} (h : Reads w 1 (some ad) n (ics xs)) {k : Nat} (hk : k < n) : w.cell? (ad.add k) = some (.int .i64 (ith xs k)) := by
  obtain ⟨ad', e, _, hc⟩ := int_at h hk
  injection e with e
  rw [e]; exact hc
theorem below_drew_ {B : Nat} {a w : World} (h : Below B a w) (k : Nat) : Below B a (w.drewN k) := ⟨h.os, h.tape, h.output, h.size, h.block⟩

set_option maxHeartbeats 1600000 in
theorem ints_any (A B : Option Addr) (n c n' c' : Nat) (xs ys : List Int) (w : World) (hx : Reads w 1 A n (ics xs)) (hy : Reads w 1 B n' (ics ys)) (hn : n ≤ 1000000) :
    Calls Try.prog 24 #[.slice A n c, .slice B n' c'] w fun e w' => e = .returned (.bool (decide (xs = ys))) ∧ Below w.heap.size w w' := by
  have hl := ilen hx
  have hl' := ilen hy
  by_cases hne : n = n'
  · subst hne
    have HX := Lib.hid hx
    have HY := Lib.hid hy
    have HL := Lib.hid hl
    have HL' := Lib.hid hl'
    clear hx hy hl hl'
    go_enter Try.func24, Try.ntmps24
    go_wp2
    go_loopw [5] (fun i W => ∃ k : Nat, k ≤ n ∧ i = .int .i64 k ∧ Hid (∀ j, j < k → ith xs j = ith ys j) ∧ Below w.heap.size w W) (fun i _ => n - (intOf i).toNat)
    case atStart => exact ⟨0, Nat.zero_le _, rfl, Lib.hid (fun j h => absurd h (by omega)), Below.refl _ _⟩
    case round =>
      obtain ⟨k, hk, rfl, HE, hB⟩ := hrel
      have hz := hB.size
      by_cases hlt : k < n
      · obtain ⟨ad, rfl, hab, c0⟩ := int_at (HX.out.below hB) hlt
        obtain ⟨bd, rfl, hbb, e0⟩ := int_at (HY.out.below hB) hlt
        have hlt' : (k : Int) < n := by omega
        by_cases hq : ith xs k = ith ys k
        · have HQ := Lib.hid hq
          rw [hq] at c0
          clear hq
          go_wp2
          go_quiet (fail)
          go_wp2
          go_roundw
          case rel => exact ⟨k + 1, by omega, by go_num, Lib.hid (fun j hj => by
            rcases Nat.lt_or_ge j k with h | h
            · exact HE.out j h
            · obtain rfl : j = k := by omega
              exact HQ.out), below_drew_ hB nq⟩
          case measure => simp [intOf]; omega
        · have HQ : Hid (decide (xs = ys) = false) := Lib.hid (decide_eq_false fun h => hq (by rw [h]))
          go_wp2
          go_quiet (fail)
          go_wp2
          go_ret
          exact ⟨by rw [HQ.out]; rfl, by (focus (repeat' (first | (with_reducible exact Below.refl _ _) | (with_reducible assumption) | (with_reducible refine Below.alloc ?_ ?_ _) | (with_reducible refine below_drewN ?_ _) | (with_reducible refine Below.drew ?_) | (with_reducible refine Below.setCell ?_ ?_ _) | omega | (simp; done) | (simp; omega))))⟩
      · obtain rfl : k = n := by omega
        have HQ : Hid (decide (xs = ys) = true) := Lib.hid (decide_eq_true (ith_ext (by rw [HL.out, HL'.out]) (fun j hj => HE.out j (by rw [HL.out] at hj; exact hj))))
        go_wp2
        go_ret
        exact ⟨by rw [HQ.out]; rfl, hB⟩
  · have HQ : Hid (decide (xs = ys) = false) := Lib.hid (decide_eq_false fun h => hne (by rw [← hl, ← hl', h]))
    have hne' : ((n : Int) = n') = False := eq_false (by omega)
    clear hx hy hl hl'
    go_enter Try.func24, Try.ntmps24
    go_wp2
    go_ret
    exact ⟨by rw [HQ.out]; rfl, Below.refl _ _⟩

/-- The duel at a place. -/
def d0 : D := ⟨0, 0⟩
def dth (l : List D) (k : Nat) : D := l.getD k d0
theorem dth_get {xs : List D} {k : Nat} (h : k < xs.length) : xs[k]? = some (dth xs k) := by simp [dth, List.getD, List.getElem?_eq_getElem h]
theorem dth_ext {xs ys : List D} (hl : xs.length = ys.length) (h : ∀ j, j < xs.length → dth xs j = dth ys j) : xs = ys := by
  refine List.ext_getElem? fun j => ?_
  rcases Nat.lt_or_ge j xs.length with hj | hj
  · rw [dth_get hj, dth_get (by omega), h j hj]
  · rw [List.getElem?_eq_none hj, List.getElem?_eq_none (by omega)]
theorem dlen {w : World} {A : Option Addr} {n : Nat} {l : List D} (h : Reads w 2 A n (dcells l)) : l.length = n := by have := h.1; rw [dcells_len] at this; omega
theorem dcells_row {w : World} {A : Option Addr} {n : Nat} {l : List D} (h : Reads w 2 A n (dcells l)) : RowR w 2 A n (l.map D.cells) := by
  refine ⟨by simpa [dcells, List.flatMap] using h, fun r hr => ?_, ?_⟩
  · obtain ⟨m, _, rfl⟩ := List.mem_map.1 hr
    rfl
  · rw [List.length_map]
    exact dlen h
theorem duel_at {w : World} {A : Option Addr} {n : Nat} {l : List D} (h : Reads w 2 A n (dcells l)) {k : Nat} (hk : k < n) : ∃ ad, A = some ad ∧ ad.block < w.heap.size ∧
    w.cell? (ad.add (k * 2)) = some (.int .i64 (dth l k).a) ∧ w.cell? ⟨(ad.add (k * 2)).block, (ad.add (k * 2)).off + 1, none⟩ = some (.int .i64 (dth l k).b) := by
  obtain ⟨ad, r, e, hb, hr, _, hc⟩ := RowR.at_ (dcells_row h) hk
  have hl := dlen h
  rw [List.getElem?_map, dth_get (by omega)] at hr
  simp only [Option.map_some, Option.some.injEq] at hr
  subst hr
  exact ⟨ad, e, hb, hc 0 _ rfl, part_at 0 (hc 1 _ rfl)⟩
def duelEq (a b : D) : Bool := a.a == b.a && a.b == b.b
theorem duelEq_iff (a b : D) : duelEq a b = true ↔ a = b := by
  cases a; cases b
  simp [duelEq]
theorem neq_duel (a b : D) (W : World) : (binOp .neq 33 (.agg #[.int .i64 a.a, .int .i64 a.b]) (.agg #[.int .i64 b.a, .int .i64 b.b])).run Try.prog W = .ok (.bool (!duelEq a b)) W := by
  have h72 : Try.prog.underlying 33 = some (.struct (Try.prog.fieldsOf 33)) := by kernel_rfl
  have p72 : Try.prog.stoodInHeld 33 = false := by kernel_rfl
  rw [run_neq_struct, run_equalIn_agg W 9999 33 _ _ h72 p72]
  simp [Program.fieldsOf, Try.underlying33, Op.eqFields, go_sem, duelEq]
  repeat' split
  all_goals simp_all

set_option maxHeartbeats 1600000 in
theorem duels_any (A B : Option Addr) (n c n' c' : Nat) (xs ys : List D) (w : World) (hx : Reads w 2 A n (dcells xs)) (hy : Reads w 2 B n' (dcells ys)) (hn : n ≤ 1000000) :
    Calls Try.prog 31 #[.slice A n c, .slice B n' c'] w fun e w' => e = .returned (.bool (decide (xs = ys))) ∧ Below w.heap.size w w' := by
  have hl := dlen hx
  have hl' := dlen hy
  by_cases hne : n = n'
  · subst hne
    have HX := Lib.hid hx
    have HY := Lib.hid hy
    have HL := Lib.hid hl
    have HL' := Lib.hid hl'
    clear hx hy hl hl'
    go_enter Try.func31, Try.ntmps31
    go_wp2
    go_loopw [5] (fun i W => ∃ k : Nat, k ≤ n ∧ i = .int .i64 k ∧ Hid (∀ j, j < k → dth xs j = dth ys j) ∧ Below w.heap.size w W) (fun i _ => n - (intOf i).toNat)
    case atStart => exact ⟨0, Nat.zero_le _, rfl, Lib.hid (fun j h => absurd h (by omega)), Below.refl _ _⟩
    case round =>
      obtain ⟨k, hk, rfl, HE, hB⟩ := hrel
      have hz := hB.size
      by_cases hlt : k < n
      · obtain ⟨ad, rfl, hab, c0, c1⟩ := duel_at (HX.out.below hB) hlt
        obtain ⟨bd, rfl, hbb, e0, e1⟩ := duel_at (HY.out.below hB) hlt
        have hlt' : (k : Int) < n := by omega
        have hnq := neq_duel (dth xs k) (dth ys k)
        have hgd : Try.prog.eqGuardType Try.prog.depth 33 = false := by kernel_rfl
        cases hq : duelEq (dth xs k) (dth ys k) with
        | true =>
          rw [hq] at hnq
          have HQ := Lib.hid ((duelEq_iff _ _).1 hq)
          clear hq
          go_wp2
          go_quiet (fail)
          clear hnq
          go_wp2
          go_roundw
          case rel => exact ⟨k + 1, by omega, by go_num, Lib.hid (fun j hj => by
            rcases Nat.lt_or_ge j k with h | h
            · exact HE.out j h
            · obtain rfl : j = k := by omega
              exact HQ.out), below_drew_ hB nq⟩
          case measure => simp [intOf]; omega
        | false =>
          rw [hq] at hnq
          have HQ : Hid (decide (xs = ys) = false) := Lib.hid (decide_eq_false fun h => by
            rw [h, (duelEq_iff _ _).2 rfl] at hq
            cases hq)
          clear hq
          go_wp2
          go_quiet (fail)
          clear hnq
          go_wp2
          go_ret
          exact ⟨by rw [HQ.out]; rfl, below_drew_ hB nq⟩
      · obtain rfl : k = n := by omega
        have HQ : Hid (decide (xs = ys) = true) := Lib.hid (decide_eq_true (dth_ext (by rw [HL.out, HL'.out]) (fun j hj => HE.out j (by rw [HL.out] at hj; exact hj))))
        go_wp2
        go_ret
        exact ⟨by rw [HQ.out]; rfl, hB⟩
  · have HQ : Hid (decide (xs = ys) = false) := Lib.hid (decide_eq_false fun h => hne (by rw [← hl, ← hl', h]))
    have hne' : ((n : Int) = n') = False := eq_false (by omega)
    clear hx hy hl hl'
    go_enter Try.func31, Try.ntmps31
    go_wp2
    go_ret
    exact ⟨by rw [HQ.out]; rfl, Below.refl _ _⟩
end Go.Proofs.Ytngcmihaheiigaa
