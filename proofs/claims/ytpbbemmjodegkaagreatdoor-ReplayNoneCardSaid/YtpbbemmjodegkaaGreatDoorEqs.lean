/-
  Bytes, Moves, the law's equal.
-/
import Derived.Test.YtpbbemmjodegkaaGreatDoorClone
import Derived.Test.YtpbbemmjodegkaaGreatDoorRowR
import Derived.Laws.StructEq
set_option linter.unusedSimpArgs false
set_option linter.unusedVariables false
namespace Go.Proofs.YtpbbemmjodegkaaGreatDoor
open Go.RowKit

theorem Rp.cap0 {w : World} {B p : Nat} {q : St} {x : RpC} (h : Rp w B p q x) : (x.A = none → x.c = 0) ∧ (x.M = none → x.cm = 0) := ⟨h.data.2, h.mv.2⟩

set_option maxHeartbeats 400000 in
theorem bytes_any (B p : Nat) (q : St) (x : RpC) (w : World) (h : Rp w B p q x) : Calls Tryz.prog 20 #[.pointer (some ⟨p, 0, none⟩)] w fun e w' => ∃ A c, e = .returned (.slice A q.data.length c) ∧ BOwns w' w.heap.size 5 A q.data.length c q.data ∧ Below w.heap.size w w' := by
  have x1 := (h.blk.at_ 1).trans rfl
  have hn := h.n_eq
  have hl := h.ok.len
  have hc := h.ok.cnt
  have HR := Lib.hid h.bown.reads
  have HA := Lib.hid h.cap0.1
  rw [hn] at x1 HR
  clear h
  generalize hk : q.data.length = k at *
  have hkb : k ≤ 1000000 := by omega
  clear hl hc hn hk
  go_enter Tryz.func20, Tryz.ntmps20
  go_wp2_with (go_at_call 47; refine (bclone_any _ _ _ _ _ HR.out HA.out hkb).mono ?_; rintro e w1 ⟨A1, c1, rfl, ho1, hb1⟩)
  go_ret
  exact ⟨A1, c1, rfl, ho1, hb1⟩

set_option maxHeartbeats 400000 in
theorem moves_any (B p : Nat) (q : St) (x : RpC) (w : World) (h : Rp w B p q x) : Calls Tryz.prog 19 #[.pointer (some ⟨p, 0, none⟩)] w fun e w' => ∃ A c, e = .returned (.slice A q.mv.length c) ∧ XOwns w' w.heap.size 48 6 A q.mv.length c (mcells q.mv) ∧ Below w.heap.size w w' := by
  have x3 := (h.blk.at_ 3).trans rfl
  have hn := h.nm_eq
  have hc := h.ok.cnt
  have HR := Lib.hid h.mv.reads
  have HA := Lib.hid h.cap0.2
  rw [hn] at x3 HR
  clear h
  generalize hk : q.mv.length = k at *
  have hkb : k ≤ 1000000 := by omega
  clear hc hn hk
  go_enter Tryz.func19, Tryz.ntmps19
  go_wp2_with (go_at_call 46; refine (mclone_any _ _ _ _ _ HR.out HA.out hkb).mono ?_; rintro e w1 ⟨A1, c1, rfl, ho1, hb1⟩)
  go_ret
  exact ⟨A1, c1, rfl, ho1, hb1⟩

theorem mcells_row {w : World} {A : Option Addr} {n : Nat} {l : List MoveV} (h : Reads w 6 A n (mcells l)) : RowR w 6 A n (l.map MoveV.cells) := by
  refine ⟨by simpa [mcells, List.flatMap] using h, fun r hr => ?_, ?_⟩
  · obtain ⟨m, _, rfl⟩ := List.mem_map.1 hr
    rfl
  · have := h.1
    rw [mcells_len] at this
    rw [List.length_map]
    omega
theorem move_at {w : World} {A : Option Addr} {n : Nat} {m : List MoveV} (h : Reads w 6 A n (mcells m)) {k : Nat} (hk : k < n) : ∃ (ad : Addr) (v : MoveV), A = some ad ∧ ad.block < w.heap.size ∧ m[k]? = some v ∧
    w.cell? (ad.add (k * 6)) = some (.int .i64 v.p) ∧ w.cell? ⟨(ad.add (k * 6)).block, (ad.add (k * 6)).off + 1, none⟩ = some (.int .i64 v.why) ∧ w.cell? ⟨(ad.add (k * 6)).block, (ad.add (k * 6)).off + 2, none⟩ = some (.int .i64 v.k) ∧
    w.cell? ⟨(ad.add (k * 6)).block, (ad.add (k * 6)).off + 3, none⟩ = some (.int .i64 v.id) ∧ w.cell? ⟨(ad.add (k * 6)).block, (ad.add (k * 6)).off + 4, none⟩ = some (.int .i64 v.to) ∧ w.cell? ⟨(ad.add (k * 6)).block, (ad.add (k * 6)).off + 5, none⟩ = some (.int .u64 v.at_) := by
  obtain ⟨ad, r, e, hb, hr, _, hc⟩ := RowR.at_ (mcells_row h) hk
  rw [List.getElem?_map] at hr
  obtain ⟨v, hv, rfl⟩ := Option.map_eq_some_iff.1 hr
  exact ⟨ad, v, e, hb, hv, hc 0 _ rfl, part_at 0 (hc 1 _ rfl), part_at 1 (hc 2 _ rfl), part_at 2 (hc 3 _ rfl), part_at 3 (hc 4 _ rfl), part_at 4 (hc 5 _ rfl)⟩

def moveEq (a b : MoveV) : Bool := a.p == b.p && a.why == b.why && (a.k == b.k && a.id == b.id && a.to == b.to) && a.at_ == b.at_
theorem moveEq_iff (a b : MoveV) : moveEq a b = true ↔ a = b := by
  cases a; cases b
  simp [moveEq, and_assoc]
/-- Two lists, compared one element after the other. -/
def allEq {α : Type} (d : α) (eq : α → α → Bool) (l m : List α) : Bool := l.length == m.length && (List.range l.length).all fun i => eq (l.getD i d) (m.getD i d)
theorem allEq_iff {α : Type} (d : α) (eq : α → α → Bool) (h : ∀ a b, eq a b = true ↔ a = b) (l m : List α) : allEq d eq l m = true ↔ l = m := by
  unfold allEq
  rw [Bool.and_eq_true, beq_iff_eq, List.all_eq_true]
  constructor
  · rintro ⟨h1, h2⟩
    refine List.ext_getElem h1 fun i q1 q2 => ?_
    have := (h _ _).1 (h2 i (List.mem_range.2 q1))
    simpa [List.getD, List.getElem?_eq_getElem q1, List.getElem?_eq_getElem q2] using this
  · rintro rfl
    exact ⟨rfl, fun i _ => (h _ _).2 rfl⟩
def m0 : MoveV := ⟨0, 0, 0, 0, 0, 0⟩
def movesEq (l m : List MoveV) : Bool := allEq m0 moveEq l m
theorem movesEq_iff (l m : List MoveV) : movesEq l m = true ↔ l = m := allEq_iff m0 moveEq moveEq_iff l m

theorem below_drew_ {B : Nat} {a w : World} (h : Below B a w) (k : Nat) : Below B a (w.drewN k) := ⟨h.os, h.tape, h.output, h.size, h.block⟩

theorem neq_move (a b : MoveV) (W : World) : (binOp .neq 48 (.agg #[.int .i64 a.p, .int .i64 a.why, .int .i64 a.k, .int .i64 a.id, .int .i64 a.to, .int .u64 a.at_]) (.agg #[.int .i64 b.p, .int .i64 b.why, .int .i64 b.k, .int .i64 b.id, .int .i64 b.to, .int .u64 b.at_])).run Tryz.prog W = .ok (.bool (!moveEq a b)) W := by
  have h72 : Tryz.prog.underlying 48 = some (.struct (Tryz.prog.fieldsOf 48)) := by kernel_rfl
  have h70 : Tryz.prog.underlying 44 = some (.struct (Tryz.prog.fieldsOf 44)) := by kernel_rfl
  have p72 : Tryz.prog.stoodInHeld 48 = false := by kernel_rfl
  have p70 : Tryz.prog.stoodInHeld 44 = false := by kernel_rfl
  rw [run_neq_struct, run_equalIn_agg W 9999 48 _ _ h72 p72]
  simp [Program.fieldsOf, Tryz.underlying48, Op.eqFields, go_sem, moveEq]
  repeat' split
  all_goals simp_all

set_option maxHeartbeats 1600000 in
theorem mequal_any (A B : Option Addr) (n c n' c' : Nat) (l m : List MoveV) (w : World) (hx : Reads w 6 A n (mcells l)) (hy : Reads w 6 B n' (mcells m)) (hn : n ≤ 9223372036854775807) (hn' : n' ≤ 9223372036854775807) :
    Calls Tryz.prog 50 #[.slice A n c, .slice B n' c'] w fun e w' => e = .returned (.bool (movesEq l m)) ∧ Below w.heap.size w w' := by
  have hl : l.length = n := by have := hx.1; rw [mcells_len] at this; omega
  have hm : m.length = n' := by have := hy.1; rw [mcells_len] at this; omega
  by_cases hne : n = n'
  · subst hne
    have HX := Lib.hid hx
    have HY := Lib.hid hy
    have HL := Lib.hid hl
    have HM := Lib.hid hm
    clear hx hy hl hm
    go_enter Tryz.func50, Tryz.ntmps50
    go_wp2
    go_loopw [5] (fun i W => ∃ k : Nat, k ≤ n ∧ i = .int .i64 k ∧ Hid (∀ j, j < k → moveEq (l.getD j m0) (m.getD j m0) = true) ∧ Below w.heap.size w W) (fun i _ => n - (intOf i).toNat)
    case atStart => exact ⟨0, Nat.zero_le _, rfl, Lib.hid (fun j h => absurd h (by omega)), Below.refl _ _⟩
    case round =>
      obtain ⟨k, hk, rfl, HE, hB⟩ := hrel
      have hz := hB.size
      by_cases hlt : k < n
      · obtain ⟨ad, v, rfl, hab, hv, c0, c1, c2, c3, c4, c5⟩ := move_at (HX.out.below hB) hlt
        obtain ⟨bd, v', rfl, hbb, hv', e0, e1, e2, e3, e4, e5⟩ := move_at (HY.out.below hB) hlt
        have hlt' : (k : Int) < n := by omega
        have HV : Hid (l.getD k m0 = v) := Lib.hid (by simp [List.getD, hv])
        have HV' : Hid (m.getD k m0 = v') := Lib.hid (by simp [List.getD, hv'])
        clear hv hv'
        have hnq := neq_move v v'
        have hgd : Tryz.prog.eqGuardType Tryz.prog.depth 48 = false := by kernel_rfl
        cases hq : moveEq v v' with
        | true =>
          rw [hq] at hnq
          have HQ := Lib.hid hq
          clear hq
          go_wp2
          go_quiet (fail)
          clear hnq
          go_wp2
          go_roundw
          case rel => exact ⟨k + 1, by omega, by go_num, Lib.hid (fun j hj => by
            rcases Nat.lt_or_ge j k with h | h
            · exact HE.out j h
            · obtain rfl : j = k := by omega
              rw [HV.out, HV'.out]; exact HQ.out), below_drew_ hB nq⟩
          case measure => simp [intOf]; omega
        | false =>
          rw [hq] at hnq
          have HQ := Lib.hid hq
          clear hq
          have HF : Hid (movesEq l m = false) := Lib.hid (by
            rw [Bool.eq_false_iff]
            intro h
            have hlm := (allEq_iff m0 moveEq moveEq_iff _ _).1 h
            have h1 := HQ.out
            rw [← HV.out, ← HV'.out, hlm, Bool.eq_false_iff] at h1
            exact h1 ((moveEq_iff _ _).2 rfl))
          go_wp2
          go_quiet (fail)
          clear hnq
          go_wp2
          go_ret
          exact ⟨by rw [HF.out]; rfl, below_drew_ hB nq⟩
      · obtain rfl : k = n := by omega
        have HT : Hid (movesEq l m = true) := Lib.hid (by
          unfold movesEq allEq
          rw [Bool.and_eq_true, beq_iff_eq, List.all_eq_true, HL.out, HM.out]
          exact ⟨rfl, fun i hi => HE.out i (List.mem_range.1 hi)⟩)
        go_wp2
        go_ret
        exact ⟨by rw [HT.out]; rfl, hB⟩
  · have HF : Hid (movesEq l m = false) := Lib.hid (by
      rw [Bool.eq_false_iff]
      intro h
      have hlm := (allEq_iff m0 moveEq moveEq_iff _ _).1 h
      rw [hlm] at hl
      omega)
    have hb : (n != n') = true := by simp [hne]
    clear hx hy hl hm hne
    go_enter Tryz.func50, Tryz.ntmps50
    go_wp2
    all_goals go_ret
    all_goals exact ⟨by rw [HF.out]; rfl, Below.refl _ _⟩
theorem mequal_same (A B : Option Addr) (n c c' : Nat) (l : List MoveV) (w : World) (hx : Reads w 6 A n (mcells l)) (hy : Reads w 6 B n (mcells l)) (hn : n ≤ 4096) :
    Calls Tryz.prog 50 #[.slice A n c, .slice B n c'] w fun e w' => e = .returned (.bool true) ∧ Below w.heap.size w w' := by
  have := mequal_any A B n c n c' l l w hx hy (by omega) (by omega)
  rw [(movesEq_iff l l).2 rfl] at this
  exact this
theorem BOwns.cap {w : World} {base : Nat} {e : TypeId} {A : Option Addr} {n cap : Nat} {xs : List Int} (h : BOwns w base e A n cap xs) : n ≤ cap ∧ cap ≤ 9223372036854775807 := by
  rcases h.1.2 with ⟨h0, h1⟩ | ⟨g, c, cur, h1, h2, h3, h4, h5, _⟩
  · injection h0 with _ _ h0
    omega
  · injection h1 with _ _ h1
    unfold maxLen at h5
    omega
end Go.Proofs.YtpbbemmjodegkaaGreatDoor
