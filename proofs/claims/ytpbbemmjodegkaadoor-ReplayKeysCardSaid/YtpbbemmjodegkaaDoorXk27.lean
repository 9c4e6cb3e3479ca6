/-
  Texts: Eqs, Reads.
-/
import Derived.Test.YtpbbemmjodegkaaDoorXk24
import Derived.Test.YtpbbemmjodegkaaDoorXk1
import Derived.Laws.StructEq
import Derived.Test.YtpbbemmjodegkaaDoorXk26
import Derived.Handy
set_option linter.unusedSimpArgs false
set_option linter.unusedVariables false
namespace Go.Proofs.YtpbbemmjodegkaaDoor
open Go.RowKit

theorem Rp.cap0 {w : World} {B p : Nat} {q : St} {x : RpC} (h : Rp w B p q x) : (x.A = none → x.c = 0) ∧ (x.M = none → x.cm = 0) := ⟨h.data.2, h.mv.2⟩

set_option maxHeartbeats 400000 in
theorem bytes_any (B p : Nat) (q : St) (x : RpC) (w : World) (h : Rp w B p q x) : Calls Tryd.prog 14 #[.pointer (some ⟨p, 0, none⟩)] w fun e w' => ∃ A c, e = .returned (.slice A q.data.length c) ∧ BOwns w' w.heap.size 5 A q.data.length c q.data ∧ Below w.heap.size w w' := by
  have x1 := (h.blk.at_ 1).trans rfl
  have hn := h.n_eq
  have hl := h.ok.len
  have hc := h.ok.cnt
  have HR := Lib.hid h.bown.reads
  have HA := Lib.hid h.cap0.1
  rw [hn] at x1 HR
  clear h
  generalize hk : q.data.length = k at *
  have hkb : k ≤ 1000000 := by omega
  clear hl hc hn hk
  go_enter Tryd.func14, Tryd.ntmps14
  go_wp2_with (go_at_call 30; refine (bclone_any _ _ _ _ _ HR.out HA.out hkb).mono ?_; rintro e w1 ⟨A1, c1, rfl, ho1, hb1⟩)
  go_ret
  exact ⟨A1, c1, rfl, ho1, hb1⟩

set_option maxHeartbeats 400000 in
theorem moves_any (B p : Nat) (q : St) (x : RpC) (w : World) (h : Rp w B p q x) : Calls Tryd.prog 34 #[.pointer (some ⟨p, 0, none⟩)] w fun e w' => ∃ A c, e = .returned (.slice A q.mv.length c) ∧ XOwns w' w.heap.size 55 6 A q.mv.length c (mcells q.mv) ∧ Below w.heap.size w w' := by
  have x3 := (h.blk.at_ 3).trans rfl
  have hn := h.nm_eq
  have hc := h.ok.cnt
  have HR := Lib.hid h.mv.reads
  have HA := Lib.hid h.cap0.2
  rw [hn] at x3 HR
  clear h
  generalize hk : q.mv.length = k at *
  have hkb : k ≤ 1000000 := by omega
  clear hc hn hk
  go_enter Tryd.func34, Tryd.ntmps34
  go_wp2_with (go_at_call 51; refine (mclone_any _ _ _ _ _ HR.out HA.out hkb).mono ?_; rintro e w1 ⟨A1, c1, rfl, ho1, hb1⟩)
  go_ret
  exact ⟨A1, c1, rfl, ho1, hb1⟩

theorem mcells_row {w : World} {A : Option Addr} {n : Nat} {l : List MoveV} (h : Reads w 6 A n (mcells l)) : RowR w 6 A n (l.map MoveV.cells) := by
  refine ⟨by simpa [mcells, List.flatMap] using h, fun r hr => ?_, ?_⟩
  · obtain ⟨m, _, rfl⟩ := List.mem_map.1 hr
    rfl
  · have := h.1
    rw [mcells_len] at this
    rw [List.length_map]
    omega
theorem move_at {w : World} {A : Option Addr} {n : Nat} {m : List MoveV} (h : Reads w 6 A n (mcells m)) {k : Nat} (hk : k < n) : ∃ (ad : Addr) (v : MoveV), A = some ad ∧ ad.block < w.heap.size ∧ m[k]? = some v ∧
    w.cell? (ad.add (k * 6)) = some (.int .i64 v.p) ∧ w.cell? ⟨(ad.add (k * 6)).block, (ad.add (k * 6)).off + 1, none⟩ = some (.int .i64 v.why) ∧ w.cell? ⟨(ad.add (k * 6)).block, (ad.add (k * 6)).off + 2, none⟩ = some (.int .i64 v.k) ∧
    w.cell? ⟨(ad.add (k * 6)).block, (ad.add (k * 6)).off + 3, none⟩ = some (.int .i64 v.id) ∧ w.cell? ⟨(ad.add (k * 6)).block, (ad.add (k * 6)).off + 4, none⟩ = some (.int .i64 v.to) ∧ w.cell? ⟨(ad.add (k * 6)).block, (ad.add (k * 6)).off + 5, none⟩ = some (.int .u64 v.at_) := by
  obtain ⟨ad, r, e, hb, hr, _, hc⟩ := RowR.at_ (mcells_row h) hk
  rw [List.getElem?_map] at hr
  obtain ⟨v, hv, rfl⟩ := Option.map_eq_some_iff.1 hr
  exact ⟨ad, v, e, hb, hv, hc 0 _ rfl, part_at 0 (hc 1 _ rfl), part_at 1 (hc 2 _ rfl), part_at 2 (hc 3 _ rfl), part_at 3 (hc 4 _ rfl), part_at 4 (hc 5 _ rfl)⟩

def moveEq (a b : MoveV) : Bool := a.p == b.p && a.why == b.why && (a.k == b.k && a.id == b.id && a.to == b.to) && a.at_ == b.at_
theorem moveEq_iff (a b : MoveV) : moveEq a b = true ↔ a = b := by
  cases a; cases b
  simp [moveEq, and_assoc]
def allEq {α : Type} (d : α) (eq : α → α → Bool) (l m : List α) : Bool := l.length == m.length && (List.range l.length).all fun i => eq (l.getD i d) (m.getD i d)
theorem allEq_iff {α : Type} (d : α) (eq : α → α → Bool) (h : ∀ a b, eq a b = true ↔ a = b) (l m : List α) : allEq d eq l m = true ↔ l = m := by
  unfold allEq
  rw [Bool.and_eq_true, beq_iff_eq, List.all_eq_true]
  constructor
  · rintro ⟨h1, h2⟩
    refine List.ext_getElem h1 fun i q1 q2 => ?_
    have := (h _ _).1 (h2 i (List.mem_range.2 q1))
    simpa [List.getD, List.getElem?_eq_getElem q1, List.getElem?_eq_getElem q2] using this
  · rintro rfl
    exact ⟨rfl, fun i _ => (h _ _).2 rfl⟩
def m0 : MoveV := ⟨0, 0, 0, 0, 0, 0⟩
def movesEq (l m : List MoveV) : Bool := allEq m0 moveEq l m
theorem movesEq_iff (l m : List MoveV) : movesEq l m = true ↔ l = m := allEq_iff m0 moveEq moveEq_iff l m

theorem below_drew_ {B : Nat} {a w : World} (h : Below B a w) (k : Nat) : Below B a (w.drewN k) := ⟨h.os, h.tape, h.output, h.size, h.block⟩

theorem neq_move (a b : MoveV) (W : World) : (binOp .neq 55 (.agg #[.int .i64 a.p, .int .i64 a.why, .int .i64 a.k, .int .i64 a.id, .int .i64 a.to, .int .u64 a.at_]) (.agg #[.int .i64 b.p, .int .i64 b.why, .int .i64 b.k, .int .i64 b.id, .int .i64 b.to, .int .u64 b.at_])).run Tryd.prog W = .ok (.bool (!moveEq a b)) W := by
  have h72 : Tryd.prog.underlying 55 = some (.struct (Tryd.prog.fieldsOf 55)) := by kernel_rfl
  have h70 : Tryd.prog.underlying 52 = some (.struct (Tryd.prog.fieldsOf 52)) := by kernel_rfl
  have p72 : Tryd.prog.stoodInHeld 55 = false := by kernel_rfl
  have p70 : Tryd.prog.stoodInHeld 52 = false := by kernel_rfl
  rw [run_neq_struct, run_equalIn_agg W 9999 55 _ _ h72 p72]
  simp [Program.fieldsOf, Tryd.underlying55, Op.eqFields, go_sem, moveEq]
  repeat' split
  all_goals simp_all

set_option maxHeartbeats 1600000 in
theorem mequal_any (A B : Option Addr) (n c n' c' : Nat) (l m : List MoveV) (w : World) (hx : Reads w 6 A n (mcells l)) (hy : Reads w 6 B n' (mcells m)) (hn : n ≤ 9223372036854775807) (hn' : n' ≤ 9223372036854775807) :
    Calls Tryd.prog 33 #[.slice A n c, .slice B n' c'] w fun e w' => e = .returned (.bool (movesEq l m)) ∧ Below w.heap.size w w' := by
  have hl : l.length = n := by have := hx.1; rw [mcells_len] at this; omega
  have hm : m.length = n' := by have := hy.1; rw [mcells_len] at this; omega
  by_cases hne : n = n'
  · subst hne
    have HX := Lib.hid hx
    have HY := Lib.hid hy
    have HL := Lib.hid hl
    have HM := Lib.hid hm
    clear hx hy hl hm
    go_enter Tryd.func33, Tryd.ntmps33
    go_wp2
    go_loopw [5] (fun i W => ∃ k : Nat, k ≤ n ∧ i = .int .i64 k ∧ Hid (∀ j, j < k → moveEq (l.getD j m0) (m.getD j m0) = true) ∧ Below w.heap.size w W) (fun i _ => n - (intOf i).toNat)
    case atStart => exact ⟨0, Nat.zero_le _, rfl, Lib.hid (fun j h => absurd h (by omega)), Below.refl _ _⟩
    case round =>
      obtain ⟨k, hk, rfl, HE, hB⟩ := hrel
      have hz := hB.size
      by_cases hlt : k < n
      · obtain ⟨ad, v, rfl, hab, hv, c0, c1, c2, c3, c4, c5⟩ := move_at (HX.out.below hB) hlt
        obtain ⟨bd, v', rfl, hbb, hv', e0, e1, e2, e3, e4, e5⟩ := move_at (HY.out.below hB) hlt
        have hlt' : (k : Int) < n := by omega
        have HV : Hid (l.getD k m0 = v) := Lib.hid (by simp [List.getD, hv])
        have HV' : Hid (m.getD k m0 = v') := Lib.hid (by simp [List.getD, hv'])
        clear hv hv'
        have hnq := neq_move v v'
        have hgd : Tryd.prog.eqGuardType Tryd.prog.depth 55 = false := by kernel_rfl
        cases hq : moveEq v v' with
        | true =>
          rw [hq] at hnq
          have HQ := Lib.hid hq
          clear hq
          go_wp2
          go_quiet (fail)
          clear hnq
          go_wp2
          go_roundw
          case rel => exact ⟨k + 1, by omega, by go_num, Lib.hid (fun j hj => by
            rcases Nat.lt_or_ge j k with h | h
            · exact HE.out j h
            · obtain rfl : j = k := by omega
              rw [HV.out, HV'.out]; exact HQ.out), below_drew_ hB nq⟩
          case measure => simp [intOf]; omega
        | false =>
          rw [hq] at hnq
          have HQ := Lib.hid hq
          clear hq
          have HF : Hid (movesEq l m = false) := Lib.hid (by
            rw [Bool.eq_false_iff]
            intro h
            have hlm := (allEq_iff m0 moveEq moveEq_iff _ _).1 h
            have h1 := HQ.out
            rw [← HV.out, ← HV'.out, hlm, Bool.eq_false_iff] at h1
            exact h1 ((moveEq_iff _ _).2 rfl))
          go_wp2
          go_quiet (fail)
          clear hnq
          go_wp2
          go_ret
          exact ⟨by rw [HF.out]; rfl, below_drew_ hB nq⟩
      · obtain rfl : k = n := by omega
        have HT : Hid (movesEq l m = true) := Lib.hid (by
          unfold movesEq allEq
          rw [Bool.and_eq_true, beq_iff_eq, List.all_eq_true, HL.out, HM.out]
          exact ⟨rfl, fun i hi => HE.out i (List.mem_range.1 hi)⟩)
        go_wp2
        go_ret
        exact ⟨by rw [HT.out]; rfl, hB⟩
  · have HF : Hid (movesEq l m = false) := Lib.hid (by
      rw [Bool.eq_false_iff]
      intro h
      have hlm := (allEq_iff m0 moveEq moveEq_iff _ _).1 h
      rw [hlm] at hl
      omega)
    have hb : (n != n') = true := by simp [hne]
    clear hx hy hl hm hne
    go_enter Tryd.func33, Tryd.ntmps33
    go_wp2
    all_goals go_ret
    all_goals exact ⟨by rw [HF.out]; rfl, Below.refl _ _⟩
theorem mequal_same (A B : Option Addr) (n c c' : Nat) (l : List MoveV) (w : World) (hx : Reads w 6 A n (mcells l)) (hy : Reads w 6 B n (mcells l)) (hn : n ≤ 4096) :
    Calls Tryd.prog 33 #[.slice A n c, .slice B n c'] w fun e w' => e = .returned (.bool true) ∧ Below w.heap.size w w' := by
  have := mequal_any A B n c n c' l l w hx hy (by omega) (by omega)
  rw [(movesEq_iff l l).2 rfl] at this
  exact this
theorem BOwns.cap {w : World} {base : Nat} {e : TypeId} {A : Option Addr} {n cap : Nat} {xs : List Int} (h : BOwns w base e A n cap xs) : n ≤ cap ∧ cap ≤ 9223372036854775807 := by
  rcases h.1.2 with ⟨h0, h1⟩ | ⟨g, c, cur, h1, h2, h3, h4, h5, _⟩
  · injection h0 with _ _ h0
    omega
  · injection h1 with _ _ h1
    unfold maxLen at h5
    omega

theorem readF_key : ∀ (f : Nat) (q : St) (xs : List Int), (readF f q xs).key = q.key := by
  intro f
  induction f with
  | zero => intro q xs; rfl
  | succ f ih =>
    intro q xs
    simp only [readF]
    split
    · split
      · rw [ih]; rfl
      · rfl
    · rfl
theorem readS_key (q : St) (xs : List Int) : (readS q xs).key = q.key := readF_key _ _ _

set_option maxRecDepth 100000 in
set_option maxHeartbeats 1600000 in
theorem reads_q (key : Int) (q : St) (A M : Option Addr) (n c mc : Nat) (xs : List Int) (w : World) (hk : 0 ≤ key ∧ key ≤ 4294967295) (hx : BReads w A n xs) (hc : n ≤ c) (hc2 : c ≤ 9223372036854775807) (hA : A = none → c = 0)
    (hM : Reads w 6 M q.mv.length (mcells q.mv)) (hq : readS (st0 key) xs = q) (hd : q.data = xs.take q.data.length) (hu : q.data.length ≤ n) :
    Calls Tryd.prog 17 #[.int .u32 key, .slice A n c, .slice M q.mv.length mc, .int .i64 q.data.length] w fun e w' => e = .returned (.bool true) ∧ Below w.heap.size w w' := by
  have HX : Hid (∀ W, Below w.heap.size w W → BReads W A n xs) := fun W hb => hx.below hb
  have HM : Hid (∀ W, Below w.heap.size w W → Reads W 6 M q.mv.length (mcells q.mv)) := fun W hb => hM.below hb
  have HA := Lib.hid hA
  have HK := Lib.hid hk
  have HD := Lib.hid hd
  have hkey : Hid (q.key = key) := Lib.hid (by rw [← hq, readS_key]; rfl)
  have HQ := Lib.hid hq
  have hu' : (q.data.length : Int) ≤ c := by omega
  clear hx hA hM hk hq hd
  go_enter Tryd.func17, Tryd.ntmps17
  go_wp2_with fail
  refine (readr_any key A n c xs _ HK.out (HX.out _ (Below.refl _ _)) hc hc2 HA.out).mono ?_
  rintro e w1 ⟨x, he, hR, hb1⟩
  rw [HQ.out] at he hR
  subst he
  have HR := Lib.hid hR
  have hcnt := hR.ok.cnt
  have hz1 := hb1.size
  have hzp := hR.blk.lt
  clear hR
  have v2 : ∀ s : Later w1.heap.size w1, (convert 35 9 (.slice A q.data.length c)).run Tryd.prog s.W = .ok (.string (strOfNums q.data)) s.W := fun s => by
    have h := (HX.out _ (hb1.trans (s.h.mono hz1))).head hu
    rw [← HD.out] at h
    exact convert_bytes (P := Tryd.prog) h c 35 5 Tryd.underlying35 Tryd.underlying5 9 Tryd.underlying9
  go_wp2
  refine wp_region_sched (fun w' => ∃ s : Later w1.heap.size w1, w' = s.W) [0,1,2,3,5] (.one 4 [6,7,8,9,11] (.one 10 [] (.one 12 [13,14,15,16,17,18,19,20,23,24,25,26] (.one 21 [] (.one 22 [27,28,29] .done))))) (by kernel_rfl) (by kernel_rfl) (fun d _ _ _ _ h => by cases d <;> exact h) ⟨⟨_, (Below.refl _ _).drew⟩, rfl⟩ ?_
  simp only [opsAt, List.getElem?_toArray, List.getElem?_cons_succ, List.getElem?_cons_zero]
  repeat (go_big_quiet_step (fail))
  refine wpQuiet_nil ?_
  (refine eff_lit rfl rfl (fun K hK => ?_))
  go_big_op
  refine (key_any w.heap.size w.heap.size q x _ (HR.out.below (Below.refl _ _).drew)).mono ?_
  rintro e w2 ⟨rfl, rfl⟩
  rw [hkey.out]
  refine hK _ _ ⟨⟨_, (Below.refl _ _).drew⟩, rfl⟩ ?_
  clear hK K
  simp only [opsAt, List.getElem?_toArray, List.getElem?_cons_succ, List.getElem?_cons_zero]
  repeat (go_big_quiet_step (fail))
  refine wpQuiet_nil ?_
  (refine eff_lit rfl rfl (fun K hK => ?_))
  go_big_op
  refine (moves_any w.heap.size w.heap.size q x _ (HR.out.below (Below.refl _ _).drew)).mono ?_
  rintro e w3 ⟨A3, c3, rfl, ho3, hb3⟩
  have hB3 : Below w1.heap.size w1 w3 := (Below.refl _ _).drew.trans hb3
  have HO3 := Lib.hid ho3
  clear ho3
  refine hK _ _ ⟨⟨_, hB3⟩, rfl⟩ ?_
  clear hK K
  simp only [opsAt, List.getElem?_toArray, List.getElem?_cons_succ, List.getElem?_cons_zero]
  refine wpQuiet_nil ?_
  (refine eff_lit rfl rfl (fun K hK => ?_))
  go_big_op
  refine (mequal_same A3 M q.mv.length c3 mc q.mv _ HO3.out.reads (HM.out _ (hb1.trans (hB3.mono hz1))) hcnt).mono ?_
  rintro e w4 ⟨rfl, hb4⟩
  have hB4 := below_call hB3 hb4 hB3.size
  refine hK _ _ ⟨⟨_, hB4⟩, rfl⟩ ?_
  clear hK K
  simp only [opsAt, List.getElem?_toArray, List.getElem?_cons_succ, List.getElem?_cons_zero]
  repeat (go_big_quiet_step (fail))
  refine wpQuiet_nil ?_
  (refine eff_lit rfl rfl (fun K hK => ?_))
  go_big_op
  refine (bytes_any w.heap.size w.heap.size q x _ (HR.out.below hB4)).mono ?_
  rintro e w5 ⟨A5, c5, rfl, ho5, hb5⟩
  have hB5 := below_call hB4 hb5 hB4.size
  have v5 := convert_bytes (P := Tryd.prog) ho5.reads c5 35 5 Tryd.underlying35 Tryd.underlying5 9 Tryd.underlying9
  clear ho5
  refine hK _ _ ⟨⟨_, hB5⟩, rfl⟩ ?_
  clear hK K
  simp only [opsAt, List.getElem?_toArray, List.getElem?_cons_succ, List.getElem?_cons_zero]
  refine wpQuiet_nil ?_
  (refine eff_lit rfl rfl (fun K hK => ?_))
  go_big_op
  refine hK _ _ ⟨⟨_, hB5⟩, rfl⟩ ?_
  clear hK K
  simp only [opsAt, List.getElem?_toArray, List.getElem?_cons_succ, List.getElem?_cons_zero]
  repeat (go_big_quiet_step (fail))
  refine wpQuiet_nil ?_
  refine effs_done ?_
  clear v2 v5
  go_wp2
  go_ret
  exact ⟨rfl, hb1.trans (hB5.mono hz1)⟩

def passV : MoveV := ⟨1, 1, 1, 0, 0, 5⟩
def concedeV : MoveV := ⟨0, 4, 0, 0, 0, 300⟩
theorem pass_any (w : World) : Calls Tryd.prog 13 #[] w fun e w' => e = .returned (.agg #[.int .i64 1, .int .i64 1, .int .i64 1, .int .i64 0, .int .i64 0, .int .u64 5]) ∧ Below w.heap.size w w' := by
  go_enter Tryd.func13, Tryd.ntmps13
  go_wp2
  go_returns
  exact ⟨rfl, by (focus (repeat' (first | (with_reducible exact Below.refl _ _) | (with_reducible assumption) | (with_reducible refine Below.alloc ?_ ?_ _) | (with_reducible refine below_drewN ?_ _) | (with_reducible refine Below.drew ?_) | (with_reducible refine Below.setCell ?_ ?_ _) | omega | (simp; done) | (simp; omega))))⟩
theorem concede_any (w : World) : Calls Tryd.prog 15 #[] w fun e w' => e = .returned (.agg #[.int .i64 0, .int .i64 4, .int .i64 0, .int .i64 0, .int .i64 0, .int .u64 300]) ∧ Below w.heap.size w w' := by
  go_enter Tryd.func15, Tryd.ntmps15
  go_wp2
  go_returns
  exact ⟨rfl, by (focus (repeat' (first | (with_reducible exact Below.refl _ _) | (with_reducible assumption) | (with_reducible refine Below.alloc ?_ ?_ _) | (with_reducible refine below_drewN ?_ _) | (with_reducible refine Below.drew ?_) | (with_reducible refine Below.setCell ?_ ?_ _) | omega | (simp; done) | (simp; omega))))⟩
end Go.Proofs.YtpbbemmjodegkaaDoor
