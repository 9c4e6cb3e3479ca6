/-
  BoundJudges: for every configuration and all lists the statement BoundJudges answers true; no condition.
-/
import Derived.Test.YtleckpoppmecdaaBoundJudgesE
set_option linter.unusedSimpArgs false
set_option linter.unusedVariables false
namespace Go.Proofs.Ytleckpoppmecdaa.boundJudges
open Go.Joins Go.ChangeShapes Go.WideShapes Go.ChangeAt Go.RowKit
open Go.ChangeMaps (open_string shut_string)

set_option maxHeartbeats 800000 in
theorem walk_big (c : Cfg) (A M : Option Addr) (nB cB nM cM : Nat) (w : World) (hs : smallB c = false) :
    Calls Try.prog 4 #[.agg #[.int .i64 c.l, .int .i64 c.m, .int .i64 c.a, .int .i64 c.o, .int .i64 c.t, .int .i64 c.c, .int .u64 c.rope, .int .u64 c.bank, .int .u64 c.bonus, .int .u64 c.most, .int .i64 c.str, .int .u64 c.gr, .string c.s0, .string c.s1, .int .i64 c.mi, .int .i64 c.ke], .slice A nB cB, .slice M nM cM] w fun e w' => e = .returned (.bool true) ∧ Below w.heap.size w w' := by
  have HS := Lib.hid hs
  clear hs
  go_enter Try.func4, Try.ntmps4
  go_wp2_with (first
    | (go_at_call 6; refine (small_of c _ HS.out _).mono ?_; rintro e w1 ⟨rfl, hb1⟩; have hB1 : Below w.heap.size w w1 := below_call (by (focus (repeat' (first | (with_reducible exact Below.refl _ _) | (with_reducible assumption) | (with_reducible refine Below.alloc ?_ ?_ _) | (with_reducible refine below_drewN ?_ _) | (with_reducible refine Below.drew ?_) | (with_reducible refine Below.setCell ?_ ?_ _) | omega | (simp; done) | (simp; omega))))) hb1 (by (focus (first | omega | (simp only [World.size_alloc]; done) | (simp only [World.size_alloc]; omega) | (simp; done) | (simp; omega)))); clear hb1)
    | (go_at_call 7; refine (known_any _).mono ?_; rintro e w2 ⟨rfl, hb2⟩; have hB2 : Below w.heap.size w w2 := below_call hB1 hb2 hB1.size; clear hb2)
    | fail)
  go_returns
  exact ⟨rfl, hB2⟩

set_option maxHeartbeats 800000 in
theorem walk_no (c : Cfg) (A M : Option Addr) (nB cB nM cM : Nat) (w : World) (hs : smallB c = true) (ho : okB c = false) :
    Calls Try.prog 4 #[.agg #[.int .i64 c.l, .int .i64 c.m, .int .i64 c.a, .int .i64 c.o, .int .i64 c.t, .int .i64 c.c, .int .u64 c.rope, .int .u64 c.bank, .int .u64 c.bonus, .int .u64 c.most, .int .i64 c.str, .int .u64 c.gr, .string c.s0, .string c.s1, .int .i64 c.mi, .int .i64 c.ke], .slice A nB cB, .slice M nM cM] w fun e w' => e = .returned (.bool true) ∧ Below w.heap.size w w' := by
  have HS := Lib.hid hs
  have HNO := Lib.hid ho
  clear hs ho
  go_enter Try.func4, Try.ntmps4
  go_wp2_with (first
    | (go_at_call 6; refine (small_of c _ HS.out _).mono ?_; rintro e w1 ⟨rfl, hb1⟩; have hk1 := keep_at hb1 w.heap.size (by simp); have hB1 : Below w.heap.size w w1 := below_call (by (focus (repeat' (first | (with_reducible exact Below.refl _ _) | (with_reducible assumption) | (with_reducible refine Below.alloc ?_ ?_ _) | (with_reducible refine below_drewN ?_ _) | (with_reducible refine Below.drew ?_) | (with_reducible refine Below.setCell ?_ ?_ _) | omega | (simp; done) | (simp; omega))))) hb1 (by (focus (first | omega | (simp only [World.size_alloc]; done) | (simp only [World.size_alloc]; omega) | (simp; done) | (simp; omega)))); have hZ1 : w.heap.size < w1.heap.size := (by have := hb1.size; simp at this; omega); clear hb1)
    | (go_at_call 8; refine (allowed_of c _ HNO.out _).mono ?_; rintro e w3 ⟨rfl, hb3⟩; have hB3 : Below w.heap.size w w3 := below_call hB1 hb3 hB1.size; clear hb3)
    | (go_at_call 7; refine (known_any _).mono ?_; rintro e w5 ⟨rfl, hb5⟩; have hB5 : Below w.heap.size w w5 := below_call hB3 hb5 hB3.size; clear hb5)
    | fail)
  go_returns
  exact ⟨rfl, hB5⟩

set_option maxHeartbeats 800000 in
theorem walk_long (c : Cfg) (A M : Option Addr) (nB cB nM cM : Nat) (w : World) (hs : smallB c = true) (ho : okB c = true) (hn : (10 : Int) < nB ∨ (10 : Int) < nM) :
    Calls Try.prog 4 #[.agg #[.int .i64 c.l, .int .i64 c.m, .int .i64 c.a, .int .i64 c.o, .int .i64 c.t, .int .i64 c.c, .int .u64 c.rope, .int .u64 c.bank, .int .u64 c.bonus, .int .u64 c.most, .int .i64 c.str, .int .u64 c.gr, .string c.s0, .string c.s1, .int .i64 c.mi, .int .i64 c.ke], .slice A nB cB, .slice M nM cM] w fun e w' => e = .returned (.bool true) ∧ Below w.heap.size w w' := by
  have HS := Lib.hid hs
  have HNO := Lib.hid ho
  clear hs ho
  go_enter Try.func4, Try.ntmps4
  by_cases hb : (10 : Int) < nB
  · clear hn
    go_wp2_with (first
      | (go_at_call 6; refine (small_of c _ HS.out _).mono ?_; rintro e w1 ⟨rfl, hb1⟩; have hk1 := keep_at hb1 w.heap.size (by simp); have hB1 : Below w.heap.size w w1 := below_call (by (focus (repeat' (first | (with_reducible exact Below.refl _ _) | (with_reducible assumption) | (with_reducible refine Below.alloc ?_ ?_ _) | (with_reducible refine below_drewN ?_ _) | (with_reducible refine Below.drew ?_) | (with_reducible refine Below.setCell ?_ ?_ _) | omega | (simp; done) | (simp; omega))))) hb1 (by (focus (first | omega | (simp only [World.size_alloc]; done) | (simp only [World.size_alloc]; omega) | (simp; done) | (simp; omega)))); have hZ1 : w.heap.size < w1.heap.size := (by have := hb1.size; simp at this; omega); clear hb1)
      | (go_at_call 8; refine (allowed_of c _ HNO.out _).mono ?_; rintro e w3 ⟨rfl, hb3⟩; have hB3 : Below w.heap.size w w3 := below_call hB1 hb3 hB1.size; clear hb3)
      | (go_at_call 7; refine (known_any _).mono ?_; rintro e w5 ⟨rfl, hb5⟩; have hB5 : Below w.heap.size w w5 := below_call hB3 hb5 hB3.size; clear hb5)
      | fail)
    go_returns
    exact ⟨rfl, hB5⟩
  · have hm : (10 : Int) < nM := by omega
    clear hn
    go_wp2_with (first
      | (go_at_call 6; refine (small_of c _ HS.out _).mono ?_; rintro e w1 ⟨rfl, hb1⟩; have hk1 := keep_at hb1 w.heap.size (by simp); have hB1 : Below w.heap.size w w1 := below_call (by (focus (repeat' (first | (with_reducible exact Below.refl _ _) | (with_reducible assumption) | (with_reducible refine Below.alloc ?_ ?_ _) | (with_reducible refine below_drewN ?_ _) | (with_reducible refine Below.drew ?_) | (with_reducible refine Below.setCell ?_ ?_ _) | omega | (simp; done) | (simp; omega))))) hb1 (by (focus (first | omega | (simp only [World.size_alloc]; done) | (simp only [World.size_alloc]; omega) | (simp; done) | (simp; omega)))); have hZ1 : w.heap.size < w1.heap.size := (by have := hb1.size; simp at this; omega); clear hb1)
      | (go_at_call 8; refine (allowed_of c _ HNO.out _).mono ?_; rintro e w3 ⟨rfl, hb3⟩; have hB3 : Below w.heap.size w w3 := below_call hB1 hb3 hB1.size; clear hb3)
      | (go_at_call 7; refine (known_any _).mono ?_; rintro e w5 ⟨rfl, hb5⟩; have hB5 : Below w.heap.size w w5 := below_call hB3 hb5 hB3.size; clear hb5)
      | fail)
    go_returns
    exact ⟨rfl, hB5⟩

set_option maxRecDepth 100000 in
set_option maxHeartbeats 2400000 in
theorem walk_main (c : Cfg) (A M : Option Addr) (nB cB nM cM : Nat) (xs ys : List Int) (w : World) (hs : smallB c = true) (ho : okB c = true) (hx : IReads w A nB xs) (hy : IReads w M nM ys) (hb : (nB : Int) ≤ 10) (hm : (nM : Int) ≤ 10) :
    Calls Try.prog 4 #[.agg #[.int .i64 c.l, .int .i64 c.m, .int .i64 c.a, .int .i64 c.o, .int .i64 c.t, .int .i64 c.c, .int .u64 c.rope, .int .u64 c.bank, .int .u64 c.bonus, .int .u64 c.most, .int .i64 c.str, .int .u64 c.gr, .string c.s0, .string c.s1, .int .i64 c.mi, .int .i64 c.ke], .slice A nB cB, .slice M nM cM] w fun e w' => e = .returned (.bool true) ∧ Below w.heap.size w w' := by
  have HS := Lib.hid hs
  have HNO := Lib.hid ho
  have HX := Lib.hid hx
  have HY := Lib.hid hy
  have HE0 := Lib.hid (BoxAt.start c w)
  clear hs ho hx hy
  go_enter Try.func4, Try.ntmps4
  have hb' : decide ((10 : Int) < nB) = false := by simp; omega
  have hm' : decide ((10 : Int) < nM) = false := by simp; omega
  have HBB := Lib.hid hb
  have HMM := Lib.hid hm
  clear hb hm
  go_wp2_with (first
    | (refine load_box HE0.out (by rfl) _ rfl rfl ?_)
    | (refine load_box HE1.out (by rfl) _ rfl rfl ?_)
    | (go_at_call 6; refine (small_of c _ HS.out _).mono ?_; rintro e w1 ⟨rfl, hb1⟩; have hk1 := keep_at hb1 w.heap.size (by simp); have hB1 : Below w.heap.size w w1 := below_call (by (focus (repeat' (first | (with_reducible exact Below.refl _ _) | (with_reducible assumption) | (with_reducible refine Below.alloc ?_ ?_ _) | (with_reducible refine below_drewN ?_ _) | (with_reducible refine Below.drew ?_) | (with_reducible refine Below.setCell ?_ ?_ _) | omega | (simp; done) | (simp; omega))))) hb1 (by (focus (first | omega | (simp only [World.size_alloc]; done) | (simp only [World.size_alloc]; omega) | (simp; done) | (simp; omega)))); have hZ1 : w.heap.size < w1.heap.size := (by have := hb1.size; simp at this; omega); have HE1 := Lib.hid (BoxAt.below HE0.out hb1); clear hb1)
    | (go_at_call 8; refine (allowed_of c _ HNO.out _).mono ?_; rintro e w3 ⟨rfl, hb3⟩; have hk3 := keep_at hb3 w.heap.size hZ1; have hB3 : Below w.heap.size w w3 := below_call hB1 hb3 hB1.size; have hZ3 : w.heap.size < w3.heap.size := (by have := hb3.size; omega); have HE3 := Lib.hid (BoxAt.below HE1.out hb3); clear hb3)
    | fail)
  clear hk1 hB1 hZ1 HE1 hk3
  clear hb' hm'
  generalize (.agg #[.int .i64 c.l, .int .i64 c.m, .int .i64 c.a, .int .i64 c.o, .int .i64 c.t, .int .i64 c.c, .int .u64 c.rope, .int .u64 c.bank, .int .u64 c.bonus, .int .u64 c.most, .int .i64 c.str, .int .u64 c.gr, .string c.s0, .string c.s1, .int .i64 c.mi, .int .i64 c.ke] : Value) = V0
  go_loopg [7, 8] nB (fun k v i W => ∃ (j : Nat) (lA : Option Addr) (lc : Nat) (ds : List DidR), j + k = nB ∧ i = .int .i64 j ∧ v = .slice lA j lc ∧ LRow W (w.heap.size + 1) (.slice lA j lc) j ds ∧ BoxAt c w W)
  case atStart => exact ⟨0, none, 0, [], by omega, rfl, rfl, LRow.nil _ _, HE3.out⟩
  case round =>
    obtain ⟨j, lA, lc, ds, hj, rfl, rfl, hL, hE⟩ := hrel
    by_cases hjn : j < nB
    · obtain ⟨ad, rfl, hadw, _⟩ := HX.out.at_ hjn
      obtain ⟨ad', e', _, hcell⟩ := (IReads.below HX.out hE.bel).at_ hjn
      obtain rfl : ad = ad' := by simpa using e'
      clear e'
      have hjn' : (j : Int) < nB := by omega
      have hj10 : (j : Int) ≤ 10 := by have := HBB.out; omega
      have HE := Lib.hid hE
      have HL := Lib.hid hL
      have hB := hE.bel
      have hZ := hE.size
      clear hE hL
      generalize hz : nth xs j = z at *
      by_cases hz1 : z < -2
      · as_aux_lemma =>
          go_wp2_with (first
            | (go_at_call 7; refine (known_any _).mono ?_; rintro e w5 ⟨rfl, hb5⟩; have hB5 : Below w.heap.size w w5 := below_call hB hb5 hB.size; clear hb5)
            | fail)
          go_returns
          exact ⟨rfl, hB5⟩
      · by_cases hz2 : 2 < z
        · as_aux_lemma =>
            go_wp2_with (first
              | (go_at_call 7; refine (known_any _).mono ?_; rintro e w5 ⟨rfl, hb5⟩; have hB5 : Below w.heap.size w w5 := below_call hB hb5 hB.size; clear hb5)
              | fail)
            go_returns
            exact ⟨rfl, hB5⟩
        · have hb10 := ok_bd HNO.out
          have hg10 := pr_bd (ok_game HNO.out)
          have hby : 0 ≤ bytI c := by unfold bytI movI; omega
          clear hb10 hg10
          go_wp2
          obtain ⟨wd, hwd⟩ : ∃ W, W = wr.alloc (.cells zc 49) := ⟨_, rfl⟩
          have hwd' : wr.alloc (.cells #[.int .i64 0, .int .i64 0, .int .i64 0, .slice none 0 0, .int .i64 0, .int .i64 0, .slice none 0 0, .slice none 0 0, .int .i64 0, .int .u64 0] 49) = wd := hwd.symm
          rw [hwd']
          clear hwd'
          have hdc := Lib.hid (fun o => (hwd ▸ cell_new wr _ 49 o : wd.cell? ⟨wr.heap.size, o, none⟩ = _))
          have hdf := Lib.hid (fun o => (hwd ▸ frozen_new wr _ 49 o : wd.frozen? ⟨wr.heap.size, o, none⟩ = false))
          have hBd : Below wr.heap.size wr wd := hwd ▸ Below.alloc (Below.refl _ _) (Nat.le_refl _) _
          have hZd : wd.heap.size = wr.heap.size + 1 := by rw [hwd]; simp
          have HEd := Lib.hid (BoxAt.below HE.out hBd)
          have hcd : wd.cell? (ad.add j) = some (.int .i8 z) := (hBd.cell (by rw [block_of_add]; omega)).trans hcell
          have hadd : ad.block < wd.heap.size := by omega
          clear hwd hcell
          go_region_held3 (fun W => W.cell? (ad.add j) = some (.int .i8 z) ∧ Below wd.heap.size wd W ∧ (W.cell? ⟨w.heap.size, 0, none⟩ = some (.int .i64 c.l) ∧ W.cell? ⟨w.heap.size, 1, none⟩ = some (.int .i64 c.m) ∧ W.cell? ⟨w.heap.size, 2, none⟩ = some (.int .i64 c.a) ∧ W.cell? ⟨w.heap.size, 3, none⟩ = some (.int .i64 c.o) ∧ W.cell? ⟨w.heap.size, 4, none⟩ = some (.int .i64 c.t) ∧ W.cell? ⟨w.heap.size, 5, none⟩ = some (.int .i64 c.c) ∧ W.cell? ⟨w.heap.size, 6, none⟩ = some (.int .u64 c.rope) ∧ W.cell? ⟨w.heap.size, 7, none⟩ = some (.int .u64 c.bank) ∧ W.cell? ⟨w.heap.size, 8, none⟩ = some (.int .u64 c.bonus) ∧ W.cell? ⟨w.heap.size, 9, none⟩ = some (.int .u64 c.most) ∧ W.cell? ⟨w.heap.size, 10, none⟩ = some (.int .i64 c.str) ∧ W.cell? ⟨w.heap.size, 11, none⟩ = some (.int .u64 c.gr) ∧ W.cell? ⟨w.heap.size, 12, none⟩ = some (.string c.s0) ∧ W.cell? ⟨w.heap.size, 13, none⟩ = some (.string c.s1) ∧ W.cell? ⟨w.heap.size, 14, none⟩ = some (.int .i64 c.mi) ∧ W.cell? ⟨w.heap.size, 15, none⟩ = some (.int .i64 c.ke) ∧ w.heap.size + 1 ≤ W.heap.size ∧ Below w.heap.size w W))
            (first
              | assumption
              | (obtain ⟨g0, g1, g2, g3, g4, g5, g6, g7, g8, g9, g10, g11, g12, g13, g14, g15, gz, gB⟩ := HEd.out.cells; exact ⟨hcd, (Below.refl _ _).drew, g0, g1, g2, g3, g4, g5, g6, g7, g8, g9, g10, g11, g12, g13, g14, g15, gz, gB.drew⟩)
              | (obtain ⟨q1, q2, q3⟩ := (show _ ∧ _ ∧ _ by assumption); exact ⟨(hb.cell (by rw [block_of_add]; have := q2.size; omega)).trans q1, below_call q2 hb q2.size, (HEd.out.below (below_call q2 hb q2.size)).cells⟩))
            (first
              | (go_at_call 12; refine (rbytes_any c _ HNO.out).mono ?_; rintro e w' ⟨rfl, hb⟩)
              | fail)
          rename_i hHeld
          obtain ⟨hc10, hB10, hE10⟩ := hHeld
          clear hE10
          obtain ⟨L, hL⟩ : ∃ L, (if 2000000 < bytI c then (2000000 : Int) else bytI c) = L := ⟨_, rfl⟩
          have hLb : L ≤ 2000000 ∧ 0 ≤ L := by rw [← hL]; split <;> omega
          simp only [hL]
          clear hL
          generalize hN : IntKind.i64.wrap (L - IntKind.i64.wrap z) = N
          have hN1 : N ≤ 2000002 ∧ -10 ≤ N := by
            rw [← hN, IntWalk.i64_in z (by omega), IntWalk.i64_in _ (by omega)]
            omega
          clear hN
          obtain ⟨hN1, hN2⟩ := hN1
          generalize (.agg #[.int .i64 c.l, .int .i64 c.m, .int .i64 c.a, .int .i64 c.o, .int .i64 c.t, .int .i64 c.c, .int .u64 c.rope, .int .u64 c.bank, .int .u64 c.bonus, .int .u64 c.most, .int .i64 c.str, .int .u64 c.gr, .string c.s0, .string c.s1, .int .i64 c.mi, .int .i64 c.ke] : Value) = V1
          generalize w' = wt at *
          have hBt : Below wr.heap.size wr wt := hBd.trans (hB10.mono (by omega))
          have hZt : wr.heap.size < wt.heap.size := by have := hB10.size; omega
          have hdt : Hid (∀ o, wt.cell? ⟨wr.heap.size, o, none⟩ = zcAt o) := fun o => (keep_at hB10 wr.heap.size (by omega) o).trans (hdc.out o)
          have hft : Hid (∀ o, wt.frozen? ⟨wr.heap.size, o, none⟩ = false) := fun o => (keepf_at hB10 wr.heap.size (by omega) o).trans (hdf.out o)
          clear hdc hdf hBd hZd HEd hcd hadd hc10 hB10
          generalize wr = w0 at *
          generalize gk = k0 at *
          go_upto_block 2 with fail
          go_cut [10] (fun s W => ∃ (x : Int) (p : Nat) (sA : Option Addr) (sc : Nat) (ls : List Nat), s = .int .i64 x ∧ Hid (St w0 wt sA sc p ls W) ∧ Hid (ls.sum ≤ 65535 * p ∧ p ≤ 31) ∧ W.cell? ⟨w0.heap.size, 7, none⟩ = some (.slice none 0 0))
          case first =>
            go_wp2_with fail
            go_loopg [10] 40 (fun k x W => ∃ (p : Nat) (sA : Option Addr) (sc : Nat) (ls : List Nat), p + k = 40 ∧ x = .int .i64 (N - 65535 * (p : Int)) ∧ Hid (SRow W wt.heap.size (.slice sA p sc) p ls ∧ ls.sum ≤ 65535 * p ∧ p ≤ 31) ∧ Below w0.heap.size w0 W ∧ wt.heap.size ≤ W.heap.size ∧ Hid (∀ o, W.cell? ⟨w0.heap.size, o, none⟩ = if o = 6 then some (.slice sA p sc) else zcAt o) ∧ Hid (∀ o, W.frozen? ⟨w0.heap.size, o, none⟩ = false))
            case atStart =>
              refine ⟨0, none, 0, [], by omega, by simp, Lib.hid ⟨SRow.nil _ _, Nat.zero_le _, Nat.zero_le _⟩, hBt, Nat.le_refl _, Lib.hid (fun o => ?_), hft⟩
              by_cases ho : o = 6
              · subst ho; rw [hdt.out]; rfl
              · rw [if_neg ho]; exact hdt.out o
            case round =>
              obtain ⟨p, sA, sc, ls, hp, rfl, HS6, hBi, hZi, HD, HF⟩ := hrel
              by_cases hpos : 0 < N - 65535 * (p : Int)
              · have hp30 : p ≤ 30 := by omega
                generalize hnn : N - 65535 * (p : Int) = nn at *
                have hn2 : nn ≤ 2000002 := by omega
                obtain ⟨m, hmm, hm2⟩ : ∃ m : Nat, (if 65535 < nn then 65535 else nn) = (m : Int) ∧ m ≤ 65535 := ⟨(if 65535 < nn then 65535 else nn).toNat, by split <;> omega, by split <;> omega⟩
                have hmk := fun W => make_u8 m hm2 _ rfl W
                have HSR : Hid (∀ W, Below wr.heap.size wr W → SRow W wt.heap.size (.slice sA p sc) p ls) := fun W h => HS6.out.1.below h
                have h6 : wr.cell? ⟨w0.heap.size, 6, none⟩ = some (.slice sA p sc) := by rw [HD.out 6]; rfl
                have hf6 := HF.out 6
                have hgz : w0.heap.size < wr.heap.size := by omega
                have e12 : wrap64 (nn - 65535) = nn - 65535 := by simp only [wrap64]; omega
                go_wp2
                go_region_law ((refine step_append_sent rfl (.tmp 63) (.tmp 68) rfl wt.heap.size _ p ls rfl (HSR.out _ (by (focus (repeat' (first | (with_reducible exact Below.refl _ _) | (with_reducible assumption) | (with_reducible refine Below.alloc ?_ ?_ _) | (with_reducible refine below_drewN ?_ _) | (with_reducible refine Below.drew ?_) | (with_reducible refine Below.setCell ?_ ?_ _) | omega | (simp; done) | (simp; omega)))))) (wr.heap.size + 1) 1 (some ⟨wr.heap.size, 0, none⟩) m m rfl ((World.cell?_alloc_at _ _ _ _ (by simp)).trans rfl) ((World.cell?_alloc_at _ _ _ _ (by simp)).trans rfl) (by omega) (by (focus (first | omega | (simp only [World.size_alloc]; done) | (simp only [World.size_alloc]; omega) | (simp; done) | (simp; omega)))) ?_; intro g cap w6 hs6 hb6; have HS7 := Lib.hid hs6; clear hs6; have k6 := keep_two (W := wr) (by (focus (repeat' (first | (with_reducible exact Below.refl _ _) | (with_reducible assumption) | (with_reducible refine Below.alloc ?_ ?_ _) | (with_reducible refine below_drewN ?_ _) | (with_reducible refine Below.drew ?_) | (with_reducible refine Below.setCell ?_ ?_ _) | omega | (simp; done) | (simp; omega))))) hb6 w0.heap.size (by omega) (by omega); have kf6 := keepf_two (W := wr) (by (focus (repeat' (first | (with_reducible exact Below.refl _ _) | (with_reducible assumption) | (with_reducible refine Below.alloc ?_ ?_ _) | (with_reducible refine below_drewN ?_ _) | (with_reducible refine Below.drew ?_) | (with_reducible refine Below.setCell ?_ ?_ _) | omega | (simp; done) | (simp; omega))))) hb6 w0.heap.size (by omega) (by omega); have hZ6 : wt.heap.size ≤ w6.heap.size := (by have := hb6.size; simp at this; omega); have hg6 : w0.heap.size < w6.heap.size := (by omega); have HB6 := Lib.hid (Below.trans (B := w0.heap.size) (a := w0) (by (focus (repeat' (first | (with_reducible exact Below.refl _ _) | (with_reducible assumption) | (with_reducible refine Below.alloc ?_ ?_ _) | (with_reducible refine below_drewN ?_ _) | (with_reducible refine Below.drew ?_) | (with_reducible refine Below.setCell ?_ ?_ _) | omega | (simp; done) | (simp; omega))))) (hb6.mono (by omega))); clear hb6))
                all_goals
                  go_wp2
                  go_roundg (gk - 1)
                  case measure => omega
                  case rel =>
                    have hsome : (w6.cell? ⟨w0.heap.size, 6, none⟩).isSome = true := by rw [k6 6, h6]; rfl
                    refine ⟨p + 1, some ⟨g, 0, none⟩, cap, ls ++ [m], by omega, congrArg (Value.int .i64) (by omega), Lib.hid ⟨HS7.out.set (by simp only; omega) _, ?_, by omega⟩, Below.setCell HB6.out (by simp only; omega) _, by simpa using hZ6, Lib.hid (fun o => ?_), Lib.hid (fun o => ?_)⟩
                    · rw [List.sum_append]
                      have := HS6.out.2.1
                      simp only [List.sum_cons, List.sum_nil]
                      omega
                    · by_cases ho : o = 6
                      · subst ho; rw [World.cell?_setCell_same' _ _ _ hsome]; rfl
                      · rw [if_neg ho, World.cell?_setCell_other (h := (by intro h; injection h with _ h2; exact ho h2.symm)), k6 o, HD.out o, if_neg ho]
                    · rw [World.frozen?_setCell, kf6 o, HF.out o]
              · have HT : Hid (St w0 wt sA sc p ls wr) := Lib.hid ⟨hBi, hZi, HS6.out.1, fun o _ => HD.out o, HF.out, by rw [HD.out 7]; rfl⟩
                have HQ := Lib.hid HS6.out.2
                have h7 : wr.cell? ⟨w0.heap.size, 7, none⟩ = some (.slice none 0 0) := by rw [HD.out 7]; rfl
                generalize hnn : N - 65535 * (p : Int) = nn at *
                go_wp2
                go_meet
                exact ⟨_, p, sA, sc, ls, rfl, HT, HQ, h7⟩
          case rest =>
            obtain ⟨x, p, sA, sc, ls, rfl, HT, HQ, h7⟩ := hcut
            generalize wc = w1 at *
            clear hdt hft
            have HE1 := Lib.hid (BoxAt.below HE.out HT.out.1)
            have hBw1 := HE1.out.bel
            have hZ1 := HE1.out.size
            have hLlt := Lib.hid HL.out.own_lt
            go_upto_region 14 with fail
            go_cut [93] (fun s W => ∃ b : Bool, s = .bool b ∧ (b = true → (j : Int) < nM ∧ -2 ≤ nth ys j ∧ nth ys j ≤ 2 ∧ movI c ≤ 100000) ∧ Hid (St w0 wt sA sc p ls W) ∧ Hid (BoxAt c w W) ∧ W.cell? ⟨w0.heap.size, 7, none⟩ = some (.slice none 0 0))
            case first =>
              by_cases hjm : (j : Int) < nM
              · obtain ⟨ad2', e2', _, hcy⟩ := (IReads.below HY.out hBw1).at_ (show j < nM by omega)
                subst e2'
                have hyy := Lib.hid (rfl : nth ys j = nth ys j)
                generalize hzy : nth ys j = y at *
                have HZY := Lib.hid hzy
                clear hzy hyy
                by_cases hy1 : -2 ≤ y
                · by_cases hy2 : y ≤ 2
                  · by_cases hmv : movI c ≤ 100000
                    · have hmvb : decide (movI c ≤ 100000) = true := by simp; omega
                      go_wp2_with (first
                        | (refine load_box HE1.out (by rfl) _ rfl rfl ?_)
                        | (go_at_call 11; refine (rmoves_any c _ HNO.out).mono ?_; rintro e w8 ⟨rfl, hb8⟩; have HE8 := Lib.hid (BoxAt.below HE1.out hb8); have HT8 := Lib.hid (HT.out.below hb8 hZt); have h78 := (keep_at hb8 w0.heap.size (by have := HT.out.2.1; omega) 7).trans h7; clear hb8)
                        | fail)
                      go_meet
                      exact ⟨true, rfl, (fun _ => ⟨hjm, hy1, hy2, hmv⟩), HT8, HE8, h78⟩
                    · have hmvb : decide (movI c ≤ 100000) = false := by simp; omega
                      go_wp2_with (first
                        | (refine load_box HE1.out (by rfl) _ rfl rfl ?_)
                        | (go_at_call 11; refine (rmoves_any c _ HNO.out).mono ?_; rintro e w8 ⟨rfl, hb8⟩; have HE8 := Lib.hid (BoxAt.below HE1.out hb8); have HT8 := Lib.hid (HT.out.below hb8 hZt); have h78 := (keep_at hb8 w0.heap.size (by have := HT.out.2.1; omega) 7).trans h7; clear hb8)
                        | fail)
                      go_meet
                      exact ⟨false, rfl, (fun h => by cases h), HT8, HE8, h78⟩
                  · go_wp2_with fail
                    go_meet
                    exact ⟨false, rfl, (fun h => by cases h), HT, HE1, h7⟩
                · go_wp2_with fail
                  go_meet
                  exact ⟨false, rfl, (fun h => by cases h), HT, HE1, h7⟩
              · go_wp2_with fail
                go_meet
                exact ⟨false, rfl, (fun h => by cases h), HT, HE1, h7⟩
            case rest =>
              obtain ⟨b, rfl, hb, HT2, HE2, h72⟩ := hcut
              generalize wc = w2 at *
              clear HT HE1 hBw1 hZ1 h7
              have HT := HT2
              have h7 := h72
              clear HT2 h72
              have HB := Lib.hid hb
              clear hb
              cases b with
              | false =>
                have HEW := HE2
                have HT9 := HT
                have HS9 := Lib.hid (st_new (W := w2) HT9.out HQ.out (.slice lA j lc) hLlt.out hZt none 0 0)
                have HL9 := Lib.hid (HL.out.below HT9.out.1)
                obtain ⟨d0, d1, d2, d3, d4, d5, d6, d8, d9⟩ := HT9.out.cells
                have hZ9 : w0.heap.size < (w2).heap.size := by have := HT9.out.2.1; omega
                go_wp2_with (first
                  | (at_builtin; refine append_did _ rfl (.tmp 104) (.tmp 106) rfl (w.heap.size + 1) _ j ds rfl ?_ (w2).heap.size 1 ⟨sA, p, sc, none, 0, 0, ls⟩ rfl ?_ ?_ ?_ ?_ ?_ ?_; exact (HL9.out.below (Below.alloc (Below.refl _ _) (Nat.le_refl _) _)); exact (did_lit _ ⟨sA, p, sc, none, 0, 0, ls⟩); exact ⟨HS9.out.1.1.below (Below.alloc (Below.refl _ _) (Nat.le_refl _) _), HS9.out.1.2⟩; exact (fun ad e => ⟨(HS9.out.2 ad e).1, by have := (HS9.out.2 ad e).2; simp; omega⟩); (have := HBB.out; omega); (focus (first | omega | (simp only [World.size_alloc]; done) | (simp only [World.size_alloc]; omega) | (simp; done) | (simp; omega))); intro g cap w7 hL7 hb7; have HL7 := Lib.hid hL7; clear hL7; have HE7 := Lib.hid (BoxAt.belowB (BoxAt.below HEW.out (Below.alloc (Below.refl _ _) (Nat.le_refl _) _)) hb7); clear hb7)
                  | fail)
                go_roundg (k0 - 1)
                case measure => omega
                case rel => exact ⟨j + 1, some ⟨g, 0, none⟩, cap, ds ++ [⟨sA, p, sc, none, 0, 0, ls⟩], by omega, by go_num, rfl, HL7.out, HE7.out⟩
              | true =>
                obtain ⟨hjm, hy1, hy2, hmv⟩ := HB.out rfl
                obtain ⟨ad2, rfl, had2, _⟩ := HY.out.at_ (show j < nM by omega)
                obtain ⟨ad2', e2', _, hcy⟩ := (IReads.below HY.out HE2.out.bel).at_ (show j < nM by omega)
                obtain rfl : ad2 = ad2' := by simpa using e2'
                clear e2'
                generalize hzy : nth ys j = y at *
                clear HB hzy
                have hm0 : 0 ≤ movI c - 2 := by have := pr_bd (ok_game HNO.out); unfold movI; omega
                obtain ⟨q, hq⟩ : ∃ q : Nat, movI c - y = (q : Int) := ⟨(movI c - y).toNat, by omega⟩
                have hq2 : q ≤ 200000 := by omega
                have e15a : IntKind.i64.wrap y = y := IntWalk.i64_in _ (by omega)
                have e15b : IntKind.i64.wrap (movI c - y) = (q : Int) := (IntWalk.i64_in _ (by omega)).trans hq
                obtain ⟨ob, hmk⟩ := make_moves q hq2
                clear hq hq2
                have HE8 := HE2
                have HT8 := HT
                have h78 := h7
                have hcy8 := hcy
                have hz8 : ad2.block < w2.heap.size := by have := HE2.out.bel.size; omega
                have hzg8 : w0.heap.size < w2.heap.size := by have := HT.out.2.1; omega
                go_wp2
                have hf78 := HT8.out.2.2.2.2.1 7
                obtain ⟨h0, h1, h2, h3, h4, h5, h6, h7, h8, h9, h10, h11, h12, h13, h14, h15, _, _⟩ := HE8.out.cells
                go_region_law ((go_simp; go_at_call 11; refine (rmoves_any c _ HNO.out).mono ?_; rintro e w9 ⟨rfl, hb9⟩; have HE9 := Lib.hid (BoxAt.below HE8.out.drew hb9); have HT9' := Lib.hid (HT8.out.drew.below hb9 hZt); have h79 := (keep_at hb9 w0.heap.size hzg8 7).trans h78; have hf79 := (keepf_at hb9 w0.heap.size hzg8 7).trans hf78; have hcy9 := (hb9.cell (p := ad2.add j) (by rw [block_of_add]; exact hz8)).trans hcy8; have hzg9 : w0.heap.size < w9.heap.size := Nat.lt_of_lt_of_le hzg8 hb9.size; clear hb9))
                all_goals
                  obtain ⟨wf, hwf⟩ : ∃ W, W = (w9.setCell ⟨w0.heap.size, 7, none⟩ (.slice (some ⟨w9.heap.size, 0, none⟩) q q)).alloc ob := ⟨_, rfl⟩
                  have hset : Below (w.heap.size + 1) w9 (w9.setCell ⟨w0.heap.size, 7, none⟩ (.slice (some ⟨w9.heap.size, 0, none⟩) q q)) := Below.setCell (Below.refl _ _) (by simp only; omega) _
                  have hal : Below (w9.setCell ⟨w0.heap.size, 7, none⟩ (.slice (some ⟨w9.heap.size, 0, none⟩) q q)).heap.size (w9.setCell ⟨w0.heap.size, 7, none⟩ (.slice (some ⟨w9.heap.size, 0, none⟩) q q)) wf := hwf ▸ Below.alloc (Below.refl _ _) (Nat.le_refl _) _
                  have HEW : Hid (BoxAt c w wf) := Lib.hid ((BoxAt.belowB HE9.out hset).below hal)
                  have HT9 : Hid (St w0 wt sA sc p ls wf) := Lib.hid ((HT9'.out.set7 _ hZt).below hal hZt)
                  have h7f : wf.cell? ⟨w0.heap.size, 7, none⟩ = some (.slice (some ⟨w9.heap.size, 0, none⟩) q q) := (keep_at hal w0.heap.size (by simpa using hzg9) 7).trans (World.cell?_setCell_same' _ _ _ (by rw [h79]; rfl))
                  rw [← hwf]
                  clear hwf hset hal h7 h78 h79
                  have HS9 := Lib.hid (st_new (W := wf) HT9.out HQ.out (.slice lA j lc) hLlt.out hZt (some ⟨w9.heap.size, 0, none⟩) q q)
                  have HL9 := Lib.hid (HL.out.below HT9.out.1)
                  obtain ⟨d0, d1, d2, d3, d4, d5, d6, d8, d9⟩ := HT9.out.cells
                  have hZ9 : w0.heap.size < (wf).heap.size := by have := HT9.out.2.1; omega
                  go_wp2_with (first
                    | (at_builtin; refine append_did _ rfl (.tmp 104) (.tmp 106) rfl (w.heap.size + 1) _ j ds rfl ?_ (wf).heap.size 1 ⟨sA, p, sc, (some ⟨w9.heap.size, 0, none⟩), q, q, ls⟩ rfl ?_ ?_ ?_ ?_ ?_ ?_; exact (HL9.out.below (Below.alloc (Below.refl _ _) (Nat.le_refl _) _)); exact (did_lit _ ⟨sA, p, sc, (some ⟨w9.heap.size, 0, none⟩), q, q, ls⟩); exact ⟨HS9.out.1.1.below (Below.alloc (Below.refl _ _) (Nat.le_refl _) _), HS9.out.1.2⟩; exact (fun ad e => ⟨(HS9.out.2 ad e).1, by have := (HS9.out.2 ad e).2; simp; omega⟩); (have := HBB.out; omega); (focus (first | omega | (simp only [World.size_alloc]; done) | (simp only [World.size_alloc]; omega) | (simp; done) | (simp; omega))); intro g cap w7 hL7 hb7; have HL7 := Lib.hid hL7; clear hL7; have HE7 := Lib.hid (BoxAt.belowB (BoxAt.below HEW.out (Below.alloc (Below.refl _ _) (Nat.le_refl _) _)) hb7); clear hb7)
                    | fail)
                  go_roundg (k0 - 1)
                  case measure => omega
                  case rel => exact ⟨j + 1, some ⟨g, 0, none⟩, cap, ds ++ [⟨sA, p, sc, (some ⟨w9.heap.size, 0, none⟩), q, q, ls⟩], by omega, by go_num, rfl, HL7.out, HE7.out⟩
    · have hDD := Lib.hid hL.dids
      have hj4 : Hid (j ≤ 4096) := Lib.hid (by have := HBB.out; omega)
      have HEX := Lib.hid hE
      clear hL hE
      go_wp2
      refine exit17 c w wr lA j lc ds HNO hDD.out hj4 HEX _ _ _ _ _ _ _ _ _ _ _ _ _ _ _ _ _ _ _ _ _ _ _ _ _ _ _ _ _ _ _ _ _ _ _ _ _ _ _ _ _ _ _ _ _ _ _ _ _ _ _ _ _ _ _ _ _ _ _ _ _ _ _ _ _ _ _ _ _ _ _ _ _ _ _ _ _ _ _ _ _ _ _ _ _ _ _ _ _ _ _ _ _ _ _ _ _ _ _ _ _ _ _ _ _ _ _ _ _ _ _ _ _ _ _ _ _ ?_
      intro a W h6 hd hB
      go_at_K
      go_wp2
      exact bodyPost_ret (v := .bool true) (by simp [results, Try.results4, go_sem]; simpa using h6) hd ⟨rfl, hB⟩

theorem cell_lt8 {w : World} {a : Addr} {v : Value} (h : w.cell? a = some v) : a.block < w.heap.size := by
  rcases Nat.lt_or_ge a.block w.heap.size with h' | h'
  · exact h'
  · simp [World.cell?, Array.getElem?_eq_none h'] at h
theorem open_i8 {H : Type} {enc : TypeId × Value → H} {W : World} {base : Nat} {spare : Nat → Bool} {held : Bool} {a : Option Addr} {len cap : Nat} {d : DataW H} {p : List MemPlace} (h : DataW.Trod enc Try.prog W base spare held 39 (.slice a len cap) d p) : ∃ xs : List Int, IReads W a len xs := by
  obtain ⟨fuel, hf⟩ := h
  rcases open_ints Try.underlying39 Try.underlying41 (by kernel_rfl) hf with ⟨hcs, _⟩ | ⟨b, l, c, zs, hcs, _, hl, hm, hz, hx, hcell, hwz⟩
  · simp [Value.cells] at hcs
    obtain ⟨rfl, rfl, rfl⟩ := hcs
    exact ⟨[], Reads.none_⟩
  · simp [Value.cells] at hcs
    obtain ⟨rfl, rfl, rfl⟩ := hcs
    have hzl : len ≤ zs.length := by rw [hz]; split <;> omega
    refine ⟨zs.take len, by simp; omega, fun hl0 => ⟨b, rfl, ?_, fun j u hu => ?_⟩⟩
    · have := cell_lt8 (hcell 0 (by omega))
      rwa [block_of_add] at this
    · have hjl : j < len := by
        rcases Nat.lt_or_ge j len with h | h
        · exact h
        · rw [List.getElem?_eq_none (by simp; omega)] at hu; cases hu
      rw [hcell j (by omega)]
      rw [List.getElem?_map, List.getElem?_take_of_lt hjl, List.getElem?_eq_getElem (show j < zs.length by omega)] at hu
      simp only [Option.map_some] at hu
      rw [← hu]
      simp [List.getD, List.getElem?_eq_getElem (show j < zs.length by omega)]

theorem walk (c : Cfg) (A M : Option Addr) (nB cB nM cM : Nat) (xs ys : List Int) (w : World) (hx : IReads w A nB xs) (hy : IReads w M nM ys) :
    Calls Try.prog 4 #[.agg #[.int .i64 c.l, .int .i64 c.m, .int .i64 c.a, .int .i64 c.o, .int .i64 c.t, .int .i64 c.c, .int .u64 c.rope, .int .u64 c.bank, .int .u64 c.bonus, .int .u64 c.most, .int .i64 c.str, .int .u64 c.gr, .string c.s0, .string c.s1, .int .i64 c.mi, .int .i64 c.ke], .slice A nB cB, .slice M nM cM] w fun e w' => e = .returned (.bool true) ∧ Below w.heap.size w w' := by
  cases hs : smallB c with
  | false => exact walk_big c A M nB cB nM cM w hs
  | true =>
    cases ho : okB c with
    | false => exact walk_no c A M nB cB nM cM w hs ho
    | true =>
      by_cases hn : (10 : Int) < nB ∨ (10 : Int) < nM
      · exact walk_long c A M nB cB nM cM w hs ho hn
      · exact walk_main c A M nB cB nM cM xs ys w hs ho hx hy (by omega) (by omega)

theorem own : ownKnob Try.prog.godebug = none := by kernel_rfl
theorem laidOut : laidOutB Try.prog = true := by kernel_rfl

set_option maxRecDepth 100000 in
theorem lifted (os : Os) (started : os.Started) (H : Type) (enc : TypeId × Value → H) :
    ReturnsInHanded {} Try.checked os 4 .any (Rows.boundJudgesSpec.pre6 enc Try.prog Try.f4 Rows.boundJudgesRow.domain false) (Rows.boundJudgesSpec.post enc Try.prog Try.f4 false true false false) := by
  refine returnsInHanded_of_change (C := Try.checked) own started (by kernel_rfl) Try.func4
    (ChangeSpec.witness6 (enc := enc) (C := Try.checked) false ⟨#[], #[.agg #[.int .i64 0, .int .i64 0, .int .i64 0, .int .i64 0, .int .i64 0, .int .i64 0, .int .u64 0, .int .u64 0, .int .u64 0, .int .u64 0, .int .i64 0, .int .u64 0, .string ⟨#[]⟩, .string ⟨#[]⟩, .int .i64 0, .int .i64 0], .slice none 0 0, .slice none 0 0], []⟩ 8 (by kernel_rfl) (by kernel_rfl) (by kernel_rfl) (by kernel_rfl)) ?_
  intro W base args ds gs before hval0 hW hcnd _
  have hval : ∀ (j : Nat) t v, Try.f4.params[j]? = some t → args[j]? = some v → Value.okWide Try.prog W .any base t v := hval0
  have hW' := hW
  obtain ⟨p, q, hA0, hV, rfl, hfz, hnd⟩ := hW
  have hA : DataW.TrodAll enc Try.prog W 0 (fun _ => true) true Try.f4.params.toList args.toList ds p := hA0
  rw [Try.params4] at hA hval
  obtain ⟨v0, vs0, d0, ds0, p0, q0, hargs, rfl, rfl, h0, r0⟩ := trodAll_cons hA
  obtain ⟨v1, vs1, d1, ds1, p1, q1, rfl, rfl, rfl, h1, r1⟩ := trodAll_cons r0
  obtain ⟨v2, vs2, d2, ds2, p2, q2, rfl, rfl, rfl, h2, r2⟩ := trodAll_cons r1
  obtain ⟨rfl, rfl, rfl⟩ := trodAll_nil r2
  obtain rfl : args = #[v0, v1, v2] := by cases args; simp_all
  obtain ⟨rfl, rfl⟩ := trodVars_none hV
  have k0 := h0
  have lt0 : ∀ x ∈ p0, x.block < W.heap.size := by obtain ⟨m, hm⟩ := k0; exact DataW.trod_lt m _ _ _ hm
  have k1 := h1
  have lt1 : ∀ x ∈ p1, x.block < W.heap.size := by obtain ⟨m, hm⟩ := k1; exact DataW.trod_lt m _ _ _ hm
  have k2 := h2
  have lt2 : ∀ x ∈ p2, x.block < W.heap.size := by obtain ⟨m, hm⟩ := k2; exact DataW.trod_lt m _ _ _ hm
  obtain ⟨c0, rfl, hp0⟩ := open_cfg (hval 0 32 v0 rfl rfl) h0
  obtain ⟨a1, len1, cap1, rfl⟩ := okWide_slice Try.underlying39 (hval 1 39 v1 rfl rfl)
  obtain ⟨z1, wz1⟩ := open_i8 h1
  obtain ⟨a2, len2, cap2, rfl⟩ := okWide_slice Try.underlying39 (hval 2 39 v2 rfl rfl)
  obtain ⟨z2, wz2⟩ := open_i8 h2
  clear hA0 hval0
  refine (walk c0 a1 a2 len1 cap1 len2 cap2 z1 z2 W wz1 wz2).mono fun e W' ⟨he, bel⟩ => ?_
  subst he
  exact ⟨_, rfl, _, _, _, [], _, [], hW', trodAll_mk1 (shut_bool Try.underlying4 _), (trodAll_cons_mk (Below.trod laidOut (by kernel_rfl) (of_decide_eq_true (by kernel_rfl)) k0 bel lt0) (trodAll_cons_mk (Below.trod laidOut (by kernel_rfl) (of_decide_eq_true (by kernel_rfl)) k1 bel lt1) (trodAll_cons_mk (Below.trod laidOut (by kernel_rfl) (of_decide_eq_true (by kernel_rfl)) k2 bel lt2) trodAll_mk0))), rfl, bel.frame _, fun h => by cases h⟩

theorem over : Rows.boundJudgesRow.holds Try.pinned (OpenSpec.ofChange Rows.boundJudgesSpec) :=
  OpenClaim.holds_of_wide 4 Try.f4 rfl rfl rfl rfl rfl rfl rfl ⟨rfl, rfl, rfl, rfl, rfl⟩ rfl rfl rfl rfl rfl (by kernel_rfl) Try.func4 (by kernel_rfl)
    (of_decide_eq_true (by kernel_rfl)) (by unfold Func.isWrapper; first | (rw [if_pos (by decide +kernel)]; kernel_rfl) | (rw [if_neg (by decide +kernel)]; exact ⟨rfl, rfl⟩))
    (fun os started H enc _ => lifted os started H enc)

/-- The statement. -/
theorem proved : Rows.BoundJudgesSaid := over

end Go.Proofs.Ytleckpoppmecdaa.boundJudges
