/-
  ScriptEquals: for all operations and all things that were done the statement ScriptEquals answers true; no condition.
-/
import Derived.Test.YtpmlipcpohajgaaKnown
import Derived.Test.YtpmlipcpohajgaaOpen
import Derived.Test.YtpmlipcpohajgaaOpenDid
import Derived.Test.YtpmlipcpohajgaaLight
import Derived.Test.YtpmlipcpohajgaaRSameAll
import Derived.Test.YtpmlipcpohajgaaLater
import Derived.ProofKit
import Derived.OpenShut
import Derived.ShutString
import Derived.ChangeOld
import Derived.Below
import Derived.Lib.SmallJoins
set_option linter.unusedSimpArgs false
set_option linter.unusedVariables false
namespace Go.Proofs.Ytpmlipcpohajgaa.scriptEquals
open Go.Joins Go.ChangeShapes Go.WideShapes Go.ChangeAt Go.RowKit
open Go.ChangeMaps (open_string shut_string)


theorem same17_self (x : DidC) (w : World) (hx : DidIs w x) :
    Calls Try.prog 17 #[.agg #[.int .i64 x.sk, .int .i64 x.sc, .int .i64 x.sn, .slice x.dA x.sd.length x.dc, .int .i64 x.err, .int .i64 x.n, .slice x.sA x.sents.length x.sC, .slice x.mA x.moves.length x.mC, .int .i64 x.work, .int .u64 x.at_], .agg #[.int .i64 x.sk, .int .i64 x.sc, .int .i64 x.sn, .slice x.dA x.sd.length x.dc, .int .i64 x.err, .int .i64 x.n, .slice x.sA x.sents.length x.sC, .slice x.mA x.moves.length x.mC, .int .i64 x.work, .int .u64 x.at_]] w fun e w' => e = .returned (.bool true) ∧ Below w.heap.size w w' := by
  have h := same17_any x x w hx hx
  rw [didEq_self] at h
  exact h
theorem equal_self (a : OpC) (w : World) (hx : BReads w a.A a.v.d.length a.v.d) :
    Calls Try.prog 15 #[.agg #[.int .i64 a.v.k, .int .i64 a.v.c, .int .i64 a.v.n, .int .i64 a.v.m, .slice a.A a.v.d.length a.cap], .agg #[.int .i64 a.v.k, .int .i64 a.v.c, .int .i64 a.v.n, .int .i64 a.v.m, .slice a.A a.v.d.length a.cap]] w fun e w' => e = .returned (.bool true) ∧ Below w.heap.size w w' := by
  have h := equal_any a.v a.v a.A a.A _ a.cap _ a.cap w hx hx
  rw [(opEq_iff _ _).2 rfl] at h
  exact h

/-- The two lists of bytes are short; both things are light, or not. -/
def Boxes (w W : World) (a b : OpC) (x y : DidC) : Prop := Blk W w.heap.size 33 #[.int .i64 a.v.k, .int .i64 a.v.c, .int .i64 a.v.n, .int .i64 a.v.m, .slice a.A a.v.d.length a.cap] ∧ Blk W (w.heap.size + 1) 33 #[.int .i64 b.v.k, .int .i64 b.v.c, .int .i64 b.v.n, .int .i64 b.v.m, .slice b.A b.v.d.length b.cap] ∧ Blk W (w.heap.size + 2) 46 #[.int .i64 x.sk, .int .i64 x.sc, .int .i64 x.sn, .slice x.dA x.sd.length x.dc, .int .i64 x.err, .int .i64 x.n, .slice x.sA x.sents.length x.sC, .slice x.mA x.moves.length x.mC, .int .i64 x.work, .int .u64 x.at_] ∧ Blk W (w.heap.size + 3) 46 #[.int .i64 y.sk, .int .i64 y.sc, .int .i64 y.sn, .slice y.dA y.sd.length y.dc, .int .i64 y.err, .int .i64 y.n, .slice y.sA y.sents.length y.sC, .slice y.mA y.moves.length y.mC, .int .i64 y.work, .int .u64 y.at_] ∧ Below w.heap.size w W

set_option maxRecDepth 100000 in
set_option maxHeartbeats 1600000 in
theorem walk (a b : OpC) (x y : DidC) (w : World) (ha : BReads w a.A a.v.d.length a.v.d) (hb : BReads w b.A b.v.d.length b.v.d) (hx : DidIs w x) (hy : DidIs w y) :
    Calls Try.prog 5 #[.agg #[.int .i64 a.v.k, .int .i64 a.v.c, .int .i64 a.v.n, .int .i64 a.v.m, .slice a.A a.v.d.length a.cap], .agg #[.int .i64 b.v.k, .int .i64 b.v.c, .int .i64 b.v.n, .int .i64 b.v.m, .slice b.A b.v.d.length b.cap], .agg #[.int .i64 x.sk, .int .i64 x.sc, .int .i64 x.sn, .slice x.dA x.sd.length x.dc, .int .i64 x.err, .int .i64 x.n, .slice x.sA x.sents.length x.sC, .slice x.mA x.moves.length x.mC, .int .i64 x.work, .int .u64 x.at_], .agg #[.int .i64 y.sk, .int .i64 y.sc, .int .i64 y.sn, .slice y.dA y.sd.length y.dc, .int .i64 y.err, .int .i64 y.n, .slice y.sA y.sents.length y.sC, .slice y.mA y.moves.length y.mC, .int .i64 y.work, .int .u64 y.at_]] w fun e w' => e = .returned (.bool true) ∧ Below w.heap.size w w' := by
  have HA : Hid (∀ W, Below w.heap.size w W → BReads W a.A a.v.d.length a.v.d) := fun W h => ha.below h
  have HB : Hid (∀ W, Below w.heap.size w W → BReads W b.A b.v.d.length b.v.d) := fun W h => hb.below h
  have HX : Hid (∀ W, Below w.heap.size w W → DidIs W x) := fun W h => hx.below h
  have HY : Hid (∀ W, Below w.heap.size w W → DidIs W y) := fun W h => hy.below h
  clear ha hb hx hy
  by_cases h1 : (300 : Int) < a.v.d.length
  · go_enter Try.func5, Try.ntmps5
    go_wp2_with (go_at_call 6; refine (known_any _).mono ?_; rintro e w9 ⟨rfl, hb9⟩)
    go_ret
    exact ⟨rfl, Below.trans (by (focus (repeat' (first | (with_reducible exact Below.refl _ _) | (with_reducible assumption) | (with_reducible refine Below.alloc ?_ ?_ _) | (with_reducible refine below_drewN ?_ _) | (with_reducible refine Below.drew ?_) | (with_reducible refine Below.setCell ?_ ?_ _) | omega | (simp; done) | (simp; omega))))) (hb9.mono (by (focus (first | omega | (simp only [World.size_alloc]; done) | (simp only [World.size_alloc]; omega) | (simp; done) | (simp; omega)))))⟩
  by_cases h2 : (300 : Int) < b.v.d.length
  · go_enter Try.func5, Try.ntmps5
    go_wp2_with (go_at_call 6; refine (known_any _).mono ?_; rintro e w9 ⟨rfl, hb9⟩)
    go_ret
    exact ⟨rfl, Below.trans (by (focus (repeat' (first | (with_reducible exact Below.refl _ _) | (with_reducible assumption) | (with_reducible refine Below.alloc ?_ ?_ _) | (with_reducible refine below_drewN ?_ _) | (with_reducible refine Below.drew ?_) | (with_reducible refine Below.setCell ?_ ?_ _) | omega | (simp; done) | (simp; omega))))) (hb9.mono (by (focus (first | omega | (simp only [World.size_alloc]; done) | (simp only [World.size_alloc]; omega) | (simp; done) | (simp; omega)))))⟩
  go_enter Try.func5, Try.ntmps5
  go_wp2_with fail
  refine (light_any x _ (HX.out _ (by (focus (repeat' (first | (with_reducible exact Below.refl _ _) | (with_reducible assumption) | (with_reducible refine Below.alloc ?_ ?_ _) | (with_reducible refine below_drewN ?_ _) | (with_reducible refine Below.drew ?_) | (with_reducible refine Below.setCell ?_ ?_ _) | omega | (simp; done) | (simp; omega))))))).mono ?_
  rintro e w1 ⟨b1, rfl, hb1⟩
  have H1 : Boxes w w1 a b x y := ⟨((((Blk.mk_ w 33 _ _ rfl).alloc _).alloc _).alloc _).call hb1, (((Blk.mk_ _ 33 _ _ (by simp)).alloc _).alloc _).call hb1, ((Blk.mk_ _ 46 _ _ (by simp)).alloc _).call hb1, (Blk.mk_ _ 46 _ _ (by simp)).call hb1, Below.trans (by (focus (repeat' (first | (with_reducible exact Below.refl _ _) | (with_reducible assumption) | (with_reducible refine Below.alloc ?_ ?_ _) | (with_reducible refine below_drewN ?_ _) | (with_reducible refine Below.drew ?_) | (with_reducible refine Below.setCell ?_ ?_ _) | omega | (simp; done) | (simp; omega))))) (hb1.mono (by (focus (first | omega | (simp only [World.size_alloc]; done) | (simp only [World.size_alloc]; omega) | (simp; done) | (simp; omega)))))⟩
  clear hb1
  obtain ⟨Ha, Hb, Hx, Hy, hB1⟩ := H1
  have py0 : w1.cell? ⟨w.heap.size + 3, 0, none⟩ = some (.int .i64 y.sk) := (Hy.at_ 0).trans rfl
  have py1 : w1.cell? ⟨w.heap.size + 3, 1, none⟩ = some (.int .i64 y.sc) := (Hy.at_ 1).trans rfl
  have py2 : w1.cell? ⟨w.heap.size + 3, 2, none⟩ = some (.int .i64 y.sn) := (Hy.at_ 2).trans rfl
  have py3 : w1.cell? ⟨w.heap.size + 3, 3, none⟩ = some (.slice y.dA y.sd.length y.dc) := (Hy.at_ 3).trans rfl
  have py4 : w1.cell? ⟨w.heap.size + 3, 4, none⟩ = some (.int .i64 y.err) := (Hy.at_ 4).trans rfl
  have py5 : w1.cell? ⟨w.heap.size + 3, 5, none⟩ = some (.int .i64 y.n) := (Hy.at_ 5).trans rfl
  have py6 : w1.cell? ⟨w.heap.size + 3, 6, none⟩ = some (.slice y.sA y.sents.length y.sC) := (Hy.at_ 6).trans rfl
  have py7 : w1.cell? ⟨w.heap.size + 3, 7, none⟩ = some (.slice y.mA y.moves.length y.mC) := (Hy.at_ 7).trans rfl
  have py8 : w1.cell? ⟨w.heap.size + 3, 8, none⟩ = some (.int .i64 y.work) := (Hy.at_ 8).trans rfl
  have py9 : w1.cell? ⟨w.heap.size + 3, 9, none⟩ = some (.int .u64 y.at_) := (Hy.at_ 9).trans rfl
  have Ha := Lib.hid Ha
  have Hb := Lib.hid Hb
  have Hx := Lib.hid Hx
  have Hy := Lib.hid Hy
  have hz1 := hB1.size
  cases b1 with
  | false =>
    go_wp2_with (go_at_call 6; refine (known_any _).mono ?_; rintro e w9 ⟨rfl, hb9⟩)
    go_ret
    exact ⟨rfl, hB1.trans (hb9.mono hz1)⟩
  | true =>
  go_wp2_with fail
  refine (light_any y _ (HY.out _ hB1)).mono ?_
  rintro e w2 ⟨b2, rfl, hb2⟩
  have Ha := Lib.hid (Ha.out.call hb2)
  have Hb := Lib.hid (Hb.out.call hb2)
  have Hx := Lib.hid (Hx.out.call hb2)
  have Hy := Lib.hid (Hy.out.call hb2)
  have hB2 := hB1.trans (hb2.mono hz1)
  have hz2 := hB2.size
  clear py0 py1 py2 py3 py4 py5 py6 py7 py8 py9
  cases b2 with
  | false =>
    go_wp2_with (go_at_call 6; refine (known_any _).mono ?_; rintro e w9 ⟨rfl, hb9⟩)
    go_ret
    exact ⟨rfl, hB2.trans (hb9.mono hz2)⟩
  | true =>
  go_wp2
  have ca0 : ∀ s : Later w2.heap.size w2, s.W.cell? ⟨w.heap.size, 0, none⟩ = some (.int .i64 a.v.k) := fun s => ((Ha.out.below s.h Ha.out.lt).at_ 0).trans rfl
  have ca1 : ∀ s : Later w2.heap.size w2, s.W.cell? ⟨w.heap.size, 1, none⟩ = some (.int .i64 a.v.c) := fun s => ((Ha.out.below s.h Ha.out.lt).at_ 1).trans rfl
  have ca2 : ∀ s : Later w2.heap.size w2, s.W.cell? ⟨w.heap.size, 2, none⟩ = some (.int .i64 a.v.n) := fun s => ((Ha.out.below s.h Ha.out.lt).at_ 2).trans rfl
  have ca3 : ∀ s : Later w2.heap.size w2, s.W.cell? ⟨w.heap.size, 3, none⟩ = some (.int .i64 a.v.m) := fun s => ((Ha.out.below s.h Ha.out.lt).at_ 3).trans rfl
  have ca4 : ∀ s : Later w2.heap.size w2, s.W.cell? ⟨w.heap.size, 4, none⟩ = some (.slice a.A a.v.d.length a.cap) := fun s => ((Ha.out.below s.h Ha.out.lt).at_ 4).trans rfl
  have cb0 : ∀ s : Later w2.heap.size w2, s.W.cell? ⟨w.heap.size + 1, 0, none⟩ = some (.int .i64 b.v.k) := fun s => ((Hb.out.below s.h Hb.out.lt).at_ 0).trans rfl
  have cb1 : ∀ s : Later w2.heap.size w2, s.W.cell? ⟨w.heap.size + 1, 1, none⟩ = some (.int .i64 b.v.c) := fun s => ((Hb.out.below s.h Hb.out.lt).at_ 1).trans rfl
  have cb2 : ∀ s : Later w2.heap.size w2, s.W.cell? ⟨w.heap.size + 1, 2, none⟩ = some (.int .i64 b.v.n) := fun s => ((Hb.out.below s.h Hb.out.lt).at_ 2).trans rfl
  have cb3 : ∀ s : Later w2.heap.size w2, s.W.cell? ⟨w.heap.size + 1, 3, none⟩ = some (.int .i64 b.v.m) := fun s => ((Hb.out.below s.h Hb.out.lt).at_ 3).trans rfl
  have cb4 : ∀ s : Later w2.heap.size w2, s.W.cell? ⟨w.heap.size + 1, 4, none⟩ = some (.slice b.A b.v.d.length b.cap) := fun s => ((Hb.out.below s.h Hb.out.lt).at_ 4).trans rfl
  have cx0 : ∀ s : Later w2.heap.size w2, s.W.cell? ⟨w.heap.size + 2, 0, none⟩ = some (.int .i64 x.sk) := fun s => ((Hx.out.below s.h Hx.out.lt).at_ 0).trans rfl
  have cx1 : ∀ s : Later w2.heap.size w2, s.W.cell? ⟨w.heap.size + 2, 1, none⟩ = some (.int .i64 x.sc) := fun s => ((Hx.out.below s.h Hx.out.lt).at_ 1).trans rfl
  have cx2 : ∀ s : Later w2.heap.size w2, s.W.cell? ⟨w.heap.size + 2, 2, none⟩ = some (.int .i64 x.sn) := fun s => ((Hx.out.below s.h Hx.out.lt).at_ 2).trans rfl
  have cx3 : ∀ s : Later w2.heap.size w2, s.W.cell? ⟨w.heap.size + 2, 3, none⟩ = some (.slice x.dA x.sd.length x.dc) := fun s => ((Hx.out.below s.h Hx.out.lt).at_ 3).trans rfl
  have cx4 : ∀ s : Later w2.heap.size w2, s.W.cell? ⟨w.heap.size + 2, 4, none⟩ = some (.int .i64 x.err) := fun s => ((Hx.out.below s.h Hx.out.lt).at_ 4).trans rfl
  have cx5 : ∀ s : Later w2.heap.size w2, s.W.cell? ⟨w.heap.size + 2, 5, none⟩ = some (.int .i64 x.n) := fun s => ((Hx.out.below s.h Hx.out.lt).at_ 5).trans rfl
  have cx6 : ∀ s : Later w2.heap.size w2, s.W.cell? ⟨w.heap.size + 2, 6, none⟩ = some (.slice x.sA x.sents.length x.sC) := fun s => ((Hx.out.below s.h Hx.out.lt).at_ 6).trans rfl
  have cx7 : ∀ s : Later w2.heap.size w2, s.W.cell? ⟨w.heap.size + 2, 7, none⟩ = some (.slice x.mA x.moves.length x.mC) := fun s => ((Hx.out.below s.h Hx.out.lt).at_ 7).trans rfl
  have cx8 : ∀ s : Later w2.heap.size w2, s.W.cell? ⟨w.heap.size + 2, 8, none⟩ = some (.int .i64 x.work) := fun s => ((Hx.out.below s.h Hx.out.lt).at_ 8).trans rfl
  have cx9 : ∀ s : Later w2.heap.size w2, s.W.cell? ⟨w.heap.size + 2, 9, none⟩ = some (.int .u64 x.at_) := fun s => ((Hx.out.below s.h Hx.out.lt).at_ 9).trans rfl
  have cy0 : ∀ s : Later w2.heap.size w2, s.W.cell? ⟨w.heap.size + 3, 0, none⟩ = some (.int .i64 y.sk) := fun s => ((Hy.out.below s.h Hy.out.lt).at_ 0).trans rfl
  have cy1 : ∀ s : Later w2.heap.size w2, s.W.cell? ⟨w.heap.size + 3, 1, none⟩ = some (.int .i64 y.sc) := fun s => ((Hy.out.below s.h Hy.out.lt).at_ 1).trans rfl
  have cy2 : ∀ s : Later w2.heap.size w2, s.W.cell? ⟨w.heap.size + 3, 2, none⟩ = some (.int .i64 y.sn) := fun s => ((Hy.out.below s.h Hy.out.lt).at_ 2).trans rfl
  have cy3 : ∀ s : Later w2.heap.size w2, s.W.cell? ⟨w.heap.size + 3, 3, none⟩ = some (.slice y.dA y.sd.length y.dc) := fun s => ((Hy.out.below s.h Hy.out.lt).at_ 3).trans rfl
  have cy4 : ∀ s : Later w2.heap.size w2, s.W.cell? ⟨w.heap.size + 3, 4, none⟩ = some (.int .i64 y.err) := fun s => ((Hy.out.below s.h Hy.out.lt).at_ 4).trans rfl
  have cy5 : ∀ s : Later w2.heap.size w2, s.W.cell? ⟨w.heap.size + 3, 5, none⟩ = some (.int .i64 y.n) := fun s => ((Hy.out.below s.h Hy.out.lt).at_ 5).trans rfl
  have cy6 : ∀ s : Later w2.heap.size w2, s.W.cell? ⟨w.heap.size + 3, 6, none⟩ = some (.slice y.sA y.sents.length y.sC) := fun s => ((Hy.out.below s.h Hy.out.lt).at_ 6).trans rfl
  have cy7 : ∀ s : Later w2.heap.size w2, s.W.cell? ⟨w.heap.size + 3, 7, none⟩ = some (.slice y.mA y.moves.length y.mC) := fun s => ((Hy.out.below s.h Hy.out.lt).at_ 7).trans rfl
  have cy8 : ∀ s : Later w2.heap.size w2, s.W.cell? ⟨w.heap.size + 3, 8, none⟩ = some (.int .i64 y.work) := fun s => ((Hy.out.below s.h Hy.out.lt).at_ 8).trans rfl
  have cy9 : ∀ s : Later w2.heap.size w2, s.W.cell? ⟨w.heap.size + 3, 9, none⟩ = some (.int .u64 y.at_) := fun s => ((Hy.out.below s.h Hy.out.lt).at_ 9).trans rfl
  have HA2 : Hid (∀ s : Later w2.heap.size w2, BReads s.W a.A a.v.d.length a.v.d) := Lib.hid fun s => HA.out _ (hB2.trans (s.h.mono hz2))
  have HB2 : Hid (∀ s : Later w2.heap.size w2, BReads s.W b.A b.v.d.length b.v.d) := Lib.hid fun s => HB.out _ (hB2.trans (s.h.mono hz2))
  have HX2 : Hid (∀ s : Later w2.heap.size w2, DidIs s.W x) := Lib.hid fun s => HX.out _ (hB2.trans (s.h.mono hz2))
  have HY2 : Hid (∀ s : Later w2.heap.size w2, DidIs s.W y) := Lib.hid fun s => HY.out _ (hB2.trans (s.h.mono hz2))
  refine wp_region_later (B := w2.heap.size) (w0 := w2) (Below.refl _ _) (by kernel_rfl) (by kernel_rfl) ?_
  repeat (go_big_quiet_step ((first
    | (go_at_call 15; with_reducible exact Calls.later (Nat.le_refl _) (equal_any a.v b.v a.A b.A _ a.cap _ b.cap _ (HA2.out _) (HB2.out _)))
    | (go_at_call 15; with_reducible exact Calls.later (Nat.le_refl _) (equal_self a _ (HA2.out _)))
    | (go_at_call 16; with_reducible exact Calls.later (Nat.le_refl _) (requal_any a.v b.v a.A b.A _ a.cap _ b.cap _ (HA2.out _) (HB2.out _)))
    | (go_at_call 17; with_reducible exact Calls.later (Nat.le_refl _) (same17_any x y _ (HX2.out _) (HY2.out _)))
    | (go_at_call 17; with_reducible exact Calls.later (Nat.le_refl _) (same17_self x _ (HX2.out _)))
    | (go_at_call 18; with_reducible exact Calls.later (Nat.le_refl _) (same18_any x y _ (HX2.out _) (HY2.out _)))
    | (go_at_call 6; with_reducible exact Calls.later (Nat.le_refl _) (known_any _)))))
  refine wpQuiet_nil ?_
  intro _ hw'
  obtain ⟨s, hw2⟩ := hw'
  subst hw2
  go_wp2
  go_ret
  exact ⟨rfl, hB2.trans (s.h.mono hz2)⟩

theorem own : ownKnob Try.prog.godebug = none := by kernel_rfl
theorem laidOut : laidOutB Try.prog = true := by kernel_rfl

set_option maxRecDepth 100000 in
theorem lifted (os : Os) (started : os.Started) (H : Type) (enc : TypeId × Value → H) :
    ReturnsInHanded {} Try.checked os 5 .any (Rows.scriptEqualsSpec.pre6 enc Try.prog Try.f5 Rows.scriptEqualsRow.domain false) (Rows.scriptEqualsSpec.post enc Try.prog Try.f5 false true false false) := by
  refine returnsInHanded_of_change (C := Try.checked) own started (by kernel_rfl) Try.func5
    (ChangeSpec.witness6 (enc := enc) (C := Try.checked) false ⟨#[], #[.agg #[.int .i64 0, .int .i64 0, .int .i64 0, .int .i64 0, .slice none 0 0], .agg #[.int .i64 0, .int .i64 0, .int .i64 0, .int .i64 0, .slice none 0 0], .agg #[.int .i64 0, .int .i64 0, .int .i64 0, .slice none 0 0, .int .i64 0, .int .i64 0, .slice none 0 0, .slice none 0 0, .int .i64 0, .int .u64 0], .agg #[.int .i64 0, .int .i64 0, .int .i64 0, .slice none 0 0, .int .i64 0, .int .i64 0, .slice none 0 0, .slice none 0 0, .int .i64 0, .int .u64 0]], []⟩ 8 (by kernel_rfl) (by kernel_rfl) (by kernel_rfl) (by kernel_rfl)) ?_
  intro W base args ds gs before hval0 hW hcnd _
  have hval : ∀ (j : Nat) t v, Try.f5.params[j]? = some t → args[j]? = some v → Value.okWide Try.prog W .any base t v := hval0
  have hW' := hW
  obtain ⟨p, q, hA0, hV, rfl, hfz, hnd⟩ := hW
  have hA : DataW.TrodAll enc Try.prog W 0 (fun _ => true) true Try.f5.params.toList args.toList ds p := hA0
  rw [Try.params5] at hA hval
  obtain ⟨v0, vs0, d0, ds0, p0, q0, hargs, rfl, rfl, h0, r0⟩ := trodAll_cons hA
  obtain ⟨v1, vs1, d1, ds1, p1, q1, rfl, rfl, rfl, h1, r1⟩ := trodAll_cons r0
  obtain ⟨v2, vs2, d2, ds2, p2, q2, rfl, rfl, rfl, h2, r2⟩ := trodAll_cons r1
  obtain ⟨v3, vs3, d3, ds3, p3, q3, rfl, rfl, rfl, h3, r3⟩ := trodAll_cons r2
  obtain ⟨rfl, rfl, rfl⟩ := trodAll_nil r3
  obtain rfl : args = #[v0, v1, v2, v3] := by cases args; simp_all
  obtain ⟨rfl, rfl⟩ := trodVars_none hV
  have k0 := h0
  have lt0 : ∀ x ∈ p0, x.block < W.heap.size := by obtain ⟨m, hm⟩ := k0; exact DataW.trod_lt m _ _ _ hm
  have k1 := h1
  have lt1 : ∀ x ∈ p1, x.block < W.heap.size := by obtain ⟨m, hm⟩ := k1; exact DataW.trod_lt m _ _ _ hm
  have k2 := h2
  have lt2 : ∀ x ∈ p2, x.block < W.heap.size := by obtain ⟨m, hm⟩ := k2; exact DataW.trod_lt m _ _ _ hm
  have k3 := h3
  have lt3 : ∀ x ∈ p3, x.block < W.heap.size := by obtain ⟨m, hm⟩ := k3; exact DataW.trod_lt m _ _ _ hm
  obtain ⟨o0, rfl, go0, gz0⟩ := open_op (hval 0 33 v0 rfl rfl) h0
  obtain ⟨o1, rfl, go1, gz1⟩ := open_op (hval 1 33 v1 rfl rfl) h1
  obtain ⟨o2, rfl, go2⟩ := open_did (hval 2 46 v2 rfl rfl) h2
  obtain ⟨o3, rfl, go3⟩ := open_did (hval 3 46 v3 rfl rfl) h3
  clear hA0 hval0
  refine (walk o0 o1 o2 o3 W go0 go1 go2 go3).mono fun e W' ⟨he, bel⟩ => ?_
  subst he
  exact ⟨_, rfl, _, _, _, [], _, [], hW', trodAll_mk1 (shut_bool Try.underlying4 _), (trodAll_cons_mk (Below.trod laidOut (by kernel_rfl) (of_decide_eq_true (by kernel_rfl)) k0 bel lt0) (trodAll_cons_mk (Below.trod laidOut (by kernel_rfl) (of_decide_eq_true (by kernel_rfl)) k1 bel lt1) (trodAll_cons_mk (Below.trod laidOut (by kernel_rfl) (of_decide_eq_true (by kernel_rfl)) k2 bel lt2) (trodAll_cons_mk (Below.trod laidOut (by kernel_rfl) (of_decide_eq_true (by kernel_rfl)) k3 bel lt3) trodAll_mk0)))), rfl, bel.frame _, fun h => by cases h⟩

theorem over : Rows.scriptEqualsRow.holds Try.pinned (OpenSpec.ofChange Rows.scriptEqualsSpec) :=
  OpenClaim.holds_of_wide 5 Try.f5 rfl rfl rfl rfl rfl rfl rfl ⟨rfl, rfl, rfl, rfl, rfl⟩ rfl rfl rfl rfl rfl (by kernel_rfl) Try.func5 (by kernel_rfl)
    (of_decide_eq_true (by kernel_rfl)) (by unfold Func.isWrapper; first | (rw [if_pos (by decide +kernel)]; kernel_rfl) | (rw [if_neg (by decide +kernel)]; exact ⟨rfl, rfl⟩))
    (fun os started H enc _ => lifted os started H enc)

/-- The statement. -/
theorem proved : Rows.ScriptEqualsSaid := over

end Go.Proofs.Ytpmlipcpohajgaa.scriptEquals
