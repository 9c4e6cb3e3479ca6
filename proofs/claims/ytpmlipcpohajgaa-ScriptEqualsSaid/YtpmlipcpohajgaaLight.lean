/-
  'light': some Bool.
-/
import Derived.Test.YtpmlipcpohajgaaDids
import Derived.Test.YtpmlipcpohajgaaBlk
import Derived.LoopTactic
set_option linter.unusedSimpArgs false
set_option linter.unusedVariables false
namespace Go.Proofs.Ytpmlipcpohajgaa
open Go.RowKit

def SomeBool (w : World) (e : Ending) (w' : World) : Prop := ∃ b : Bool, e = .returned (.bool b) ∧ Below w.heap.size w w'
theorem SomeBool.mk_ {w : World} {e : Ending} {w' : World} {b : Bool} (h : e = .returned (.bool b)) (hb : Below w.heap.size w w') : SomeBool w e w' := ⟨b, h, hb⟩

set_option maxRecDepth 100000 in
set_option maxHeartbeats 800000 in
theorem light_any (x : DidC) (w : World) (hx : DidIs w x) :
    Calls Try.prog 14 #[.agg #[.int .i64 x.sk, .int .i64 x.sc, .int .i64 x.sn, .slice x.dA x.sd.length x.dc, .int .i64 x.err, .int .i64 x.n, .slice x.sA x.sents.length x.sC, .slice x.mA x.moves.length x.mC, .int .i64 x.work, .int .u64 x.at_]] w (SomeBool w) := by
  have HX := Lib.hid hx
  have h9 := hx.2.2.2.1
  have h10 := hx.2.2.2.2.1
  have h11 := hx.2.2.2.2.2
  clear hx
  obtain ⟨sk, sc, sn, dA, dc, sd, err, nn, sA, sC, sents, mA, mC, moves, work, at0⟩ := x
  simp only at h9 h10 h11 ⊢
  by_cases hs : (200 : Int) < sents.length
  · go_enter Try.func14, Try.ntmps14
    go_wp2
    go_ret
    exact SomeBool.mk_ rfl (by (focus (repeat' (first | (with_reducible exact Below.refl _ _) | (with_reducible assumption) | (with_reducible refine Below.alloc ?_ ?_ _) | (with_reducible refine below_drewN ?_ _) | (with_reducible refine Below.drew ?_) | (with_reducible refine Below.setCell ?_ ?_ _) | omega | (simp; done) | (simp; omega)))))
  by_cases hm : (200 : Int) < moves.length
  · go_enter Try.func14, Try.ntmps14
    go_wp2
    go_ret
    exact SomeBool.mk_ rfl (by (focus (repeat' (first | (with_reducible exact Below.refl _ _) | (with_reducible assumption) | (with_reducible refine Below.alloc ?_ ?_ _) | (with_reducible refine below_drewN ?_ _) | (with_reducible refine Below.drew ?_) | (with_reducible refine Below.setCell ?_ ?_ _) | omega | (simp; done) | (simp; omega)))))
  go_enter Try.func14, Try.ntmps14
  go_wp2
  go_loop [3, 4] (fun n i => ∃ (k : Nat) (z : Int), k ≤ sents.length ∧ i = .int .i64 k ∧ n = .int .i64 z) (fun _ i => sents.length - (intOf i).toNat)
  case atStart => exact ⟨0, _, Nat.zero_le _, rfl, rfl⟩
  case round =>
    obtain ⟨k, z, hk, rfl, rfl⟩ := hrel
    by_cases hlt : k < sents.length
    · obtain ⟨ad, v, D, dc2, rfl, hab, hv, c0, c1, hd, _⟩ := HX.out.2.1.at_ hlt
      have hlt' : (k : Int) < sents.length := by omega
      have hadb : (ad.add (k * 2)).block < w.heap.size := by rw [block_of_add]; exact hab
      clear hd hv hlt
      go_wp2
      go_round
      case rel => exact ⟨k + 1, _, by omega, by go_num, rfl⟩
      case measure => simp [intOf]; omega
    · obtain rfl : k = sents.length := by omega
      go_wp2
      go_ret
      exact SomeBool.mk_ rfl (by (focus (repeat' (first | (with_reducible exact Below.refl _ _) | (with_reducible assumption) | (with_reducible refine Below.alloc ?_ ?_ _) | (with_reducible refine below_drewN ?_ _) | (with_reducible refine Below.drew ?_) | (with_reducible refine Below.setCell ?_ ?_ _) | omega | (simp; done) | (simp; omega)))))
end Go.Proofs.Ytpmlipcpohajgaa
