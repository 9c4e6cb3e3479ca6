/-
  The reference's Same, where all tests of its head hold.
-/
import Derived.Test.YtpmlipcpohajgaaRSameH
import Derived.Deep.QuietTactic
import Derived.BigQuiet
set_option linter.unusedSimpArgs false
set_option linter.unusedVariables false
namespace Go.Proofs.Ytpmlipcpohajgaa
open Go.RowKit

set_option maxRecDepth 100000 in
set_option maxHeartbeats 3200000 in
theorem same18_t (x y : DidC) (w : World) (hx : DidIs w x) (hy : DidIs w y) (e1 : (x.sk != y.sk) = false) (e2 : (x.sc != y.sc) = false) (e3 : (x.sn != y.sn) = false) (e4 : (x.sd == y.sd) = true) (e5 : (x.err != y.err) = false) (e6 : (x.n != y.n) = false) (e7 : (x.work != y.work) = false) (e8 : (x.at_ != y.at_) = false) (e9 : (x.sents.length != y.sents.length) = false) (e10 : (x.moves.length != y.moves.length) = false) :
    Calls Try.prog 18 #[.agg #[.int .i64 x.sk, .int .i64 x.sc, .int .i64 x.sn, .slice x.dA x.sd.length x.dc, .int .i64 x.err, .int .i64 x.n, .slice x.sA x.sents.length x.sC, .slice x.mA x.moves.length x.mC, .int .i64 x.work, .int .u64 x.at_], .agg #[.int .i64 y.sk, .int .i64 y.sc, .int .i64 y.sn, .slice y.dA y.sd.length y.dc, .int .i64 y.err, .int .i64 y.n, .slice y.sA y.sents.length y.sC, .slice y.mA y.moves.length y.mC, .int .i64 y.work, .int .u64 y.at_]] w fun e w' => e = .returned (.bool (didEq x y)) ∧ Below w.heap.size w w' := by
  have HX : Hid (∀ W, Below w.heap.size w W → DidIs W x) := fun W h => hx.below h
  have HY : Hid (∀ W, Below w.heap.size w W → DidIs W y) := fun W h => hy.below h
  have HS := Lib.hid (str_inj hx.1.2 hy.1.2)
  have E1 := Lib.hid e1
  clear e1
  have E2 := Lib.hid e2
  clear e2
  have E3 := Lib.hid e3
  clear e3
  have E4 := Lib.hid e4
  clear e4
  have E5 := Lib.hid e5
  clear e5
  have E6 := Lib.hid e6
  clear e6
  have E7 := Lib.hid e7
  clear e7
  have E8 := Lib.hid e8
  clear e8
  have E9 := Lib.hid e9
  clear e9
  have E10 := Lib.hid e10
  clear e10
  clear hx hy
  go_enter Try.func18, Try.ntmps18
  go_upto_region 1 with fail
  go_cut [5, 6] (fun s5 s6 W => TwoSteps w x y s5 s6 W)
  case first =>
    go_wp2
    go_region
    all_goals go_wp2
    all_goals go_meet
    all_goals first
      | exact ⟨_, _, rfl, rfl, (by exact ((Blk.mk_ _ 40 _ _ (by simp)).alloc _)), (by exact (Blk.mk_ _ 40 _ _ (by simp))), (by exact ((((Blk.mk_ _ 46 _ _ rfl).alloc _).alloc _).alloc _)), (by exact (((Blk.mk_ _ 46 _ _ (by simp)).alloc _).alloc _)), by (focus (repeat' (first | (with_reducible exact Below.refl _ _) | (with_reducible assumption) | (with_reducible refine Below.alloc ?_ ?_ _) | (with_reducible refine below_drewN ?_ _) | (with_reducible refine Below.drew ?_) | (with_reducible refine Below.setCell ?_ ?_ _) | omega | (simp; done) | (simp; omega))))⟩
      | exact ⟨_, _, rfl, rfl, (by exact (Blk.mk_ _ 40 _ _ (by simp))), (by exact ((Blk.mk_ _ 40 _ _ (by simp)).alloc _)), (by exact ((((Blk.mk_ _ 46 _ _ rfl).alloc _).alloc _).alloc _)), (by exact (((Blk.mk_ _ 46 _ _ (by simp)).alloc _).alloc _)), by (focus (repeat' (first | (with_reducible exact Below.refl _ _) | (with_reducible assumption) | (with_reducible refine Below.alloc ?_ ?_ _) | (with_reducible refine below_drewN ?_ _) | (with_reducible refine Below.drew ?_) | (with_reducible refine Below.setCell ?_ ?_ _) | omega | (simp; done) | (simp; omega))))⟩
  case rest =>
    obtain ⟨g5, g6, rfl, rfl, h5, h6, h2, h3, hB⟩ := hcut
    have x0 := (h2.at_ 0).trans rfl
    have y0 := (h3.at_ 0).trans rfl
    have x1 := (h2.at_ 1).trans rfl
    have y1 := (h3.at_ 1).trans rfl
    have x2 := (h2.at_ 2).trans rfl
    have y2 := (h3.at_ 2).trans rfl
    have x3 := (h2.at_ 3).trans rfl
    have y3 := (h3.at_ 3).trans rfl
    have x4 := (h2.at_ 4).trans rfl
    have y4 := (h3.at_ 4).trans rfl
    have x5 := (h2.at_ 5).trans rfl
    have y5 := (h3.at_ 5).trans rfl
    have x6 := (h2.at_ 6).trans rfl
    have y6 := (h3.at_ 6).trans rfl
    have x7 := (h2.at_ 7).trans rfl
    have y7 := (h3.at_ 7).trans rfl
    have x8 := (h2.at_ 8).trans rfl
    have y8 := (h3.at_ 8).trans rfl
    have x9 := (h2.at_ 9).trans rfl
    have y9 := (h3.at_ 9).trans rfl
    have s0 := (h5.at_ 0).trans rfl
    have t0 := (h6.at_ 0).trans rfl
    have s1 := (h5.at_ 1).trans rfl
    have t1 := (h6.at_ 1).trans rfl
    have s2 := (h5.at_ 2).trans rfl
    have t2 := (h6.at_ 2).trans rfl
    have s3 := (h5.at_ 3).trans rfl
    have t3 := (h6.at_ 3).trans rfl
    have hz := hB.size
    have hv1 := convert_bytes (P := Try.prog) (HX.out _ hB).1 x.dc 22 5 Try.underlying22 Try.underlying5 9 Try.underlying9
    have hv2 := convert_bytes (P := Try.prog) (HY.out _ hB).1 y.dc 22 5 Try.underlying22 Try.underlying5 9 Try.underlying9
    have hstr := HS.out
    clear h2 h3 h5 h6
    have e1 := E1.out
    have e2 := E2.out
    have e3 := E3.out
    have e4 := E4.out
    have e5 := E5.out
    have e6 := E6.out
    have e7 := E7.out
    have e8 := E8.out
    have e9 := E9.out
    have i9 : ((x.sents.length : Int) != (y.sents.length : Int)) = false := by have h := e9; simp only [bne_iff_ne, bne_eq_false_iff_eq, ne_eq] at h ⊢; omega
    have e10 := E10.out
    have i10 : ((x.moves.length : Int) != (y.moves.length : Int)) = false := by have h := e10; simp only [bne_iff_ne, bne_eq_false_iff_eq, ne_eq] at h ⊢; omega
    rename World => wc
    have HLs : Hid (x.sents.length = y.sents.length) := Lib.hid (by simpa [bne] using e9)
    have HLm : Hid (x.moves.length = y.moves.length) := Lib.hid (by simpa [bne] using e10)
    have HDR : Hid (sentsEq x.sents y.sents = true → movesEq x.moves y.moves = true → didEq x y = true) := Lib.hid (fun h1 h2 => did_true e1 e2 e3 e4 e5 e6 e7 e8 h1 h2)
    have HXc := Lib.hid (HX.out _ hB)
    have HYc := Lib.hid (HY.out _ hB)
    have HBc := Lib.hid hB
    have hx9 := HXc.out.2.2.2.1
    have hx10 := HXc.out.2.2.2.2.1
    go_wp2
    clear e1 e2 e3 e4 e5 e6 e7 e8 e9 e10 i9 i10 hv1 hv2 hstr x0 x1 x2 x3 x4 x5 x8 x9 y0 y1 y2 y3 y4 y5 y8 y9 s0 s1 s2 s3 t0 t1 t2 t3 hB
    go_loopw [7] (fun i W => ∃ k q : Nat, k ≤ x.sents.length ∧ i = .int .i64 k ∧ W = wc.drewN q ∧ Hid (∀ j, j < k → sentEq (x.sents.getD j s0) (y.sents.getD j s0) = true)) (fun i _ => x.sents.length - (intOf i).toNat)
    case atStart => exact ⟨0, 0, Nat.zero_le _, rfl, rfl, Lib.hid (fun j h => absurd h (by omega))⟩
    case round =>
      obtain ⟨k, q, hk, rfl, rfl, HE⟩ := hrel
      by_cases hlt : k < x.sents.length
      · obtain ⟨ad, v, D, dc, hA, hab, hv, c0, c1, hd, _⟩ := HXc.out.2.1.at_ hlt
        obtain ⟨bd, v', D', dc', hB', hbb, hv', f0, f1, hd', _⟩ := HYc.out.2.1.at_ (k := k) (by have := HLs.out; omega)
        have hlt' : (k : Int) < x.sents.length := by omega
        have hlt2 : (k : Int) < y.sents.length := by have := HLs.out; omega
        have HV : Hid (x.sents.getD k s0 = v) := Lib.hid (by simp [List.getD, hv])
        have HV' : Hid (y.sents.getD k s0 = v') := Lib.hid (by simp [List.getD, hv'])
        have hc1 := conv_drew (P := Try.prog) hd dc 22 5 Try.underlying22 Try.underlying5 9 Try.underlying9
        have hc2 := conv_drew (P := Try.prog) hd' dc' 22 5 Try.underlying22 Try.underlying5 9 Try.underlying9
        have HS := Lib.hid (str_inj hd.2 hd'.2)
        clear hd hd' hv hv' hlt
        rcases t1 : (v.c != v'.c) with _ | _
        · rcases t2 : (v.d == v'.d) with _ | _
          · have HF : Hid (didEq x y = false) := Lib.hid (did_sents (k := k) (by omega) (by rw [HV.out, HV'.out]; simp [sentEq, t2]))
            have hs := HS.out
            rw [t2] at hs
            clear t2
            go_wp2
            go_quiet (fail)
            go_wp2
            go_ret
            exact ⟨by rw [HF.out]; rfl, below_drew_ (below_drew_ HBc.out _) _⟩
          · have HQ : Hid (sentEq v v' = true) := Lib.hid (by
              have h : (v.c == v'.c) = true := by simpa [bne] using t1
              unfold sentEq
              rw [h, t2]
              rfl)
            have hs := HS.out
            rw [t2] at hs
            clear t2
            go_wp2
            go_quiet (fail)
            go_wp2
            go_roundw
            case rel => exact ⟨k + 1, _, by omega, by go_num, rfl, Lib.hid (fun j hj => by
              rcases Nat.lt_or_ge j k with h | h
              · exact HE.out j h
              · obtain rfl : j = k := by omega
                rw [HV.out, HV'.out]; exact HQ.out)⟩
            case measure => simp [intOf]; omega
        · have HF : Hid (didEq x y = false) := Lib.hid (did_sents (k := k) (by omega) (by
            rw [HV.out, HV'.out]
            have h : (v.c == v'.c) = false := by simpa [bne] using t1
            simp [sentEq, h]))
          clear hc1 hc2
          go_wp2
          go_quiet (fail)
          go_wp2
          go_ret
          exact ⟨by rw [HF.out]; rfl, below_drew_ (below_drew_ HBc.out _) _⟩
      · obtain rfl : k = x.sents.length := by omega
        have HT : Hid (sentsEq x.sents y.sents = true) := Lib.hid (by
          unfold sentsEq allEq
          rw [Bool.and_eq_true, beq_iff_eq, List.all_eq_true]
          exact ⟨HLs.out, fun i hi => HE.out i (List.mem_range.1 hi)⟩)
        go_wp2
        obtain ⟨wd, hwd⟩ : ∃ wd : World, wd = wc.drewN q := ⟨_, rfl⟩
        go_loopw [8] (fun i W => ∃ k q : Nat, k ≤ x.moves.length ∧ i = .int .i64 k ∧ W = wc.drewN q ∧ Hid (∀ j, j < k → moveEq (x.moves.getD j m0) (y.moves.getD j m0) = true)) (fun i _ => x.moves.length - (intOf i).toNat)
        case atStart => exact ⟨0, q, Nat.zero_le _, rfl, rfl, Lib.hid (fun j h => absurd h (by omega))⟩
        case round =>
          obtain ⟨k, q2, hk2, rfl, rfl, HE2⟩ := hrel
          by_cases hlt : k < x.moves.length
          · obtain ⟨ad, v, hA, hab, hv, c0, c1, c2, c3, c4, c5⟩ := HXc.out.2.2.1.at_ hlt
            obtain ⟨bd, v', hB', hbb, hv', f0, f1, f2, f3, f4, f5⟩ := HYc.out.2.2.1.at_ (k := k) (by have := HLm.out; omega)
            have hlt' : (k : Int) < x.moves.length := by omega
            have hlt2 : (k : Int) < y.moves.length := by have := HLm.out; omega
            have HV : Hid (x.moves.getD k m0 = v) := Lib.hid (by simp [List.getD, hv])
            have HV' : Hid (y.moves.getD k m0 = v') := Lib.hid (by simp [List.getD, hv'])
            have hnq := neq_move v v'
            have hgd : Try.prog.eqGuardType Try.prog.depth 72 = false := by kernel_rfl
            clear hv hv' hlt
            cases hq : moveEq v v' with
            | true =>
              rw [hq] at hnq
              have HQ := Lib.hid hq
              clear hq
              go_wp2
              go_quiet (fail)
              clear hnq
              go_wp2
              go_roundw
              case rel => exact ⟨k + 1, _, by omega, by go_num, rfl, Lib.hid (fun j hj => by
                rcases Nat.lt_or_ge j k with h | h
                · exact HE2.out j h
                · obtain rfl : j = k := by omega
                  rw [HV.out, HV'.out]; exact HQ.out)⟩
              case measure => simp [intOf]; omega
            | false =>
              rw [hq] at hnq
              have HF : Hid (didEq x y = false) := Lib.hid (did_moves (k := k) (by omega) (by rw [HV.out, HV'.out]; exact hq))
              clear hq
              go_wp2
              go_quiet (fail)
              clear hnq
              go_wp2
              go_ret
              exact ⟨by rw [HF.out]; rfl, below_drew_ (below_drew_ HBc.out _) _⟩
          · obtain rfl : k = x.moves.length := by omega
            have HT2 : Hid (movesEq x.moves y.moves = true) := Lib.hid (by
              unfold movesEq allEq
              rw [Bool.and_eq_true, beq_iff_eq, List.all_eq_true]
              exact ⟨HLm.out, fun i hi => HE2.out i (List.mem_range.1 hi)⟩)
            go_wp2
            go_ret
            exact ⟨by rw [HDR.out HT.out HT2.out]; rfl, below_drew_ HBc.out _⟩
end Go.Proofs.Ytpmlipcpohajgaa
