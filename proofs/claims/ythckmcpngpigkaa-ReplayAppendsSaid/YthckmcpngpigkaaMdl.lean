/-
  The law's own record, and its 'can'.
-/
import Derived.Test.YthckmcpngpigkaaRec
set_option linter.unusedSimpArgs false
set_option linter.unusedVariables false
namespace Go.Proofs.Ythckmcpngpigkaa
open Go.RowKit

set_option maxHeartbeats 1600000 in
theorem can_any (m : MoveV) (w : World) : Calls Try.prog 25 #[.agg #[.int .i64 m.p, .int .i64 m.why, .int .i64 m.k, .int .i64 m.id, .int .i64 m.to, .int .u64 m.at_]] w fun e w' => e = .returned (.bool (keptB m)) ∧ Below w.heap.size w w' := by
  go_enter Try.func25, Try.ntmps25
  go_wp2
  all_goals go_ret
  all_goals refine ⟨?_, by (focus (repeat' (first | (with_reducible exact Below.refl _ _) | (with_reducible assumption) | (with_reducible refine Below.alloc ?_ ?_ _) | (with_reducible refine below_drewN ?_ _) | (with_reducible refine Below.drew ?_) | (with_reducible refine Below.setCell ?_ ?_ _) | omega | (simp; done) | (simp; omega))))⟩
  all_goals show Ending.returned (Value.bool _) = Ending.returned (Value.bool _)
  all_goals congr 2
  all_goals first
    | (have hr : keptB m = true := by (simp only [keptB, decide_eq_true_eq]; omega)
       rw [hr]; done)
    | (have hr : keptB m = false := by (simp only [keptB, decide_eq_false_iff_not]; omega)
       rw [hr]; done)
    | (simp only [keptB]; rw [Bool.eq_iff_iff]; simp only [decide_eq_true_eq]; omega)

theorem lt_of_cell_ {w : World} {a : Addr} {v : Value} (h : w.cell? a = some v) : a.block < w.heap.size := by
  rcases Nat.lt_or_ge a.block w.heap.size with h' | h'
  · exact h'
  · simp [World.cell?, Array.getElem?_eq_none h'] at h

set_option maxRecDepth 100000 in
set_option maxHeartbeats 1600000 in
theorem lrec_any (m : MoveV) (t s : Int) (w : World) (hk : keptB m = true) (ht : 0 ≤ t) (hm : t ≤ m.at_) (ha : m.at_ ≤ 18446744073709551615) (hs0 : 0 ≤ s) (hs1 : s ≤ 4294967295) : Calls Try.prog 11 #[.agg #[.int .i64 m.p, .int .i64 m.why, .int .i64 m.k, .int .i64 m.id, .int .i64 m.to, .int .u64 m.at_], .int .u64 t, .int .u32 s] w fun e w' => ∃ A c, e = .returned (.slice A (recS t s m).length c) ∧ BOwns w' w.heap.size 5 A (recS t s m).length c (recS t s m) ∧ Below w.heap.size w w' := by
  have hkk := kept_of hk
  obtain ⟨mp, mwhy, mk, mid, mto, mat⟩ := m
  simp only at hkk hm ha ⊢
  obtain ⟨k, rfl⟩ : ∃ k : Nat, mk = k := ⟨mk.toNat, by omega⟩
  obtain ⟨id, rfl⟩ : ∃ k : Nat, mid = k := ⟨mid.toNat, by omega⟩
  obtain ⟨tt, rfl⟩ : ∃ k : Nat, mto = k := ⟨mto.toNat, by omega⟩
  obtain ⟨d, hd⟩ : ∃ d : Nat, mat = t + d := ⟨(mat - t).toNat, by omega⟩
  have HH : Hid (hdrS t ⟨mp, mwhy, k, id, tt, mat⟩ = (mp + 2 * mwhy - 2) :: [k, id, tt, d].flatMap numS) := Lib.hid (by
    simp only [hdrS, Int.toNat_natCast, hd]
    rw [show t + (d : Int) - t = d by omega, Int.toNat_natCast, show mp + 2 * (mwhy - 1) = mp + 2 * mwhy - 2 by omega]
    simp)
  have HB := Lib.hid (hdr_bytes (t := t) hk)
  have hdl := Lib.hid (hdr_le hk ht ha)
  have hd64 : d < 18446744073709551616 := by omega
  subst hd
  have hp0 : 0 ≤ mp ∧ mp ≤ 1 ∧ 1 ≤ mwhy ∧ mwhy ≤ 5 ∧ k ≤ 8 ∧ id ≤ 65535 ∧ tt ≤ 65535 := by omega
  unfold recS
  rw [HH.out] at HB ⊢
  have HL := Lib.hid (show ((mp + 2 * mwhy - 2) :: [k, id, tt, d].flatMap numS).length ≤ 20 by rw [← HH.out]; exact hdl.out)
  generalize hhs : (mp + 2 * mwhy - 2) :: [k, id, tt, d].flatMap numS = hs at *
  have HHS := Lib.hid hhs
  generalize hrs : hs ++ be4 (sumS s hs) = rs at *
  have HRS := Lib.hid hrs
  clear hk hkk hdl HH hhs hrs
  obtain ⟨hp1, hp2, hp3, hp4, hp5, hp6, hp7⟩ := hp0
  have htd : t + (d : Int) - t = d := by omega
  have hds : [k, id, tt, d].length = 4 := rfl
  generalize hns : [k, id, tt, d] = ns at *
  have HNS := Lib.hid hns
  have HN64 : Hid (∀ x ∈ ns, x < 18446744073709551616) := Lib.hid (by rw [← hns]; intro y hy; simp only [List.mem_cons, List.not_mem_nil, or_false] at hy; omega)
  have HDS := Lib.hid hds
  clear hns hds
  go_enter Try.func11, Try.ntmps11
  go_wp2
  have hbig : BOwns ((w.alloc (.cells #[.int .i64 mp, .int .i64 mwhy, .int .i64 k, .int .i64 id, .int .i64 tt, .int .u64 (t + d)] 41)).alloc (.cells (bys [mp + 2 * mwhy - 2]).toArray 5)) w.heap.size 5 (some ⟨w.heap.size + 1, 0, none⟩) 1 1 [mp + 2 * mwhy - 2] := BOwns.lit _ w.heap.size 5 [mp + 2 * mwhy - 2] _ _ (fun y hy => by (rw [List.mem_singleton] at hy; subst hy; exact ⟨by omega, by omega⟩)) (by simp) rfl (by omega) (by simp)
  have HBIG := Lib.hid hbig
  clear hbig
  go_loopw [7, 37] (fun v i W => ∃ (j : Nat) (A : Option Addr) (n c : Nat), j ≤ 4 ∧ i = .int .i64 j ∧ v = .slice A n c ∧ BOwns W w.heap.size 5 A n c ((mp + 2 * mwhy - 2) :: (ns.take j).flatMap numS) ∧ n ≤ 1 + 10 * j ∧ NReads W (some ⟨w.heap.size + 1 + 1, 0, none⟩) 4 ns ∧ blkOf A ≠ some (w.heap.size + 1 + 1) ∧ Below w.heap.size w W) (fun _ i _ => 4 - (intOf i).toNat)
  case atStart => exact ⟨0, _, _, _, by omega, rfl, rfl, (by simp only [List.take_zero, List.flatMap_nil]; exact HBIG.out.alloc _), by omega, by (have h := nreads_lit ((w.alloc (.cells #[.int .i64 mp, .int .i64 mwhy, .int .i64 k, .int .i64 id, .int .i64 tt, .int .u64 (t + d)] 41)).alloc (.cells #[.int .u8 (mp + 2 * mwhy - 2)] 5)) ns (w.heap.size + 1 + 1) 4 (by simp) HDS.out HN64.out; rw [← HNS.out] at h ⊢; exact h), by simp [blkOf], by (focus (repeat' (first | (with_reducible exact Below.refl _ _) | (with_reducible assumption) | (with_reducible refine Below.alloc ?_ ?_ _) | (with_reducible refine below_drewN ?_ _) | (with_reducible refine Below.drew ?_) | (with_reducible refine Below.setCell ?_ ?_ _) | omega | (simp; done) | (simp; omega))))⟩
  case round =>
    obtain ⟨j, A, n, c, hj, rfl, rfl, hown, hnb, hnr, hne, hB⟩ := hrel
    have hz := hB.size
    by_cases hlt : j < 4
    · obtain ⟨ad, y, had, hy, hy64, hc⟩ := hnr.at_ hlt
      injection had with had
      subst had
      have hc' : wr.cell? ⟨w.heap.size + 1 + 1, j, none⟩ = some (.int .u64 y) := by rw [add_g] at hc; exact hc
      have hlt' : (j : Int) < 4 := by omega
      have HT : Hid ((ns.take (j + 1)).flatMap numS = (ns.take j).flatMap numS ++ numS y) := Lib.hid (by
        have hkl : j < ns.length := by have := HDS.out; omega
        rw [List.take_succ_eq_append_getElem hkl, List.flatMap_append]
        rw [List.getElem?_eq_getElem hkl] at hy
        injection hy with hy
        simp [hy])
      have HL10 := Lib.hid (numS_len10 hy64)
      have HL1 := Lib.hid (numS_pos y)
      have HNR := Lib.hid hnr
      have HOWN := Lib.hid hown
      have hblt : w.heap.size + 1 + 1 < wr.heap.size := by have := lt_of_cell_ hc'; exact this
      clear hy hc hnr hown
      go_wp2_with fail
      refine (number_any y hy64 _).mono ?_
      rintro e w2 ⟨A2, c2, rfl, ho2, hb2⟩
      have hz2 := hb2.size
      have hl10 := HL10.out
      have hl1 := HL1.out
      generalize hyn : (numS y).length = ny at *
      have HYN := Lib.hid hyn
      clear hyn
      go_wp2_with (at_builtin; refine append_bytes_at _ ?_ (.tmp 41) (.tmp 43) 23 ?_ w.heap.size 5 Try.info5 Try.underlying23 A n c ((mp + 2 * mwhy - 2) :: (ns.take j).flatMap numS) ?_ (HOWN.out.below hb2) A2 ny c2 (numS y) ?_ ho2.reads ?_ ?_ ?_ w2.heap.size rfl ?_; rfl; rfl; rfl; rfl; omega; omega; omega; intro g3 c3 w3 ho3 hg3 hi3 hlt3)
      have hb3 : Below w.heap.size wr w3 := (hb2.mono hz).trans (grown_below hg3 (by omega) (own_blk HOWN.out))
      go_roundw
      case rel => exact ⟨j + 1, _, _, _, by omega, by go_num, rfl, by rw [HT.out]; exact ho3, by omega, (HNR.out.grown (grown_pre hb2 hg3) (fun _ e => hne e.symm)), (by
        rcases hi3 with h | h
        · show some g3 ≠ _
          rw [← h]; exact hne
        · simp [blkOf]; omega), hB.trans hb3⟩
      case measure => simp [intOf]; omega
    · obtain rfl : j = 4 := by omega
      have ho := hown
      rw [List.take_of_length_le (by rw [HDS.out]; exact Nat.le_refl _), HHS.out] at ho
      have hn : n = hs.length := ho.length.symm
      subst hn
      have HO := Lib.hid ho
      have hlen := HL.out
      clear hown hnr ho
      go_wp2_with fail
      refine (sum_any s _ _ _ hs _ hs0 hs1 HO.out.reads (by omega)).mono ?_
      rintro e w2 ⟨rfl, rfl⟩
      obtain ⟨hu0, hu1⟩ := sumS_bd hs s hs0 hs1
      generalize hu : sumS s hs = u at *
      have HU := Lib.hid (be4_bytes hu0 hu1)
      clear hu
      go_wp2_with (at_builtin; refine append_bytes _ ?_ (.tmp 49) (.tmp 64) 23 ?_ w.heap.size 5 Try.info5 Try.underlying23 A hs.length c hs ?_ (HO.out.alloc _) (some ⟨wr.heap.size, 0, none⟩) 4 4 (be4 u) ?_ (fun h => by cases h) ?_ ?_ ?_ ?_; rfl; rfl; rfl; rfl; exact BReads.lit _ _ (be4 u) _ _ HU.out rfl rfl; omega; (focus (first | omega | (simp only [World.size_alloc]; done) | (simp only [World.size_alloc]; omega) | (simp; done) | (simp; omega))); intro A6 c6 w6 ho6 hb6)
      go_ret
      have hr : rs = hs ++ be4 u := by rw [← HRS.out]
      refine ⟨A6, c6, ?_, ?_, Below.trans (by (focus (repeat' (first | (with_reducible exact Below.refl _ _) | (with_reducible assumption) | (with_reducible refine Below.alloc ?_ ?_ _) | (with_reducible refine below_drewN ?_ _) | (with_reducible refine Below.drew ?_) | (with_reducible refine Below.setCell ?_ ?_ _) | omega | (simp; done) | (simp; omega))))) hb6⟩
      · rw [hr, List.length_append, be4_len]
        rfl
      · rw [hr, List.length_append, be4_len]
        exact ho6
end Go.Proofs.Ythckmcpngpigkaa
