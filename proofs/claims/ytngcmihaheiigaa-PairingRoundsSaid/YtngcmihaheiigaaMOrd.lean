/-
  The model's order.
-/
import Derived.Test.YtngcmihaheiigaaMPt
set_option linter.unusedSimpArgs false
set_option linter.unusedVariables false
namespace Go.Proofs.Ytngcmihaheiigaa
open Go.RowKit

/-- The first k buckets from the top. -/
def ordT (n : Nat) (pts : List Int) (M k : Nat) : List Int := (List.range k).flatMap fun i => bucket n pts (M - i)
theorem ordT_succ {n : Nat} {pts : List Int} {M k : Nat} : ordT n pts M (k + 1) = ordT n pts M k ++ bucket n pts (M - k) := by
  unfold ordT
  rw [List.range_succ, List.flatMap_append]
  simp
theorem ordT_all {n : Nat} {pts : List Int} : ∀ M, ordT n pts M (M + 1) = ordS n pts M
  | 0 => by simp [ordT, ordS]
  | M + 1 => by
    have h := ordT_all (n := n) (pts := pts) M
    unfold ordT at h ⊢
    rw [List.range_succ_eq_map, List.flatMap_cons, List.flatMap_map]
    unfold ordS
    rw [← h]
    congr 1
    congr 1
    funext i
    congr 1
    omega
theorem bucket_zero {pts : List Int} {v : Nat} : bucket 0 pts v = [] := by simp [bucket, rangeI]
theorem bucket_step {pts : List Int} {v j : Nat} : bucket (j + 1) pts v = bucket j pts v ++ if ith pts j = v then [(j : Int)] else [] := by
  unfold bucket rangeI
  rw [List.range_succ, List.map_append, List.filter_append]
  congr 1
  by_cases h : ith pts j = v
  · simp [h]
  · simp [h]
theorem bucket_len {pts : List Int} {v j : Nat} : (bucket j pts v).length ≤ j := by
  unfold bucket
  refine Nat.le_trans (List.length_filter_le _ _) ?_
  simp [rangeI]

/-- A lower bound below. -/
theorem own_lower {w : World} {b b' : Nat} {e : TypeId} {size n c : Nat} {A : Option Addr} {xs : List Value} (h : XOwns w b e size A n c xs) (hb : b' ≤ b) : XOwns w b' e size A n c xs := by
  refine ⟨⟨h.1.1, ?_⟩, h.2⟩
  rcases h.1.2 with h2 | ⟨g, cap, cur, h1, h2, h3⟩
  · exact .inl h2
  · exact .inr ⟨g, cap, cur, h1, by omega, h3⟩

set_option maxRecDepth 100000 in
set_option maxHeartbeats 1600000 in
theorem morder_any (B p : Nat) (st : TS) (x : MC) (w : World) (h : Mn w B p st x) : Calls Try.prog 30 #[.pointer (some ⟨p, 0, none⟩)] w fun e w' => ∃ A' c', e = .returned (.slice A' st.ord.length c') ∧ XOwns w' w.heap.size 3 1 A' st.ord.length c' (ics st.ord) ∧ Below w.heap.size w w' := by
  obtain ⟨RA, rc, rs, SA, sq, sts⟩ := x
  have HT : Hid (∀ W, Below w.heap.size w W → Mn W B p st ⟨RA, rc, rs, SA, sq, sts⟩) := Lib.hid fun W hb => h.below hb
  have hn := h.ok.n0
  have hcnt := h.ok.cnt
  have hplt := h.blk.lt
  have HT0 := Lib.hid h
  clear h
  obtain ⟨hn1, hn2⟩ := hn
  go_enter Try.func30, Try.ntmps30
  go_wp2_with (first
    | (go_at_call 29; refine (mpoints_any B p st _ _ HT0.out).mono ?_; rintro e w1 ⟨g, rfl, ho1, hb1⟩; have HP := Lib.hid ho1; have hz1 := hb1.size; have x1 : w1.cell? ⟨p, 1, none⟩ = some (.slice RA st.rounds.length rc) := ((HT.out _ hb1).blk.at_ 1).trans rfl; clear ho1)
    | fail)
  have HW := Lib.hid (IntWalk.i64_in (2 * (st.rounds.length : Int)) (by omega))
  have hw := HW.out
  go_wp2
  go_loopw [4, 5] (fun o v W => ∃ (k : Nat) (A' : Option Addr) (m c' : Nat), k ≤ 2 * st.rounds.length + 1 ∧ v = .int .i64 (2 * st.rounds.length - k) ∧ o = .slice A' m c' ∧ m ≤ 14 * k ∧ Hid (m = (ordT st.n (ptsS st.n st.rounds st.scores) (2 * st.rounds.length) k).length) ∧ XOwns W w1.heap.size 3 1 A' m c' (ics (ordT st.n (ptsS st.n st.rounds st.scores) (2 * st.rounds.length) k)) ∧ Below w1.heap.size w1 W) (fun _ v _ => (intOf v + 1).toNat)
  case atStart => exact ⟨0, none, 0, 0, Nat.zero_le _, by go_num, rfl, Nat.zero_le _, Lib.hid rfl, XOwns.nil_ _ _ _ _, Below.refl _ _⟩
  case round =>
    obtain ⟨k, A0, m0, c0, hk, rfl, rfl, hmk, HM0, hO0, hB0⟩ := hrel
    have HO0 := Lib.hid hO0
    generalize wr = wz at *
    have hz0 := hB0.size
    clear hO0
    by_cases hlt : k ≤ 2 * st.rounds.length
    · have HTS := Lib.hid (ordT_succ (n := st.n) (pts := ptsS st.n st.rounds st.scores) (M := 2 * st.rounds.length) (k := k))
      have hkd : decide ((k : Int) ≤ 2 * st.rounds.length) = true := by rw [decide_eq_true_eq]; omega
      go_wp2
      go_loopw [4, 6] (fun o v W => ∃ (j : Nat) (A' : Option Addr) (m c' : Nat), j ≤ st.n ∧ v = .int .i64 j ∧ o = .slice A' m c' ∧ m ≤ 14 * k + j ∧ Hid (m = (ordT st.n (ptsS st.n st.rounds st.scores) (2 * st.rounds.length) k ++ bucket j (ptsS st.n st.rounds st.scores) (2 * st.rounds.length - k)).length) ∧ XOwns W w1.heap.size 3 1 A' m c' (ics (ordT st.n (ptsS st.n st.rounds st.scores) (2 * st.rounds.length) k ++ bucket j (ptsS st.n st.rounds st.scores) (2 * st.rounds.length - k))) ∧ Below w1.heap.size w1 W) (fun _ v _ => st.n - (intOf v).toNat)
      case atStart => exact ⟨0, A0, m0, c0, Nat.zero_le _, rfl, rfl, by omega, Lib.hid (by rw [bucket_zero, List.append_nil]; exact HM0.out), by rw [bucket_zero, List.append_nil]; exact HO0.out, hB0⟩
      case round =>
        obtain ⟨j, A', m, c', hj, rfl, rfl, hmj, HM, hO, hB⟩ := hrel
        have HO := Lib.hid hO
        have hz := hB.size
        clear hO
        by_cases hlj : j < st.n
        · have hlj' : (j : Int) < st.n := by omega
          obtain ⟨o0, f0⟩ := (HP.out.below hB).icell hlj
          have hgl : g < wr.heap.size := ((HP.out.below hB).lt g rfl).2
          have HBS := Lib.hid (bucket_step (pts := ptsS st.n st.rounds st.scores) (v := 2 * st.rounds.length - k) (j := j))
          generalize hpt : ith (ptsS st.n st.rounds st.scores) j = pt at *
          by_cases heq : pt = 2 * st.rounds.length - k
          · have HS : Hid (ordT st.n (ptsS st.n st.rounds st.scores) (2 * st.rounds.length) k ++ bucket (j + 1) (ptsS st.n st.rounds st.scores) (2 * st.rounds.length - k) = (ordT st.n (ptsS st.n st.rounds st.scores) (2 * st.rounds.length) k ++ bucket j (ptsS st.n st.rounds st.scores) (2 * st.rounds.length - k)) ++ [(j : Int)]) := Lib.hid (by rw [HBS.out, if_pos (by omega), List.append_assoc])
            have heq' : (pt == 2 * (st.rounds.length : Int) - k) = true := by rw [beq_iff_eq]; exact heq
            have hal : Below wr.heap.size wr (wr.alloc (.cells #[.int .i64 j] 3)) := (Below.refl _ _).alloc (Nat.le_refl _) _
            have HBL := Lib.hid (Blk.mk_ wr 3 #[.int .i64 j] _ rfl)
            clear heq hpt f0
            obtain ⟨L, hL⟩ : ∃ L, ordT st.n (ptsS st.n st.rounds st.scores) (2 * st.rounds.length) k ++ bucket j (ptsS st.n st.rounds st.scores) (2 * st.rounds.length - k) = L := ⟨_, rfl⟩
            have HO1 : Hid (XOwns wr w1.heap.size 3 1 A' m c' (ics L)) := Lib.hid (by rw [← hL]; exact HO.out)
            have HLL := Lib.hid hL
            clear hL
            go_wp2_with (at_builtin; refine append_xr (w := (wr.alloc (.cells #[.int .i64 j] 3))) ?_ (.tmp 31) (.tmp 33) 37 ?_ w1.heap.size 3 (.int .i64 0) 1 8 Try.info3 Try.underlying37 rfl (by decide) A' m c' (ics L) ?_ (HO1.out.below hal) (some ⟨wr.heap.size, 0, none⟩) 1 1 (ics [(j : Int)]) ?_ (fun h => by cases h) (reads_block HBL.out 1 1 rfl) (ics_one _) ?_ ?_ ?_ ?_; rfl; rfl; rfl; rfl; omega; omega; (simp; omega); intro A5 c5 w5 ho5 hb5)
            go_roundw
            case rel => exact ⟨j + 1, A5, m + 1, c5, by omega, by go_num, rfl, by omega, Lib.hid (by rw [HS.out, List.length_append, ← HM.out]; rfl), by rw [HS.out, HLL.out]; (have h := ho5; rw [show ics L ++ ics [(j : Int)] = ics (L ++ [(j : Int)]) by simp [ics]] at h; exact h), (hB.trans (hal.mono hz)).trans hb5⟩
            case measure => simp [intOf]; omega
          · have HS : Hid (bucket (j + 1) (ptsS st.n st.rounds st.scores) (2 * st.rounds.length - k) = bucket j (ptsS st.n st.rounds st.scores) (2 * st.rounds.length - k)) := Lib.hid (by rw [HBS.out, if_neg (by omega), List.append_nil])
            have heq' : (pt == 2 * (st.rounds.length : Int) - k) = false := by rw [beq_eq_false_iff_ne]; exact heq
            clear heq
            go_wp2
            go_roundw
            case rel => exact ⟨j + 1, A', m, c', by omega, by go_num, rfl, by omega, Lib.hid (by rw [HS.out]; exact HM.out), by rw [HS.out]; exact HO.out, hB⟩
            case measure => simp [intOf]; omega
        · obtain rfl : j = st.n := by omega
          go_wp2
          go_roundw
          case rel => exact ⟨k + 1, A', m, c', by omega, by go_num, rfl, by omega, Lib.hid (by rw [HTS.out]; exact HM.out), by rw [HTS.out]; exact HO.out, hB⟩
          case measure => simp [intOf]; omega
    · obtain rfl : k = 2 * st.rounds.length + 1 := by omega
      have HOA := Lib.hid (ordT_all (n := st.n) (pts := ptsS st.n st.rounds st.scores) (2 * st.rounds.length))
      have hneg : decide ((0 : Int) ≤ 2 * st.rounds.length - ((2 * st.rounds.length + 1 : Nat) : Int)) = false := by rw [decide_eq_false_iff_not]; omega
      go_wp2
      go_ret
      have hm := HM0.out
      have ho := HO0.out
      rw [HOA.out] at hm ho
      subst hm
      exact ⟨A0, c0, rfl, own_lower ho hz1, (hb1.trans (hB0.mono hz1))⟩
end Go.Proofs.Ytngcmihaheiigaa
