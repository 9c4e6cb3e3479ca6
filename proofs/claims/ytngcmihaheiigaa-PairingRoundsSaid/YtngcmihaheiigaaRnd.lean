/-
  PairingRounds: the walk.
-/
import Derived.Test.YtngcmihaheiigaaPlay
set_option linter.unusedSimpArgs false
set_option linter.unusedVariables false
namespace Go.Proofs.Ytngcmihaheiigaa
open Go.RowKit

theorem TM.leave {w w' : World} {B p q : Nat} {s1 s2 : TS} {x : TC} {y : MC} {d s : Int} (h : TM B p q s1 x s2 y w) (ht : Tn w' B p (s1.report d s) x) (hf : OnlyF (MutT p x) w w') : TM B p q (s1.report d s) x s2 y w' := h.turnT ht hf (fun i hi => .inl hi)
theorem report_rounds (st : TS) (d s : Int) : (st.report d s).rounds = st.rounds := by unfold TS.report; split <;> rfl
theorem close_rounds (st : TS) : st.close.rounds = st.rounds := by unfold TS.close; split <;> rfl
theorem start_rounds {st : TS} (h : st.sErr = 0) : st.start.rounds.length = st.rounds.length + 1 := by unfold TS.start; rw [if_pos h]; simp

set_option maxRecDepth 100000 in
set_option maxHeartbeats 3200000 in
theorem rounds_ok (n : Nat) (A : Option Addr) (len cap : Nat) (xs : List Int) (w : World) (hn : 2 ≤ n ∧ n ≤ 10) (hx : BReads w A len xs) (hlen : len ≤ 100) :
    Calls Try.prog 5 #[.int .i64 n, .slice A len cap] w fun e w' => e = .returned (.bool true) ∧ Below w.heap.size w w' := by
  have HX := Lib.hid hx
  have HN : Hid (2 ≤ n ∧ n ≤ 14) := Lib.hid (by omega)
  obtain ⟨hn1, hn2⟩ := hn
  have t1 : ¬ (n : Int) < 2 := by omega
  have t2 : ¬ (10 : Int) < n := by omega
  have t3 : ¬ (100 : Int) < len := by omega
  clear hx
  go_enter Try.func5, Try.ntmps5
  go_wp2_with (go_at_call 9; refine (new_ok n _ HN.out).mono ?_; rintro e w1 ⟨gP, x1, rfl, hT1, hB1⟩; have HT1 := Lib.hid hT1; have hz1 := hB1.size; clear hT1)
  have HM1 := Lib.hid (tm0 HN.out HT1.out)
  have HB2 : Hid (Below w.heap.size w (w1.alloc (.cells #[.int .i64 n, .slice none 0 0, .slice none 0 0, .bool false] 45))) := Lib.hid (hB1.trans (((Below.refl _ _).alloc (Nat.le_refl _) _).mono hz1))
  clear HT1 hB1 hz1 t1 t2 t3
  generalize w1.heap.size = q at *
  go_loopg [8] 14 (fun g us W => ∃ (v : Nat) (st : TS) (x : TC) (y : MC), us = .int .i64 v ∧ st.rounds.length + g = 14 ∧ v ≤ 7 * st.rounds.length ∧ Hid (TM w.heap.size gP q st x st y W ∧ Below w.heap.size w W))
  case atStart => exact ⟨0, ts0 n, _, _, rfl, rfl, Nat.zero_le _, Lib.hid ⟨HM1.out, HB2.out⟩⟩
  case round =>
    obtain ⟨v, st, x, y, rfl, hg, hv, HH⟩ := hrel
    have hcnt := HH.out.1.T.ok.cnt
    have hL7 := TS.sList_len HH.out.1.T.ok
    generalize wr = wz at *
    clear HM1 HB2
    by_cases he : st.sErr = 0
    · have HE := Lib.hid he
      have hsr := start_rounds he
      clear he
      go_wp2_with (first
        | (go_at_call 15; refine (mstart_any w.heap.size q st y _ HH.out.1.M).mono ?_; rintro e w1 ⟨y1, A1, c1, rfl, ho1, hm1, hf1, hft1⟩; rw [HE.out]; have H1 := Lib.hid (HH.out.1.turnM hm1 hf1 hft1); have HB1 := Lib.hid (HH.out.2.trans (HH.out.1.belowM hf1)); have HO1 := Lib.hid ho1; clear ho1 hm1 hf1 hft1)
        | (go_at_call 16; refine ((by have h := starts_any w.heap.size gP st x A1 st.sList.length c1 _ H1.out.T HO1.out.reads (fun _ i hi hm => by have := (HH.out.1.T.foot i (.inl hm)).2; have := (HO1.out.lt i hi).1; omega); rw [HE.out] at h; exact h) : Calls _ _ _ _ (StartsEnd w.heap.size gP st x _)).mono ?_; rintro e w2 ⟨x2, rfl, ht2, hf2, hft2⟩; have H2 := Lib.hid (H1.out.turnT ht2 hf2 hft2); have HB2 := Lib.hid (HB1.out.trans (H1.out.belowT hf2)); clear ht2 hf2 hft2)
        | fail)
      generalize st.sList.length = L at *
      clear HO1 H1 HB1
      go_loopw [8, 11] (fun us i W => ∃ (j v2 : Nat) (st2 : TS) (x2 : TC) (y2 : MC), j ≤ L ∧ us = .int .i64 v2 ∧ i = .int .i64 j ∧ st2.rounds.length = st.rounds.length + 1 ∧ v2 ≤ 7 * st.rounds.length + j ∧ Hid (TM w.heap.size gP q st2 x2 st2 y2 W ∧ Below w.heap.size w W)) (fun _ i _ => L - (intOf i).toNat)
      case atStart => exact ⟨0, v, st.start, x2, y1, Nat.zero_le _, rfl, rfl, hsr, hv, Lib.hid ⟨H2.out, HB2.out⟩⟩
      case round =>
        obtain ⟨j, v2, st2, x2, y2, hj, rfl, rfl, hr2, hv2, HH2⟩ := hrel
        by_cases hlt : j < L
        · have hlt' : (j : Int) < L := by omega
          by_cases hlen0 : len = 0
          · have hlp : decide ((0 : Int) < len) = false := decide_eq_false (by omega)
            have hlp2 : decide (0 < len) = false := decide_eq_false (by omega)
            clear hlen0
            go_wp2_with (first
              | (go_at_call 11; refine (report_any w.heap.size gP st2 x2 j 0 _ HH2.out.1.T).mono ?_; rintro e w4 ⟨rfl, ht4, hf4⟩; have H4 := Lib.hid (HH2.out.1.leave ht4 hf4); have HB4 := Lib.hid (HH2.out.2.trans (HH2.out.1.belowT hf4)); clear ht4 hf4)
              | (go_at_call 17; refine (mreport_any w.heap.size q st2 y2 j 0 _ H4.out.M).mono ?_; rintro e w5 ⟨y5, rfl, hm5, hf5, hft5⟩; have H5 := Lib.hid (H4.out.turnM hm5 hf5 hft5); have HB5 := Lib.hid (HB4.out.trans (H4.out.belowM hf5)); clear hm5 hf5 hft5)
              | fail)
            go_roundw
            case rel => exact ⟨j + 1, v2, st2.report j 0, x2, y5, by omega, rfl, by go_num, by rw [report_rounds]; exact hr2, by omega, Lib.hid ⟨H5.out, HB5.out⟩⟩
            case measure => simp [intOf]; omega
          · have hlp : (0 : Int) < len := by omega
            have hvl : v2 % len < len := Nat.mod_lt _ (by omega)
            obtain ⟨z, hz⟩ : ∃ z, v2 % len = z := ⟨_, rfl⟩
            have hz' : ((v2 : Int) % len) = (z : Int) := by rw [← hz]; simp
            rw [hz] at hvl
            obtain ⟨ax, hax, hcx, hx0, hx1⟩ := (HX.out.below HH2.out.2).at_ hvl
            subst hax
            generalize nth xs z = b at *
            have hvl' : (z : Int) < len := by omega
            have hv91 : v2 ≤ 100 := by omega
            clear hlen0 hz
            go_wp2_with (first
              | (go_at_call 11; refine (report_any w.heap.size gP st2 x2 j (b % 3) _ HH2.out.1.T).mono ?_; rintro e w4 ⟨rfl, ht4, hf4⟩; have H4 := Lib.hid (HH2.out.1.leave ht4 hf4); have HB4 := Lib.hid (HH2.out.2.trans (HH2.out.1.belowT hf4)); clear ht4 hf4)
              | (go_at_call 17; refine (mreport_any w.heap.size q st2 y2 j (b % 3) _ H4.out.M).mono ?_; rintro e w5 ⟨y5, rfl, hm5, hf5, hft5⟩; have H5 := Lib.hid (H4.out.turnM hm5 hf5 hft5); have HB5 := Lib.hid (HB4.out.trans (H4.out.belowM hf5)); clear hm5 hf5 hft5)
              | fail)
            go_roundw
            case rel => exact ⟨j + 1, v2 + 1, st2.report j (b % 3), x2, y5, by omega, by go_num, by go_num, by rw [report_rounds]; exact hr2, by omega, Lib.hid ⟨H5.out, HB5.out⟩⟩
            case measure => simp [intOf]; omega
        · obtain rfl : j = L := by omega
          go_wp2_with (first
            | (go_at_call 12; refine (close_any w.heap.size gP st2 x2 _ HH2.out.1.T).mono ?_; rintro e w4 ⟨rfl, ht4, hf4⟩; have H4 := Lib.hid (HH2.out.1.turnT ht4 hf4 (fun i hi => .inl hi)); have HB4 := Lib.hid (HH2.out.2.trans (HH2.out.1.belowT hf4)); clear ht4 hf4)
            | (go_at_call 18; refine (mend_any w.heap.size q st2 y2 _ H4.out.M).mono ?_; rintro e w5 ⟨y5, rfl, hm5, hf5, hft5⟩; have H5 := Lib.hid (H4.out.turnM hm5 hf5 hft5); have HB5 := Lib.hid (HB4.out.trans (H4.out.belowM hf5)); clear hm5 hf5 hft5)
            | (go_at_call 14; refine (alike_any w.heap.size gP w.heap.size q st2.close x2 y5 _ H5.out.T H5.out.M).mono ?_; rintro e w6 ⟨rfl, hb6⟩)
            | fail)
          go_roundg (gk - 1)
          case measure => omega
          case rel => exact ⟨v2, st2.close, x2, y5, rfl, by rw [close_rounds]; omega, by rw [close_rounds]; omega, Lib.hid ⟨H5.out.below hb6, below_call HB5.out hb6 HB5.out.size⟩⟩
    · have hn1 : (st.sErr == 0) = false := by rw [beq_eq_false_iff_ne]; exact he
      have hn2 : (st.sErr != 0) = true := by simp [bne, hn1]
      have HES : Hid (st.start = st ∧ st.sList = []) := Lib.hid ⟨by unfold TS.start; rw [if_neg he], by unfold TS.sList; rw [if_neg he]⟩
      clear he
      go_wp2_with (first
        | (go_at_call 15; refine (mstart_any w.heap.size q st y _ HH.out.1.M).mono ?_; rintro e w1 ⟨y1, A1, c1, rfl, ho1, hm1, hf1, hft1⟩; have H1 := Lib.hid (HH.out.1.turnM hm1 hf1 hft1); have HB1 := Lib.hid (HH.out.2.trans (HH.out.1.belowM hf1)); have HO1 := Lib.hid ho1; clear ho1 hm1 hf1 hft1)
        | (go_at_call 16; refine (starts_any w.heap.size gP st x A1 st.sList.length c1 _ H1.out.T HO1.out.reads (fun _ i hi hm => by have := (HH.out.1.T.foot i (.inl hm)).2; have := (HO1.out.lt i hi).1; omega)).mono ?_; rintro e w2 ⟨x2, rfl, ht2, hf2, hft2⟩; have H2 := Lib.hid (H1.out.turnT ht2 hf2 hft2); have HB2 := Lib.hid (HB1.out.trans (H1.out.belowT hf2)); clear ht2 hf2 hft2)
        | (go_at_call 14; refine (alike_any w.heap.size gP w.heap.size q st.start x2 y1 _ H2.out.T H2.out.M).mono ?_; rintro e w6 ⟨rfl, hb6⟩; have HB6 := Lib.hid (below_call HB2.out hb6 HB2.out.size))
        | (go_at_call 8; refine (known_any _).mono ?_; rintro e w7 ⟨rfl, hb7⟩)
        | fail)
      go_returns
      exact ⟨rfl, below_call HB6.out hb7 HB6.out.size⟩
end Go.Proofs.Ytngcmihaheiigaa
