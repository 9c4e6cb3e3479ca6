/-
  step: a call of the tournament and of the model.
-/
import Derived.Test.YtngcmihaheiigaaTM
set_option linter.unusedSimpArgs false
set_option linter.unusedVariables false
namespace Go.Proofs.Ytngcmihaheiigaa
open Go.RowKit

def stepS (st : TS) (a d s : Int) : TS := if a = 0 then st.start else if a = 1 then st.report d s else if a = 2 then st.close else st
/-- What step hands back. -/
def StepEnd (B q : Nat) (st' : TS) (w : World) (e : Ending) (w' : World) : Prop := ∃ p' x' y', e = .returned (.tuple #[.pointer (some ⟨p', 0, none⟩), .bool true]) ∧ TM B p' q st' x' st' y' w' ∧ Below B w w'

set_option maxRecDepth 100000 in
set_option maxHeartbeats 1600000 in
theorem step_start (B p q : Nat) (st : TS) (x : TC) (y : MC) (d s : Int) (w : World) (h : TM B p q st x st y w) : Calls Try.prog 19 #[.pointer (some ⟨p, 0, none⟩), .pointer (some ⟨q, 0, none⟩), .agg #[.int .i64 0, .int .i64 d, .int .i64 s]] w (StepEnd B q st.start w) := by
  have hal : Below w.heap.size w (w.alloc (.cells #[.int .i64 0, .int .i64 d, .int .i64 s] 53)) := (Below.refl _ _).alloc (Nat.le_refl _) _
  have H0 := Lib.hid (h.below hal)
  have HB0 : Hid (Below B w (w.alloc (.cells #[.int .i64 0, .int .i64 d, .int .i64 s] 53))) := Lib.hid (hal.mono h.size)
  have hL7 := TS.sList_len h.T.ok
  clear h hal
  go_enter Try.func19, Try.ntmps19
  go_wp2_with (first
    | (go_at_call 15; refine (mstart_any B q st y _ H0.out.M).mono ?_; rintro e w1 ⟨y1, A1, c1, rfl, ho1, hm1, hf1, hft1⟩; have H1 := Lib.hid (H0.out.turnM hm1 hf1 hft1); have HB1 := Lib.hid (HB0.out.trans (H0.out.belowM hf1)); have HO1 := Lib.hid ho1; clear ho1 hm1 hf1 hft1)
    | (go_at_call 10; refine (start_any B p st x _ H1.out.T).mono ?_; rintro e w2 ⟨x2, A2, c2, rfl, ho2, ht2, hf2, hft2, hns2⟩; have H2 := Lib.hid (H1.out.turnT ht2 hf2 hft2); have HB2 := Lib.hid (HB1.out.trans (H1.out.belowT hf2)); have HO2 := Lib.hid ho2; have HNS := Lib.hid hns2; have HO12 := Lib.hid (HO1.out.onlyF hf2 (fun i hi hm => H1.out.T.apart HO1.out (by decide) (by decide) (by decide) (by decide) (by decide) i hm hi)); clear ho2 ht2 hf2 hft2 hns2)
    | (go_at_call 31; refine (duels_same st.sList HO2.out.reads HO12.out.reads (by omega)).mono ?_; rintro e w3 ⟨rfl, hb3⟩)
    | fail)
  have H3 := Lib.hid (H2.out.below hb3)
  have HB3 := Lib.hid (HB2.out.trans (hb3.mono H2.out.size))
  have HO3 := Lib.hid (HO2.out.below hb3)
  have HMF : Hid (∀ i, FootM q y1 i → i < w1.heap.size) := Lib.hid fun i hi => (H1.out.M.foot i hi).2
  clear HO1 HO2 HO12 hb3
  generalize st.sList.length = L at *
  go_loopw [13] (fun i W => ∃ (j : Nat) (xs : List Value), j ≤ L ∧ i = .int .i64 j ∧ XOwns W w1.heap.size 33 2 A2 L c2 xs ∧ Hid (TM B p q st.start x2 st.start y1 W ∧ Below B w W)) (fun i _ => L - (intOf i).toNat)
  case atStart => exact ⟨0, _, Nat.zero_le _, rfl, HO3.out, Lib.hid ⟨H3.out, HB3.out⟩⟩
  case round =>
    obtain ⟨j, xs, hj, rfl, hO, HH⟩ := hrel
    by_cases hlt : j < L
    · have hlt' : (j : Int) < L := by omega
      obtain ⟨ga, u, hA, hga, hgl, hcc, hfr⟩ := hO.get (j := j * 2) (by omega)
      obtain ⟨gb, u2, hA2, _, _, hcc2, hfr2⟩ := hO.get (j := j * 2 + 1) (by omega)
      obtain rfl : ga = gb := by rw [hA] at hA2; injection hA2 with h1; injection h1
      subst hA
      have HO5 := Lib.hid hO
      have HNG : Hid (∀ i, FootT p x2 i → i ≠ ga) := Lib.hid fun i hi e => HNS.out i (by rw [e]; rfl) hi
      have HNM : Hid (∀ i, FootM q y1 i → i ≠ ga) := Lib.hid fun i hi => by have := HMF.out i hi; omega
      have hBg : B ≤ ga := by have := H1.out.size; omega
      clear hO hA2
      go_wp2
      go_roundw
      case rel => exact ⟨j + 1, _, by omega, by go_num, (HO5.out.setX _ _).setX _ _, Lib.hid ⟨(HH.out.1.put HNG.out HNM.out).put HNG.out HNM.out, (HH.out.2.setCell (p := ⟨ga, j * 2, none⟩) hBg _).setCell (p := ⟨ga, j * 2 + 1, none⟩) hBg _⟩⟩
      case measure => simp [intOf]; omega
    · obtain rfl : j = L := by omega
      clear hO
      go_wp2
      go_ret2
      exact ⟨p, x2, y1, rfl, HH.out.1, HH.out.2⟩

set_option maxRecDepth 100000 in
set_option maxHeartbeats 1600000 in
theorem step_report (B p q : Nat) (st : TS) (x : TC) (y : MC) (d s : Int) (w : World) (h : TM B p q st x st y w) : Calls Try.prog 19 #[.pointer (some ⟨p, 0, none⟩), .pointer (some ⟨q, 0, none⟩), .agg #[.int .i64 1, .int .i64 d, .int .i64 s]] w (StepEnd B q (st.report d s) w) := by
  have hal : Below w.heap.size w (w.alloc (.cells #[.int .i64 1, .int .i64 d, .int .i64 s] 53)) := (Below.refl _ _).alloc (Nat.le_refl _) _
  have H0 := Lib.hid (h.below hal)
  have HB0 : Hid (Below B w (w.alloc (.cells #[.int .i64 1, .int .i64 d, .int .i64 s] 53))) := Lib.hid (hal.mono h.size)
  have HBK := Lib.hid (Blk.mk_ w 53 #[.int .i64 1, .int .i64 d, .int .i64 s] _ rfl)
  have HNT : Hid (∀ i, FootT p x i → i ≠ w.heap.size) := Lib.hid fun i hi => Nat.ne_of_lt (h.T.foot i hi).2
  have HNM : Hid (∀ i, FootM q y i → i ≠ w.heap.size) := Lib.hid fun i hi => Nat.ne_of_lt (h.M.foot i hi).2
  clear h hal
  go_enter Try.func19, Try.ntmps19
  go_wp2
  generalize hW0 : w.alloc (.cells #[.int .i64 1, .int .i64 d, .int .i64 s] 53) = w0 at *
  clear hW0
  have hNE : Nonempty (In (fun W => Blk W w.heap.size 53 #[.int .i64 1, .int .i64 d, .int .i64 s])) := ⟨⟨w0, HBK.out⟩⟩
  have c1 : ∀ s_ : In (fun W => Blk W w.heap.size 53 #[.int .i64 1, .int .i64 d, .int .i64 s]), s_.W.cell? ⟨w.heap.size, 1, none⟩ = some (.int .i64 d) := fun s => (s.h.at_ 1).trans rfl
  have c2 : ∀ s_ : In (fun W => Blk W w.heap.size 53 #[.int .i64 1, .int .i64 d, .int .i64 s]), s_.W.cell? ⟨w.heap.size, 2, none⟩ = some (.int .i64 s) := fun s => (s.h.at_ 2).trans rfl
  refine wp_region_sched (fun w' => ∃ s_ : In (fun W => Blk W w.heap.size 53 #[.int .i64 1, .int .i64 d, .int .i64 s]), w' = s_.W) [0,1,2,3,4,5,7,8,9,10,11] (.one 6 [] (.one 12 [13,14,15] .done)) (by kernel_rfl) (by kernel_rfl) (fun d _ _ _ _ h => by cases d <;> exact h) ⟨⟨_, HBK.out.drew⟩, rfl⟩ ?_
  simp only [opsAt, List.getElem?_toArray, List.getElem?_cons_succ, List.getElem?_cons_zero]
  repeat (go_big_quiet_step (fail))
  refine wpQuiet_nil ?_
  (refine eff_lit rfl rfl (fun K hK => ?_))
  go_big_op
  have H1 := Lib.hid (H0.out.below (Below.refl _ _).drew)
  refine (report_any B p st x d s _ H1.out.T).mono ?_
  rintro e w2 ⟨rfl, ht2, hf2⟩
  have H2 := Lib.hid (H1.out.turnT ht2 hf2 (fun i hi => .inl hi))
  have HB2 := Lib.hid ((HB0.out.drew).trans (H1.out.belowT hf2))
  have HBK2 := Lib.hid (HBK.out.drew.onlyF hf2 (fun hm => HNT.out _ (.inl hm) rfl))
  clear ht2 hf2
  refine hK _ _ ⟨⟨_, HBK2.out⟩, rfl⟩ ?_
  clear hK K c1 c2
  simp only [opsAt, List.getElem?_toArray, List.getElem?_cons_succ, List.getElem?_cons_zero]
  repeat (go_big_quiet_step (fail))
  refine wpQuiet_nil ?_
  (refine eff_lit rfl rfl (fun K hK => ?_))
  go_big_op
  refine (mreport_any B q st y d s _ H2.out.M).mono ?_
  rintro e w3 ⟨y3, rfl, hm3, hf3, hft3⟩
  have H3 := Lib.hid (H2.out.turnM hm3 hf3 hft3)
  have HB3 := Lib.hid (HB2.out.trans (H2.out.belowM hf3))
  have HBK3 := Lib.hid (HBK2.out.onlyF hf3 (fun hm => HNM.out _ (.inl hm) rfl))
  clear hm3 hf3 hft3
  refine hK _ _ ⟨⟨_, HBK3.out⟩, rfl⟩ ?_
  clear hK K
  simp only [opsAt, List.getElem?_toArray, List.getElem?_cons_succ, List.getElem?_cons_zero]
  repeat (go_big_quiet_step (fail))
  refine wpQuiet_nil ?_
  refine effs_done ?_
  go_wp2
  go_ret2
  exact ⟨p, x, y3, rfl, H3.out, HB3.out⟩

set_option maxRecDepth 100000 in
set_option maxHeartbeats 1600000 in
theorem step_close (B p q : Nat) (st : TS) (x : TC) (y : MC) (d s : Int) (w : World) (h : TM B p q st x st y w) : Calls Try.prog 19 #[.pointer (some ⟨p, 0, none⟩), .pointer (some ⟨q, 0, none⟩), .agg #[.int .i64 2, .int .i64 d, .int .i64 s]] w (StepEnd B q st.close w) := by
  have hal : Below w.heap.size w (w.alloc (.cells #[.int .i64 2, .int .i64 d, .int .i64 s] 53)) := (Below.refl _ _).alloc (Nat.le_refl _) _
  have H0 := Lib.hid (h.below hal)
  have HB0 : Hid (Below B w (w.alloc (.cells #[.int .i64 2, .int .i64 d, .int .i64 s] 53))) := Lib.hid (hal.mono h.size)
  clear h hal
  go_enter Try.func19, Try.ntmps19
  go_wp2_with (first
    | (go_at_call 12; refine (close_any B p st x _ H0.out.T).mono ?_; rintro e w2 ⟨rfl, ht2, hf2⟩; have H2 := Lib.hid (H0.out.turnT ht2 hf2 (fun i hi => .inl hi)); have HB2 := Lib.hid (HB0.out.trans (H0.out.belowT hf2)); clear ht2 hf2)
    | (go_at_call 18; refine (mend_any B q st y _ H2.out.M).mono ?_; rintro e w3 ⟨y3, rfl, hm3, hf3, hft3⟩; have H3 := Lib.hid (H2.out.turnM hm3 hf3 hft3); have HB3 := Lib.hid (HB2.out.trans (H2.out.belowM hf3)); clear hm3 hf3 hft3)
    | fail)
  go_ret2
  exact ⟨p, x, y3, rfl, H3.out, HB3.out⟩

set_option maxRecDepth 100000 in
set_option maxHeartbeats 1600000 in
theorem step_copy (B p q : Nat) (st : TS) (x : TC) (y : MC) (a d s : Int) (w : World) (h : TM B p q st x st y w) (h0 : a ≠ 0) (h1 : a ≠ 1) (h2 : a ≠ 2) : Calls Try.prog 19 #[.pointer (some ⟨p, 0, none⟩), .pointer (some ⟨q, 0, none⟩), .agg #[.int .i64 a, .int .i64 d, .int .i64 s]] w (StepEnd B q st w) := by
  have hal : Below w.heap.size w (w.alloc (.cells #[.int .i64 a, .int .i64 d, .int .i64 s] 53)) := (Below.refl _ _).alloc (Nat.le_refl _) _
  have H0 := Lib.hid (h.below hal)
  have HB0 : Hid (Below B w (w.alloc (.cells #[.int .i64 a, .int .i64 d, .int .i64 s] 53))) := Lib.hid (hal.mono h.size)
  have e0 : (a == 0) = false := by rw [beq_eq_false_iff_ne]; exact h0
  have e1 : (a == 1) = false := by rw [beq_eq_false_iff_ne]; exact h1
  have e2 : (a == 2) = false := by rw [beq_eq_false_iff_ne]; exact h2
  clear h hal h0 h1 h2
  go_enter Try.func19, Try.ntmps19
  go_wp2_with fail
  refine (copy_any B p st x _ H0.out.T).mono ?_
  rintro e w1 ⟨g, xc, rfl, htc, hb1, hmc, hfc⟩
  have H1 := Lib.hid (H0.out.below hb1)
  have HB1 := Lib.hid (HB0.out.trans (hb1.mono H0.out.size))
  have HC1 := Lib.hid htc
  have HMC := Lib.hid hmc
  have HFC := Lib.hid hfc
  clear htc hb1 hmc hfc
  go_wp2_with fail
  refine (start_any B p st x _ H1.out.T).mono ?_
  rintro e w2 ⟨x2, A2, c2, rfl, ho2, ht2, hf2, hft2, -⟩
  have H2 := Lib.hid (H1.out.turnT ht2 hf2 hft2)
  have HB2 := Lib.hid (HB1.out.trans (H1.out.belowT hf2))
  have HFT := Lib.hid hft2
  have HAP1 : Hid (∀ i, FootT g xc i → ¬ MutT p x i) := Lib.hid (copy_apart H0.out.T HFC.out HMC.out HC1.out HC1.out H1.out.T (fun i hi => .inl hi))
  have HC2 := Lib.hid (HC1.out.onlyF hf2 HAP1.out)
  have HAP2 : Hid (∀ i, FootT g xc i → ¬ MutT p x2 i) := Lib.hid (copy_apart H0.out.T HFC.out HMC.out HC1.out HC2.out H2.out.T HFT.out)
  clear ho2 ht2 hf2 hft2
  go_wp2_with fail
  refine (report_any B p st.start x2 0 0 _ H2.out.T).mono ?_
  rintro e w3 ⟨rfl, ht3, hf3⟩
  have H3 := Lib.hid (H2.out.turnT ht3 hf3 (fun i hi => .inl hi))
  have HB3 := Lib.hid (HB2.out.trans (H2.out.belowT hf3))
  have HC3 := Lib.hid (HC2.out.onlyF hf3 HAP2.out)
  clear ht3 hf3
  go_wp2_with fail
  refine (report_any B p (st.start.report 0 0) x2 1 0 _ H3.out.T).mono ?_
  rintro e w4 ⟨rfl, ht4, hf4⟩
  have H4 := Lib.hid (H3.out.turnT ht4 hf4 (fun i hi => .inl hi))
  have HB4 := Lib.hid (HB3.out.trans (H3.out.belowT hf4))
  have HC4 := Lib.hid (HC3.out.onlyF hf4 HAP2.out)
  clear ht4 hf4
  have HSP : Hid (∀ i, FootT g xc i → ¬ FootM q y i) := Lib.hid (fun i hi hm => by
    rcases HFC.out i hi with h5 | h5
    · exact H0.out.sep i h5 hm
    · have := (H0.out.M.foot i hm).2; omega)
  go_wp2
  go_ret2
  exact ⟨g, xc, y, rfl, ⟨HC4.out, H4.out.M, HSP.out⟩, HB4.out⟩

theorem step_any (B p q : Nat) (st : TS) (x : TC) (y : MC) (a d s : Int) (w : World) (h : TM B p q st x st y w) : Calls Try.prog 19 #[.pointer (some ⟨p, 0, none⟩), .pointer (some ⟨q, 0, none⟩), .agg #[.int .i64 a, .int .i64 d, .int .i64 s]] w (StepEnd B q (stepS st a d s) w) := by
  unfold stepS
  by_cases h0 : a = 0
  · subst h0; rw [if_pos rfl]; exact step_start B p q st x y d s w h
  · rw [if_neg h0]
    by_cases h1 : a = 1
    · subst h1; rw [if_pos rfl]; exact step_report B p q st x y d s w h
    · rw [if_neg h1]
      by_cases h2 : a = 2
      · subst h2; rw [if_pos rfl]; exact step_close B p q st x y d s w h
      · rw [if_neg h2]; exact step_copy B p q st x y a d s w h h0 h1 h2
end Go.Proofs.Ytngcmihaheiigaa
