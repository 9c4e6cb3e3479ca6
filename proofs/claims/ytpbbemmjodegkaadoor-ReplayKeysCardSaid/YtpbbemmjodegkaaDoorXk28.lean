/-
  Texts: Known.
-/
import Derived.Test.YtpbbemmjodegkaaDoorXk27
set_option linter.unusedSimpArgs false
set_option linter.unusedVariables false
namespace Go.Proofs.YtpbbemmjodegkaaDoor
open Go.RowKit

def K0 : St := st0 7
def K1 : St := K0.add passV
def K2 : St := K1.add concedeV
theorem K1_sum : K1.sum = 201357374 := by decide +kernel
theorem K1_len : K1.data.length = 9 := by decide +kernel
theorem K2_len : K2.data.length = 19 := by decide +kernel
theorem K2_mvl : K2.mv.length = 2 := rfl
theorem K1_five : K1.data.take 5 = [1, 1, 0, 0, 5] := by decide +kernel
theorem K2_six : (K2.data.drop 9).take 6 = [6, 0, 0, 0, 167, 2] := by decide +kernel
theorem K0_fits : fits K0 passV := ⟨by decide +kernel, by decide +kernel, by decide +kernel⟩
theorem K1_fits : fits K1 concedeV := ⟨by decide +kernel, by decide +kernel, by decide +kernel⟩
theorem K2_bad : passV.at_ < K2.last := by decide +kernel
theorem K2_read : readS (st0 7) K2.data = K2 := by kernel_rfl
theorem K1_read : readS (st0 7) (K2.data.take 18) = K1 := by kernel_rfl
theorem K0_read : readS (st0 8) K2.data = st0 8 := by kernel_rfl
theorem K1_pre : K1.data = (K2.data.take 18).take K1.data.length := by decide +kernel
theorem K2_pre : K2.data = K2.data.take K2.data.length := by simp
theorem passed_any (B p : Nat) (x : RpC) (w : World) (h : Rp w B p K0 x) : Calls Tryd.prog 12 #[.pointer (some ⟨p, 0, none⟩), .agg #[.int .i64 1, .int .i64 1, .int .i64 1, .int .i64 0, .int .i64 0, .int .u64 5]] w fun e w' => ∃ x', e = .returned (.int .i64 0) ∧ Rp w' B p K1 x' ∧ OnlyF (Foot p x) w w' :=
  (app_ok B p K0 x passV w h K0_fits (by decide)).mono fun e w' ⟨x', h1, h2, h3, _⟩ => ⟨x', h1, h2, h3⟩
theorem conceded_any (B p : Nat) (x : RpC) (w : World) (h : Rp w B p K1 x) : Calls Tryd.prog 12 #[.pointer (some ⟨p, 0, none⟩), .agg #[.int .i64 0, .int .i64 4, .int .i64 0, .int .i64 0, .int .i64 0, .int .u64 300]] w fun e w' => ∃ x', e = .returned (.int .i64 0) ∧ Rp w' B p K2 x' ∧ OnlyF (Foot p x) w w' :=
  (app_ok B p K1 x concedeV w h K1_fits (by decide)).mono fun e w' ⟨x', h1, h2, h3, _⟩ => ⟨x', h1, h2, h3⟩

theorem reads_19 (A M : Option Addr) (c mc : Nat) (w : World) (hx : BReads w A 19 K2.data) (hc : 19 ≤ c) (hc2 : c ≤ 9223372036854775807) (hA : A = none → c = 0) (hM : Reads w 6 M 2 (mcells K2.mv)) :
    Calls Tryd.prog 17 #[.int .u32 7, .slice A 19 c, .slice M 2 mc, .int .i64 19] w fun e w' => e = .returned (.bool true) ∧ Below w.heap.size w w' := by
  have h := reads_q 7 K2 A M 19 c mc K2.data w (by omega) hx hc hc2 hA hM K2_read K2_pre (by rw [K2_len]; omega)
  rw [K2_len, K2_mvl] at h
  exact h
theorem reads_18 (A M : Option Addr) (c mc : Nat) (w : World) (hx : BReads w A 18 (K2.data.take 18)) (hc : 18 ≤ c) (hc2 : c ≤ 9223372036854775807) (hA : A = none → c = 0) (hM : Reads w 6 M 1 (mcells K1.mv)) :
    Calls Tryd.prog 17 #[.int .u32 7, .slice A 18 c, .slice M 1 mc, .int .i64 9] w fun e w' => e = .returned (.bool true) ∧ Below w.heap.size w w' := by
  have h := reads_q 7 K1 A M 18 c mc (K2.data.take 18) w (by omega) hx hc hc2 hA hM K1_read K1_pre (by rw [K1_len]; omega)
  rw [K1_len, show K1.mv.length = 1 from rfl] at h
  exact h
theorem reads_0 (A : Option Addr) (c : Nat) (w : World) (hx : BReads w A 19 K2.data) (hc : 19 ≤ c) (hc2 : c ≤ 9223372036854775807) (hA : A = none → c = 0) :
    Calls Tryd.prog 17 #[.int .u32 8, .slice A 19 c, .slice none 0 0, .int .i64 0] w fun e w' => e = .returned (.bool true) ∧ Below w.heap.size w w' :=
  reads_q 8 (st0 8) A none 19 c 0 K2.data w (by omega) hx hc hc2 hA Reads.none_ K0_read rfl (Nat.zero_le _)

set_option maxRecDepth 100000 in
set_option maxHeartbeats 1600000 in
theorem known_any (w : World) : Calls Tryd.prog 4 #[] w fun e w' => e = .returned (.bool true) ∧ Below w.heap.size w w' := by
  go_enter Tryd.func4, Tryd.ntmps4
  go_wp2_with (first
    | (go_at_call 10; refine (new_any 7 _ (by omega)).mono ?_; rintro e w1 ⟨rfl, hR1, hb1⟩; have HR1 : Hid (Rp w1 w.heap.size w.heap.size K0 _) := Lib.hid hR1; have hz1 := hR1.blk.lt; clear hR1)
    | (go_at_call 11; refine (rsum_any w.heap.size w.heap.size K1 x1 _ HR4.out).mono ?_; rintro e w5 ⟨rfl, hb5⟩; have HR5 := Lib.hid (HR4.out.below hb5); have hB5 := below_call hB4 hb5 hB4.size; have hz5 := hB5.size; rw [K1_sum])
    | (go_at_call 11; refine (rsum_any w.heap.size w.heap.size K0 _ _ HR1.out).mono ?_; rintro e w2 ⟨rfl, hb2⟩; have HR2 := Lib.hid (HR1.out.below hb2); have hB2 := below_call hb1 hb2 hb1.size; have hz2 := hB2.size; rw [show K0.sum = 7 from rfl])
    | (go_at_call 13; refine (pass_any _).mono ?_; rintro e w3 ⟨rfl, hb3⟩; have HR3 := Lib.hid (HR2.out.below hb3); have hB3 := below_call hB2 hb3 hB2.size; have hz3 := hB3.size)
    | (go_at_call 12; refine (passed_any w.heap.size w.heap.size _ _ HR3.out).mono ?_; rintro e w4 ⟨x1, rfl, hR4, hF4⟩; have HR4 := Lib.hid hR4; have hB4 : Below w.heap.size w w4 := hB3.trans (hF4.below (by omega) (fun i hi => (HR3.out.foot i hi).1)); have hz4 := hB4.size; clear hR4 hF4)
    | (go_at_call 14; refine (bytes_any w.heap.size w.heap.size K1 x1 _ HR5.out).mono ?_; rintro e w6 ⟨A6, c6, rfl, ho6, hb6⟩; have HO6 := Lib.hid ho6; have HR5_ := Lib.hid HR5.out; have HR6 := Lib.hid (HR5.out.below hb6); have hB6 := below_call hB5 hb6 hB5.size; have hz6 := hB6.size; rw [K1_len]; rw [K1_len] at HO6; clear ho6)
    | fail)
  clear HR1 HR2 HR3 HR4 HR5
  obtain ⟨g6, hA6, hg6, _⟩ := HO6.out.head (by omega)
  subst hA6
  have hc6 := HO6.out.cap
  have hc6' : (5 : Int) ≤ c6 := by omega
  have hNF : Hid (∀ i, Foot w.heap.size x1 i → i ≠ g6) := Lib.hid fun i hi => by have := (HR5_.out.foot i hi).2; omega
  have hNE : Nonempty (In (fun W => BReads W (some ⟨g6, 0, none⟩) 9 K1.data)) := ⟨⟨_, HO6.out.reads⟩⟩
  have v1 : ∀ s : In (fun W => BReads W (some ⟨g6, 0, none⟩) 9 K1.data), (convert 35 9 (.slice (some ⟨g6, 0, none⟩) 5 c6)).run Tryd.prog s.W = .ok (.string (strOfNums [1, 1, 0, 0, 5])) s.W := fun s => by
    have h := s.h.head (k := 5) (by omega)
    rw [K1_five] at h
    exact convert_bytes (P := Tryd.prog) h c6 35 5 Tryd.underlying35 Tryd.underlying5 9 Tryd.underlying9
  refine wp_region_sched (fun w' => ∃ s : In (fun W => BReads W (some ⟨g6, 0, none⟩) 9 K1.data), w' = s.W) [0,1,2,3,4,5,6] (.one 7 [] (.one 8 [9,10,11,12] (.one 13 [] (.one 14 [15,16,17,18] (.one 19 [20,21] .done))))) (by kernel_rfl) (by kernel_rfl) (fun d _ _ _ _ h => by cases d <;> exact h) ⟨⟨_, HO6.out.reads.drew⟩, rfl⟩ ?_
  simp only [opsAt, List.getElem?_toArray, List.getElem?_cons_succ, List.getElem?_cons_zero]
  repeat (go_big_quiet_step (fail))
  refine wpQuiet_nil ?_
  (refine eff_lit rfl rfl (fun K hK => ?_))
  go_big_op
  have hB7 : Below w6.heap.size w6 (w6.alloc (.cells #[.int .u8 1, .int .u8 1, .int .u8 0, .int .u8 0, .int .u8 5] 5)).drew := ((Below.refl _ _).alloc (Nat.le_refl _) _).drew
  have v7 : (convert 35 9 (.slice (some ⟨w6.heap.size, 0, none⟩) 5 5)).run Tryd.prog (w6.alloc (.cells #[.int .u8 1, .int .u8 1, .int .u8 0, .int .u8 0, .int .u8 5] 5)).drew = .ok (.string (strOfNums [1, 1, 0, 0, 5])) (w6.alloc (.cells #[.int .u8 1, .int .u8 1, .int .u8 0, .int .u8 0, .int .u8 5] 5)).drew := convert_bytes (P := Tryd.prog) (BReads.lit w6 5 [1, 1, 0, 0, 5] w6.heap.size 5 (by unfold IsBytes; decide) rfl rfl).drew 5 35 5 Tryd.underlying35 Tryd.underlying5 9 Tryd.underlying9
  refine hK _ _ ⟨⟨_, HO6.out.reads.below hB7⟩, rfl⟩ ?_
  clear hK K
  simp only [opsAt, List.getElem?_toArray, List.getElem?_cons_succ, List.getElem?_cons_zero]
  refine wpQuiet_nil ?_
  (refine eff_lit rfl rfl (fun K hK => ?_))
  go_big_op
  refine hK _ _ ⟨⟨_, HO6.out.reads.below hB7⟩, rfl⟩ ?_
  clear hK K
  simp only [opsAt, List.getElem?_toArray, List.getElem?_cons_succ, List.getElem?_cons_zero]
  repeat (go_big_quiet_step (fail))
  refine wpQuiet_nil ?_
  (refine eff_lit rfl rfl (fun K hK => ?_))
  go_big_op
  refine (concede_any _).mono ?_
  rintro e w8 ⟨rfl, hb8⟩
  have hB8 := below_call hB7 hb8 hB7.size
  have hz8 := hB8.size
  refine hK _ _ ⟨⟨_, HO6.out.reads.below hB8⟩, rfl⟩ ?_
  clear hK K
  simp only [opsAt, List.getElem?_toArray, List.getElem?_cons_succ, List.getElem?_cons_zero]
  refine wpQuiet_nil ?_
  (refine eff_lit rfl rfl (fun K hK => ?_))
  go_big_op
  refine (conceded_any w.heap.size w.heap.size _ _ (HR6.out.below hB8)).mono ?_
  rintro e w9 ⟨x2, rfl, hR9, hF9⟩
  have HR9 := Lib.hid hR9
  have hX9 : BReads w9 (some ⟨g6, 0, none⟩) 9 K1.data := ⟨(HO6.out.reads.below hB8).1.onlyF hF9 (fun _ i hi hf => hNF.out i hf (by injection hi with hi; exact hi.symm)), (HO6.out.reads).2⟩
  have HX9 := Lib.hid hX9
  have hB9 : Below w.heap.size w w9 := (hB6.trans (hB8.mono hz6)).trans (hF9.below (by omega) (fun i hi => ((HR6.out.below hB8).foot i hi).1))
  have hz9 := hB9.size
  clear hR9 hF9 hX9
  refine hK _ _ ⟨⟨_, HX9.out⟩, rfl⟩ ?_
  clear hK K
  simp only [opsAt, List.getElem?_toArray, List.getElem?_cons_succ, List.getElem?_cons_zero]
  repeat (go_big_quiet_step (fail))
  refine wpQuiet_nil ?_
  (refine eff_lit rfl rfl (fun K hK => ?_))
  go_big_op
  refine (len_any w.heap.size w.heap.size K2 x2 _ HR9.out).mono ?_
  rintro e w10 ⟨rfl, rfl⟩
  rw [K2_mvl]
  refine hK _ _ ⟨⟨_, HX9.out⟩, rfl⟩ ?_
  clear hK K
  simp only [opsAt, List.getElem?_toArray, List.getElem?_cons_succ, List.getElem?_cons_zero]
  repeat (go_big_quiet_step (fail))
  refine wpQuiet_nil ?_
  refine effs_done ?_
  clear v1 v7 hNE
  go_wp2_with fail
  refine (bytes_any w.heap.size w.heap.size K2 x2 _ HR9.out).mono ?_
  rintro e w11 ⟨A11, c11, rfl, ho11, hb11⟩
  rw [K2_len]
  rw [K2_len] at ho11
  have hB11 : Below w.heap.size w w11 := below_call hB9 hb11 hB9.size
  have hz11 := hB11.size
  have HR11 := Lib.hid (HR9.out.below hb11)
  have HO11 := Lib.hid ho11
  clear hc6 hc6' hb8 hB7 hB8 hz8 HX9 hNF HO6 hg6 HR6 HR5_ hb1 hb2 hb3 hb5 hb6 hB2 hB3 hB4 hB5 hB6 hB9 hb11 HR9 ho11
  obtain ⟨g, hA11, hg11, _⟩ := HO11.out.head (by omega)
  subst hA11
  obtain ⟨hc1, hc2⟩ := HO11.out.cap
  have hc3 : (19 : Int) ≤ c11 := by omega
  have hcs : (c11 = 9) = False := eq_false (by omega)
  go_wp2
  have v1 : ∀ s : Later w11.heap.size w11, (convert 35 9 (.slice (some ⟨g, 9, none⟩) 6 (c11 - 9))).run Tryd.prog s.W = .ok (.string (strOfNums [6, 0, 0, 0, 167, 2])) s.W := fun s => by
    have h := ((HO11.out.reads.below s.h).cut' (k := 9) (by omega) hc1).head (k := 6) (by omega)
    rw [K2_six, if_neg (by omega)] at h
    exact convert_bytes (P := Tryd.prog) h _ 35 5 Tryd.underlying35 Tryd.underlying5 9 Tryd.underlying9
  refine wp_region_sched (fun w' => ∃ s : Later w11.heap.size w11, w' = s.W) [0,1,2,3,4,5,6] (.one 7 [] (.one 8 [9,10,11,12] (.one 13 [] (.one 14 [15,16,17,18,19] (.one 20 [21,22] .done))))) (by kernel_rfl) (by kernel_rfl) (fun d _ _ _ _ h => by cases d <;> exact h) ⟨⟨_, (Below.refl _ _).drew⟩, rfl⟩ ?_
  simp only [opsAt, List.getElem?_toArray, List.getElem?_cons_succ, List.getElem?_cons_zero]
  repeat (go_big_quiet_step (fail))
  refine wpQuiet_nil ?_
  (refine eff_lit rfl rfl (fun K hK => ?_))
  go_big_op
  have hB12 : Below w11.heap.size w11 (w11.alloc (.cells #[.int .u8 6, .int .u8 0, .int .u8 0, .int .u8 0, .int .u8 167, .int .u8 2] 5)).drew := ((Below.refl _ _).alloc (Nat.le_refl _) _).drew
  have v7 : (convert 35 9 (.slice (some ⟨w11.heap.size, 0, none⟩) 6 6)).run Tryd.prog (w11.alloc (.cells #[.int .u8 6, .int .u8 0, .int .u8 0, .int .u8 0, .int .u8 167, .int .u8 2] 5)).drew = .ok (.string (strOfNums [6, 0, 0, 0, 167, 2])) (w11.alloc (.cells #[.int .u8 6, .int .u8 0, .int .u8 0, .int .u8 0, .int .u8 167, .int .u8 2] 5)).drew := convert_bytes (P := Tryd.prog) (BReads.lit w11 5 [6, 0, 0, 0, 167, 2] w11.heap.size 6 (by unfold IsBytes; decide) rfl rfl).drew 6 35 5 Tryd.underlying35 Tryd.underlying5 9 Tryd.underlying9
  refine hK _ _ ⟨⟨_, hB12⟩, rfl⟩ ?_
  clear hK K
  simp only [opsAt, List.getElem?_toArray, List.getElem?_cons_succ, List.getElem?_cons_zero]
  refine wpQuiet_nil ?_
  (refine eff_lit rfl rfl (fun K hK => ?_))
  go_big_op
  refine hK _ _ ⟨⟨_, hB12⟩, rfl⟩ ?_
  clear hK K
  simp only [opsAt, List.getElem?_toArray, List.getElem?_cons_succ, List.getElem?_cons_zero]
  repeat (go_big_quiet_step (fail))
  refine wpQuiet_nil ?_
  (refine eff_lit rfl rfl (fun K hK => ?_))
  go_big_op
  refine (pass_any _).mono ?_
  rintro e w13 ⟨rfl, hb13⟩
  have hB13 := below_call hB12 hb13 hB12.size
  refine hK _ _ ⟨⟨_, hB13⟩, rfl⟩ ?_
  clear hK K
  simp only [opsAt, List.getElem?_toArray, List.getElem?_cons_succ, List.getElem?_cons_zero]
  refine wpQuiet_nil ?_
  (refine eff_lit rfl rfl (fun K hK => ?_))
  go_big_op
  refine (app_bad w.heap.size w.heap.size K2 x2 passV _ (HR11.out.below hB13) (.inr K2_bad)).mono ?_
  rintro e w14 ⟨rfl, hb14⟩
  have hB14 := below_call hB13 hb14 hB13.size
  refine hK _ _ ⟨⟨_, hB14⟩, rfl⟩ ?_
  clear hK K
  simp only [opsAt, List.getElem?_toArray, List.getElem?_cons_succ, List.getElem?_cons_zero]
  repeat (go_big_quiet_step (fail))
  refine wpQuiet_nil ?_
  (refine eff_lit rfl rfl (fun K hK => ?_))
  go_big_op
  refine (app_bad w.heap.size w.heap.size K2 x2 ⟨2, 1, 0, 0, 0, 400⟩ _ (HR11.out.below hB14) (.inl (by decide))).mono ?_
  rintro e w15 ⟨rfl, hb15⟩
  have hB15 := below_call hB14 hb15 hB14.size
  have hz15 := hB15.size
  have HO15 := Lib.hid (HO11.out.below hB15)
  refine hK _ _ ⟨⟨_, hB15⟩, rfl⟩ ?_
  clear hK K
  simp only [opsAt, List.getElem?_toArray, List.getElem?_cons_succ, List.getElem?_cons_zero]
  repeat (go_big_quiet_step (fail))
  refine wpQuiet_nil ?_
  refine effs_done ?_
  clear v1 v7
  have hB : Below w.heap.size w w15 := hB11.trans (hB15.mono hz11)
  clear hB11 hB12 hB13 hB14 hB15 hb13 hb14 hb15 HO11 HR11
  go_wp2
  have hc4 : (18 : Int) ≤ c11 := by omega
  refine wp_region_sched (fun w' => ∃ s : Later w15.heap.size w15, w' = s.W) [0] (.one 1 [] (.one 2 [] (.one 3 [] (.one 4 [5,6,7] (.one 8 [] (.one 9 [] (.one 10 [11,12,13] (.one 14 [15,16] .done)))))))) (by kernel_rfl) (by kernel_rfl) (fun d _ _ _ _ h => by cases d <;> exact h) ⟨⟨_, (Below.refl _ _).drew⟩, rfl⟩ ?_
  simp only [opsAt, List.getElem?_toArray, List.getElem?_cons_succ, List.getElem?_cons_zero]
  repeat (go_big_quiet_step (fail))
  refine wpQuiet_nil ?_
  (refine eff_lit rfl rfl (fun K hK => ?_))
  go_big_op
  refine (pass_any _).mono ?_
  rintro e w16 ⟨rfl, hb16⟩
  have hB16 : Below w15.heap.size w15 w16 := (Below.refl _ _).drew.trans hb16
  refine hK _ _ ⟨⟨_, hB16⟩, rfl⟩ ?_
  clear hK K
  simp only [opsAt, List.getElem?_toArray, List.getElem?_cons_succ, List.getElem?_cons_zero]
  refine wpQuiet_nil ?_
  (refine eff_lit rfl rfl (fun K hK => ?_))
  go_big_op
  refine (concede_any _).mono ?_
  rintro e w17 ⟨rfl, hb17⟩
  have hB17 := below_call hB16 hb17 hB16.size
  have hz17 := hB17.size
  refine hK _ _ ⟨⟨_, hB17⟩, rfl⟩ ?_
  clear hK K
  simp only [opsAt, List.getElem?_toArray, List.getElem?_cons_succ, List.getElem?_cons_zero]
  refine wpQuiet_nil ?_
  (refine eff_lit rfl rfl (fun K hK => ?_))
  go_big_op
  have hB18 := hB17.alloc hz17 (.cells #[.int .i64 1, .int .i64 1, .int .i64 1, .int .i64 0, .int .i64 0, .int .u64 5, .int .i64 0, .int .i64 4, .int .i64 0, .int .i64 0, .int .i64 0, .int .u64 300] 55)
  refine hK _ _ ⟨⟨_, hB18⟩, rfl⟩ ?_
  clear hK K
  simp only [opsAt, List.getElem?_toArray, List.getElem?_cons_succ, List.getElem?_cons_zero]
  refine wpQuiet_nil ?_
  (refine eff_lit rfl rfl (fun K hK => ?_))
  go_big_op
  refine (reads_19 _ _ _ _ _ (HO15.out.reads.below hB18) hc1 hc2 (fun h => by cases h) (reads_block (Blk.mk_ w17 55 _ _ rfl) 6 2 rfl)).mono ?_
  rintro e w19 ⟨rfl, hb19⟩
  have hB19 := below_call hB18 hb19 hB18.size
  refine hK _ _ ⟨⟨_, hB19⟩, rfl⟩ ?_
  clear hK K
  simp only [opsAt, List.getElem?_toArray, List.getElem?_cons_succ, List.getElem?_cons_zero]
  repeat (go_big_quiet_step (fail))
  refine wpQuiet_nil ?_
  (refine eff_lit rfl rfl (fun K hK => ?_))
  go_big_op
  refine (pass_any _).mono ?_
  rintro e w20 ⟨rfl, hb20⟩
  have hB20 := below_call hB19 hb20 hB19.size
  have hz20 := hB20.size
  refine hK _ _ ⟨⟨_, hB20⟩, rfl⟩ ?_
  clear hK K
  simp only [opsAt, List.getElem?_toArray, List.getElem?_cons_succ, List.getElem?_cons_zero]
  refine wpQuiet_nil ?_
  (refine eff_lit rfl rfl (fun K hK => ?_))
  go_big_op
  have hB21 := hB20.alloc hz20 (.cells #[.int .i64 1, .int .i64 1, .int .i64 1, .int .i64 0, .int .i64 0, .int .u64 5] 55)
  refine hK _ _ ⟨⟨_, hB21⟩, rfl⟩ ?_
  clear hK K
  simp only [opsAt, List.getElem?_toArray, List.getElem?_cons_succ, List.getElem?_cons_zero]
  refine wpQuiet_nil ?_
  (refine eff_lit rfl rfl (fun K hK => ?_))
  go_big_op
  refine (reads_18 _ _ _ _ _ ((HO15.out.reads.below hB21).head (by omega)) (by omega) hc2 (fun h => by cases h) (reads_block (Blk.mk_ w20 55 _ _ rfl) 6 1 rfl)).mono ?_
  rintro e w22 ⟨rfl, hb22⟩
  have hB22 := below_call hB21 hb22 hB21.size
  refine hK _ _ ⟨⟨_, hB22⟩, rfl⟩ ?_
  clear hK K
  simp only [opsAt, List.getElem?_toArray, List.getElem?_cons_succ, List.getElem?_cons_zero]
  repeat (go_big_quiet_step (fail))
  refine wpQuiet_nil ?_
  (refine eff_lit rfl rfl (fun K hK => ?_))
  go_big_op
  refine (reads_0 _ _ _ (HO15.out.reads.below hB22) hc1 hc2 (fun h => by cases h)).mono ?_
  rintro e w23 ⟨rfl, hb23⟩
  have hB23 := below_call hB22 hb23 hB22.size
  refine hK _ _ ⟨⟨_, hB23⟩, rfl⟩ ?_
  clear hK K
  simp only [opsAt, List.getElem?_toArray, List.getElem?_cons_succ, List.getElem?_cons_zero]
  repeat (go_big_quiet_step (fail))
  refine wpQuiet_nil ?_
  refine effs_done ?_
  go_wp2
  go_ret
  exact ⟨rfl, hB.trans (hB23.mono (by omega))⟩
end Go.Proofs.YtpbbemmjodegkaaDoor
