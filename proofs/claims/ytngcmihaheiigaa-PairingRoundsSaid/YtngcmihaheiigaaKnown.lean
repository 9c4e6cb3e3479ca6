/-
  known: the chapter's examples.
-/
import Derived.Test.YtngcmihaheiigaaSts
set_option linter.unusedSimpArgs false
set_option linter.unusedVariables false
namespace Go.Proofs.Ytngcmihaheiigaa
open Go.RowKit

theorem al_below {w : World} (o : Obj) : Below w.heap.size w (w.alloc o) := (Below.refl _ _).alloc (Nat.le_refl _) o

set_option maxRecDepth 100000 in
set_option maxHeartbeats 1600000 in
theorem known_any (w : World) : Calls Try.prog 8 #[] w fun e w' => e = .returned (.bool true) ∧ Below w.heap.size w w' := by
  go_enter Try.func8, Try.ntmps8
  go_wp2_with fail
  refine (new_ok 5 _ (by omega)).mono ?_
  rintro e w1 ⟨gP, x1, rfl, hT1, hB1⟩
  have HT1 : Hid (Tn w1 w.heap.size gP K0 x1) := Lib.hid hT1
  have hz1 := hB1.size
  clear hT1
  go_wp2_with fail
  refine (starts_g (st' := Ka) (HT1.out.below (al_below _)) (reads_block (Blk.mk_ w1 33 #[.int .i64 0, .int .i64 1, .int .i64 2, .int .i64 3, .int .i64 4, .int .i64 (-1)] _ rfl) 2 3 rfl) (fun i hi => Nat.ne_of_lt (HT1.out.foot i hi).2) Ka_list Ka_err Ka_start).mono ?_
  rintro e w2 ⟨x2, rfl, ht, ho⟩
  have hB2 := hB1.trans ((al_below _).mono hz1 |>.trans ho)
  have HT2 := Lib.hid ht
  have hz2 := hB2.size
  clear ht ho HT1 hB1 hz1
  go_wp2_with fail
  refine (report_g (st' := Kb) HT2.out Kb_err Kb_rep).mono ?_
  rintro e w3 ⟨x3, rfl, ht, ho⟩
  have hB3 := hB2.trans ho
  have HT3 := Lib.hid ht
  have hz3 := hB3.size
  clear ht ho HT2 hB2 hz2
  go_wp2_with fail
  refine (report_g (st' := Kc) HT3.out Kc_err Kc_rep).mono ?_
  rintro e w4 ⟨x4, rfl, ht, ho⟩
  have hB4 := hB3.trans ho
  have HT4 := Lib.hid ht
  have hz4 := hB4.size
  clear ht ho HT3 hB3 hz3
  go_wp2_with fail
  refine (points_g HT4.out Kc_pts).mono ?_
  rintro e w5 ⟨g5, rfl, hr, ho⟩
  have hB5 := hB4.trans (ho.mono hz4)
  have hz5 := hB5.size
  have HT5 := Lib.hid (HT4.out.below ho)
  have HP := Lib.hid hr
  clear hr ho HT4 hB4 hz4
  go_wp2_with fail
  refine (ints_g (HP.out.below (al_below _)) (reads_block (Blk.mk_ w5 3 #[.int .i64 2, .int .i64 0, .int .i64 1, .int .i64 1, .int .i64 2] _ rfl) 1 5 rfl) (by decide)).mono ?_
  rintro e w6 ⟨rfl, ho⟩
  have ho2 := below_call (al_below _) ho (al_below _).size
  have hB6 := hB5.trans (ho2.mono hz5)
  have hz6 := hB6.size
  have HT6 := Lib.hid (HT5.out.below ho2)
  clear HP ho ho2 HT5 hB5 hz5
  go_wp2_with fail
  refine (close_g (st' := Kd) HT6.out Kd_err Kd_close).mono ?_
  rintro e w7 ⟨x7, rfl, ht, ho⟩
  have hB7 := hB6.trans ho
  have HT7 := Lib.hid ht
  have hz7 := hB7.size
  clear ht ho HT6 hB6 hz6
  go_wp2_with fail
  refine (order_g HT7.out Kd_ord).mono ?_
  rintro e w8 ⟨g8, rfl, hr, ho⟩
  have hB8 := hB7.trans (ho.mono hz7)
  have hz8 := hB8.size
  have HT8 := Lib.hid (HT7.out.below ho)
  have HP := Lib.hid hr
  clear hr ho HT7 hB7 hz7
  go_wp2_with fail
  refine (ints_g (HP.out.below (al_below _)) (reads_block (Blk.mk_ w8 3 #[.int .i64 0, .int .i64 4, .int .i64 2, .int .i64 3, .int .i64 1] _ rfl) 1 5 rfl) (by decide)).mono ?_
  rintro e w9 ⟨rfl, ho⟩
  have ho2 := below_call (al_below _) ho (al_below _).size
  have hB9 := hB8.trans (ho2.mono hz8)
  have hz9 := hB9.size
  have HT9 := Lib.hid (HT8.out.below ho2)
  clear HP ho ho2 HT8 hB8 hz8
  go_wp2_with fail
  refine (starts_g (st' := Ke) (HT9.out.below (al_below _)) (reads_block (Blk.mk_ w9 33 #[.int .i64 0, .int .i64 2, .int .i64 4, .int .i64 3, .int .i64 1, .int .i64 (-1)] _ rfl) 2 3 rfl) (fun i hi => Nat.ne_of_lt (HT9.out.foot i hi).2) Ke_list Ke_err Ke_start).mono ?_
  rintro e w10 ⟨x10, rfl, ht, ho⟩
  have hB10 := hB9.trans ((al_below _).mono hz9 |>.trans ho)
  have HT10 := Lib.hid ht
  have hz10 := hB10.size
  clear ht ho HT9 hB9 hz9
  go_wp2_with fail
  refine (starts_n (st' := Ke) HT10.out Ke_nil Ke_err8 Ke_same).mono ?_
  rintro e w11 ⟨x11, rfl, ht, ho⟩
  have hB11 := hB10.trans ho
  have HT11 := Lib.hid ht
  have hz11 := hB11.size
  clear ht ho HT10 hB10 hz10
  go_wp2_with fail
  refine (close_g (st' := Ke) HT11.out Ke_err10 Ke_close).mono ?_
  rintro e w12 ⟨x12, rfl, ht, ho⟩
  have hB12 := hB11.trans ho
  have HT12 := Lib.hid ht
  have hz12 := hB12.size
  clear ht ho HT11 hB11 hz11
  go_wp2_with fail
  refine (report_g (st' := Ke) HT12.out Ke_err9 Ke_rep).mono ?_
  rintro e w13 ⟨x13, rfl, ht, ho⟩
  have hB13 := hB12.trans ho
  have HT13 := Lib.hid ht
  have hz13 := hB13.size
  clear ht ho HT12 hB12 hz12
  go_wp2_with fail
  refine (report_g (st' := Kf) HT13.out Kf_err Kf_rep).mono ?_
  rintro e w14 ⟨x14, rfl, ht, ho⟩
  have hB14 := hB13.trans ho
  have HT14 := Lib.hid ht
  have hz14 := hB14.size
  clear ht ho HT13 hB13 hz13
  go_wp2_with fail
  refine (report_g (st' := Kg) HT14.out Kg_err Kg_rep).mono ?_
  rintro e w15 ⟨x15, rfl, ht, ho⟩
  have hB15 := hB14.trans ho
  have HT15 := Lib.hid ht
  have hz15 := hB15.size
  clear ht ho HT14 hB14 hz14
  go_wp2_with fail
  refine (close_g (st' := Kh) HT15.out Kh_err Kh_close).mono ?_
  rintro e w16 ⟨x16, rfl, ht, ho⟩
  have hB16 := hB15.trans ho
  have HT16 := Lib.hid ht
  have hz16 := hB16.size
  clear ht ho HT15 hB15 hz15
  go_wp2_with fail
  refine (points_g HT16.out Kh_pts).mono ?_
  rintro e w17 ⟨g17, rfl, hr, ho⟩
  have hB17 := hB16.trans (ho.mono hz16)
  have hz17 := hB17.size
  have HT17 := Lib.hid (HT16.out.below ho)
  have HP := Lib.hid hr
  clear hr ho HT16 hB16 hz16
  go_wp2_with fail
  refine (ints_g (HP.out.below (al_below _)) (reads_block (Blk.mk_ w17 3 #[.int .i64 2, .int .i64 2, .int .i64 3, .int .i64 1, .int .i64 4] _ rfl) 1 5 rfl) (by decide)).mono ?_
  rintro e w18 ⟨rfl, ho⟩
  have ho2 := below_call (al_below _) ho (al_below _).size
  have hB18 := hB17.trans (ho2.mono hz17)
  have hz18 := hB18.size
  have HT18 := Lib.hid (HT17.out.below ho2)
  clear HP ho ho2 HT17 hB17 hz17
  go_wp2_with fail
  refine (order_g HT18.out Kh_ord).mono ?_
  rintro e w19 ⟨g19, rfl, hr, ho⟩
  have hB19 := hB18.trans (ho.mono hz18)
  have hz19 := hB19.size
  have HT19 := Lib.hid (HT18.out.below ho)
  have HP := Lib.hid hr
  clear hr ho HT18 hB18 hz18
  go_wp2_with fail
  refine (ints_g (HP.out.below (al_below _)) (reads_block (Blk.mk_ w19 3 #[.int .i64 4, .int .i64 2, .int .i64 0, .int .i64 1, .int .i64 3] _ rfl) 1 5 rfl) (by decide)).mono ?_
  rintro e w20 ⟨rfl, ho⟩
  have ho2 := below_call (al_below _) ho (al_below _).size
  have hB20 := hB19.trans (ho2.mono hz19)
  have hz20 := hB20.size
  have HT20 := Lib.hid (HT19.out.below ho2)
  clear HP ho ho2 HT19 hB19 hz19
  go_wp2
  go_ret
  exact ⟨rfl, hB20⟩
end Go.Proofs.Ytngcmihaheiigaa
