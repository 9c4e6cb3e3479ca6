/-
  Texts: Sal, OpenRows.
-/
import Derived.Test.YtagpphelgghbpaaGreatAk46
import Derived.Test.YtagpphelgghbpaaGreatAk49
import Derived.Test.YtagpphelgghbpaaGreatAk43
import Derived.Test.YtagpphelgghbpaaGreatAk2
import Derived.ProofKit
import Derived.OpenShut
import Derived.Lib.SmallJoins
import Derived.Deep.Slices
import Derived.Deep.Fields
set_option linter.unusedSimpArgs false
set_option linter.unusedVariables false
namespace Go.Proofs.YtagpphelgghbpaaGreat
open Go.RowKit

set_option maxRecDepth 100000 in
set_option maxHeartbeats 3200000 in
theorem sal_r5 (W : World) (gA gB k : Nat) (hk : k < 2) (a b : Bd) (ma mb : BdM) (ca cb : Array Value) (hca : (a.cells ma).toArray = ca) (hcb : (b.cells mb).toArray = cb) (hA : Blk W gA 33 ca) (hB : Blk W gB 33 cb) (hRa : BdR W a ma) (hRb : BdR W b mb) (hza : a.plc.length < 9223372036854775807) (hzb : b.plc.length < 9223372036854775807) (hva : a.Valid) (hvb : b.Valid) (Q : Exit → Act → World → Prop) (t0 t1 t5 t6 t7 t8 t9 t10 t11 t12 t13 t14 t15 t16 t17 t18 t19 t20 t21 t22 t23 t24 t25 t26 t27 t28 t29 t30 t31 t32 t33 t34 t35 t36 t37 t38 t39 t40 t41 t42 t43 t44 t45 t46 : Value)
    (hQ : ∀ d v c a w, Q (.panic c) (Act.put a d v) w → Q (.panic c) a w)
    (hK : ∀ (u36 u37 u38 u39 u40 u41 u42 u43 u44 u45 u46 : Value)  (W9 : World), Below W.heap.size W W9 → Q .normal ⟨#[t0, t1, .int .i64 k, .pointer (some ⟨gA, 0, none⟩), .pointer (some ⟨gB, 0, none⟩), t5, .bool true, t7, t8, t9, t10, t11, t12, t13, t14, t15, t16, t17, t18, t19, t20, t21, t22, t23, t24, t25, t26, t27, t28, t29, t30, t31, t32, t33, t34, t35, u36, u37, u38, u39, u40, u41, u42, u43, u44, u45, u46], []⟩ W9) :
    Code.wp Tryz.prog (regOf Tryz.f4 5) Q ⟨#[t0, t1, .int .i64 k, .pointer (some ⟨gA, 0, none⟩), .pointer (some ⟨gB, 0, none⟩), t5, t6, t7, t8, t9, t10, t11, t12, t13, t14, t15, t16, t17, t18, t19, t20, t21, t22, t23, t24, t25, t26, t27, t28, t29, t30, t31, t32, t33, t34, t35, t36, t37, t38, t39, t40, t41, t42, t43, t44, t45, t46], []⟩ W := by
  have HKK := Lib.hid hK
  clear hK
  conv => arg 2; whnf
  obtain ⟨d, hd⟩ : ∃ x, decide (flatB a k = flatB b k) = x := ⟨_, rfl⟩
  have HL1 : Hid (∀ W', (∃ s : In (fun W' => Blk W' gA 33 ca ∧ Blk W' gB 33 cb), W' = s.W) → (Instr.loadAt 33 (.pointer (some ⟨gA, 0, none⟩))).run Tryz.prog W' = .ok (.agg ca) W') := Lib.hid (fun W' hW => by
    obtain ⟨s, rfl⟩ := hW
    exact (show ∀ W', Blk W' gA 33 ca → (Instr.loadAt 33 (.pointer (some ⟨gA, 0, none⟩))).run Tryz.prog W' = .ok (.agg ca) W' from fun W' h => by rw [← hca] at h ⊢; exact board_load h) _ s.h.1)
  have HL2 : Hid (∀ W', (∃ s : In (fun W' => Blk W' gA 33 ca ∧ Blk W' gB 33 cb), W' = s.W) → (Instr.loadAt 33 (.pointer (some ⟨gB, 0, none⟩))).run Tryz.prog W' = .ok (.agg cb) W') := Lib.hid (fun W' hW => by
    obtain ⟨s, rfl⟩ := hW
    exact (show ∀ W', Blk W' gB 33 cb → (Instr.loadAt 33 (.pointer (some ⟨gB, 0, none⟩))).run Tryz.prog W' = .ok (.agg cb) W' from fun W' h => by rw [← hcb] at h ⊢; exact board_load h) _ s.h.2)
  have HRA : Hid (∀ W', Below W.heap.size W W' → Calls Tryz.prog 15 #[.agg ca, .agg cb, .int .i64 k] W' fun e w' => e = .returned (.bool d) ∧ Below W'.heap.size W' w') := Lib.hid (fun W' h => by rw [← hca, ← hcb, ← hd]; exact ralike_any a b ma mb W' k hk (hRa.below h) (hRb.below h) hva hvb)
  have HLA : Hid (∀ W', Below W.heap.size W W' → Calls Tryz.prog 14 #[.agg ca, .agg cb, .int .i64 k, .bool d, .int .i64 0] W' fun e w' => e = .returned (.bool true) ∧ Below W'.heap.size W' w') := Lib.hid (fun W' h => by
    rw [← hca, ← hcb]
    refine (lalike_any a b ma mb W' k hk (hRa.below h) (hRb.below h) hza hzb hva hvb d).mono ?_
    rintro e w' ⟨rfl, hb⟩
    exact ⟨by rw [hd]; simp, hb⟩)
  have HP := Lib.hid (And.intro hA hB)
  have HQ := Lib.hid hQ
  have hne_ : Nonempty (In (fun W' => Blk W' gA 33 ca ∧ Blk W' gB 33 cb)) := ⟨⟨W, hA, hB⟩⟩
  clear hA hB hRa hRb hza hzb hva hvb hQ hca hcb hk hd
  refine wp_region_sched (fun w' => ∃ s : In (fun W' => Blk W' gA 33 ca ∧ Blk W' gB 33 cb), w' = s.W) [0,1,2,3,4,5] (.one 6 [] (.one 7 [8] (.one 9 [10,11] .done))) (by kernel_rfl) (by kernel_rfl) HQ.out ⟨⟨_, ⟨HP.out.1.drew, HP.out.2.drew⟩⟩, rfl⟩ ?_
  refine quiet_as (C' := (fun w' => ∃ s : In (fun W' => Blk W' gA 33 ca ∧ Blk W' gB 33 cb), w' = s.W)) rfl ?_
  simp only [opsAt, List.getElem?_toArray, List.getElem?_cons_succ, List.getElem?_cons_zero]
  repeat (first | (first | (refine wpQuiet_load_by HL1.out ⟨_, ⟨⟨_, HP.out⟩, rfl⟩⟩ rfl rfl rfl ?_; simp only [Act.put, List.setIfInBounds_toArray, List.set_cons_succ, List.set_cons_zero]) | (refine wpQuiet_load_by HL2.out ⟨_, ⟨⟨_, HP.out⟩, rfl⟩⟩ rfl rfl rfl ?_; simp only [Act.put, List.setIfInBounds_toArray, List.set_cons_succ, List.set_cons_zero])) | go_big_quiet_step (fail))
  refine wpQuiet_nil ?_
  obtain ⟨W_d, hwd⟩ : ∃ v, W.drew = v := ⟨_, rfl⟩
  have HBW_1 : Hid (Below W.heap.size W W_d) := Lib.hid (by rw [← hwd]; exact (Below.refl _ _).drew)
  have HBR_1 : Hid (Below W.heap.size W W_d) := Lib.hid (by rw [← hwd]; exact (Below.refl _ _).drew)
  have P1_1 := Lib.hid ((HP.out.1).call (show Below W.heap.size W W_d by rw [← hwd]; exact (Below.refl _ _).drew))
  have P2_1 := Lib.hid ((HP.out.2).call (show Below W.heap.size W W_d by rw [← hwd]; exact (Below.refl _ _).drew))
  rw [hwd]
  clear hwd
  refine eff_as (C' := (fun w' => ∃ s : In (fun W' => Blk W' gA 33 ca ∧ Blk W' gB 33 cb), w' = s.W)) rfl ?_
  (refine eff_lit rfl rfl (fun K hK => ?_))
  go_big_op
  refine (HRA.out W_d HBR_1.out).mono ?_
  rintro e W_2 ⟨rfl, hbW_2⟩
  have HBW_3 := Lib.hid (below_call HBW_1.out hbW_2 HBW_1.out.size)
  clear HBW_1
  have HBR_3 := Lib.hid (below_call HBR_1.out hbW_2 HBR_1.out.size)
  clear HBR_1
  have P1_3 := Lib.hid (P1_1.out.call hbW_2)
  clear P1_1
  have P2_3 := Lib.hid (P2_1.out.call hbW_2)
  clear P2_1
  clear hbW_2
  refine hK _ _ ⟨⟨_, ⟨P1_3.out, P2_3.out⟩⟩, rfl⟩ ?_
  clear hK K
  try simp only [opsAt, List.getElem?_toArray, List.getElem?_cons_succ, List.getElem?_cons_zero]
  refine wpQuiet_nil ?_
  refine eff_as (C' := (fun w' => ∃ s : In (fun W' => Blk W' gA 33 ca ∧ Blk W' gB 33 cb), w' = s.W)) rfl ?_
  (refine eff_lit rfl rfl (fun K hK => ?_))
  go_big_op
  refine (HLA.out W_2 HBR_3.out).mono ?_
  rintro e W_4 ⟨rfl, hbW_4⟩
  have HBW_5 := Lib.hid (below_call HBW_3.out hbW_4 HBW_3.out.size)
  clear HBW_3
  have HBR_5 := Lib.hid (below_call HBR_3.out hbW_4 HBR_3.out.size)
  clear HBR_3
  have P1_5 := Lib.hid (P1_3.out.call hbW_4)
  clear P1_3
  have P2_5 := Lib.hid (P2_3.out.call hbW_4)
  clear P2_3
  clear hbW_4
  refine hK _ _ ⟨⟨_, ⟨P1_5.out, P2_5.out⟩⟩, rfl⟩ ?_
  clear hK K
  try simp only [opsAt, List.getElem?_toArray, List.getElem?_cons_succ, List.getElem?_cons_zero]
  repeat (first | (first | (refine wpQuiet_load_by HL1.out ⟨_, ⟨⟨_, HP.out⟩, rfl⟩⟩ rfl rfl rfl ?_; simp only [Act.put, List.setIfInBounds_toArray, List.set_cons_succ, List.set_cons_zero]) | (refine wpQuiet_load_by HL2.out ⟨_, ⟨⟨_, HP.out⟩, rfl⟩⟩ rfl rfl rfl ?_; simp only [Act.put, List.setIfInBounds_toArray, List.set_cons_succ, List.set_cons_zero])) | go_big_quiet_step (fail))
  refine wpQuiet_nil ?_
  refine eff_as (C' := (fun w' => ∃ s : In (fun W' => Blk W' gA 33 ca ∧ Blk W' gB 33 cb), w' = s.W)) rfl ?_
  (refine eff_lit rfl rfl (fun K hK => ?_))
  go_big_op
  refine (known_any W_4).mono ?_
  rintro e W_6 ⟨rfl, hbW_6⟩
  have HBW_7 := Lib.hid (below_call HBW_5.out hbW_6 HBW_5.out.size)
  clear HBW_5
  have HBR_7 := Lib.hid (below_call HBR_5.out hbW_6 HBR_5.out.size)
  clear HBR_5
  have P1_7 := Lib.hid (P1_5.out.call hbW_6)
  clear P1_5
  have P2_7 := Lib.hid (P2_5.out.call hbW_6)
  clear P2_5
  clear hbW_6
  refine hK _ _ ⟨⟨_, ⟨P1_7.out, P2_7.out⟩⟩, rfl⟩ ?_
  clear hK K
  try simp only [opsAt, List.getElem?_toArray, List.getElem?_cons_succ, List.getElem?_cons_zero]
  repeat (first | (first | (refine wpQuiet_load_by HL1.out ⟨_, ⟨⟨_, HP.out⟩, rfl⟩⟩ rfl rfl rfl ?_; simp only [Act.put, List.setIfInBounds_toArray, List.set_cons_succ, List.set_cons_zero]) | (refine wpQuiet_load_by HL2.out ⟨_, ⟨⟨_, HP.out⟩, rfl⟩⟩ rfl rfl rfl ?_; simp only [Act.put, List.setIfInBounds_toArray, List.set_cons_succ, List.set_cons_zero])) | go_big_quiet_step (fail))
  refine wpQuiet_nil ?_
  refine effs_done ?_
  exact HKK.out _ _ _ _ _ _ _ _ _ _ _ _ HBR_7.out

set_option maxRecDepth 100000 in
set_option maxHeartbeats 3200000 in
theorem secalike_any (a b : Bd) (ma mb : BdM) (w : World) (p : Int) (hRa : BdR w a ma) (hRb : BdR w b mb) (hza : a.plc.length < 9223372036854775807) (hzb : b.plc.length < 9223372036854775807) :
    Calls Tryz.prog 4 #[.agg (a.cells ma).toArray, .agg (b.cells mb).toArray, .int .i64 p] w fun e w' => e = .returned (.bool true) ∧ Below w.heap.size w w' := by
  obtain ⟨ca, hca⟩ : ∃ x, (a.cells ma).toArray = x := ⟨_, rfl⟩
  obtain ⟨cb, hcb⟩ : ∃ x, (b.cells mb).toArray = x := ⟨_, rfl⟩
  have HCC := Lib.hid (And.intro hca hcb)
  have HRA := Lib.hid hRa
  have HRB := Lib.hid hRb
  have HZ := Lib.hid (And.intro hza hzb)
  obtain ⟨gA, hgA⟩ : ∃ x, w.heap.size = x := ⟨_, rfl⟩
  obtain ⟨w1, hw1⟩ : ∃ x, (w.alloc (.cells ca 33)).alloc (.cells cb 33) = x := ⟨_, rfl⟩
  have HI1 : Hid (Blk w1 gA 33 ca ∧ Blk w1 (gA + 1) 33 cb ∧ Below w.heap.size w w1) := Lib.hid (by rw [← hw1]; exact ⟨(Blk.mk_ w _ _ _ hgA).alloc _, Blk.mk_ _ _ _ _ (by simp [hgA]), ((Below.refl _ _).alloc (Nat.le_refl _) _).alloc (by simp) _⟩)
  have HLA : Hid (∀ W, Blk W gA 33 ca → (Instr.loadAt 33 (.pointer (some ⟨gA, 0, none⟩))).run Tryz.prog W = .ok (.agg ca) W) := Lib.hid (fun W h => by rw [← hca] at h ⊢; exact board_load h)
  have HLB : Hid (∀ W, Blk W (gA + 1) 33 cb → (Instr.loadAt 33 (.pointer (some ⟨gA + 1, 0, none⟩))).run Tryz.prog W = .ok (.agg cb) W) := Lib.hid (fun W h => by rw [← hcb] at h ⊢; exact board_load h)
  have HSA : Hid (∀ W, Below w.heap.size w W → Calls Tryz.prog 6 #[.agg ca] W (SmEnd W)) := Lib.hid (fun W h => by rw [← hca]; exact small_any a ma W (hRa.below h))
  have HSB : Hid (∀ W, Below w.heap.size w W → Calls Tryz.prog 6 #[.agg cb] W (SmEnd W)) := Lib.hid (fun W h => by rw [← hcb]; exact small_any b mb W (hRb.below h))
  have HVA : Hid (∀ W, Below w.heap.size w W → Calls Tryz.prog 11 #[.agg ca] W (BoolEnd a.Valid W)) := Lib.hid (fun W h => by rw [← hca]; exact rvalid_any a ma W (hRa.below h) hza)
  have HVB : Hid (∀ W, Below w.heap.size w W → Calls Tryz.prog 11 #[.agg cb] W (BoolEnd b.Valid W)) := Lib.hid (fun W h => by rw [← hcb]; exact rvalid_any b mb W (hRb.below h) hzb)
  have HBD : Hid (∀ W, Below w.heap.size w W → ¬ ((p = 0 ∨ p = 1) ∧ a.Valid ∧ b.Valid) → Calls Tryz.prog 14 #[.agg ca, .agg cb, .int .i64 p, .bool false, .int .i64 2] W fun e w' => e = .returned (.bool true) ∧ Below W.heap.size W w') := Lib.hid (fun W h hb => by rw [← hca, ← hcb]; exact lalike_bad a b ma mb W p (hRa.below h) (hRb.below h) hza hzb hb)
  rw [hca, hcb]
  clear hRa hRb hza hzb hca hcb
  go_enter Tryz.func4, Tryz.ntmps4
  go_wp2_with (first
    | (refine wpList_load_by (HLA.out w1 HI1.out.1) rfl rfl rfl ?_; simp only [Act.put, List.setIfInBounds_toArray, List.set_cons_succ, List.set_cons_zero])
    | fail)
  refine (HSA.out w1 HI1.out.2.2).mono ?_
  rintro e w2 ⟨v, rfl, hb2⟩
  have HI2 : Hid (Blk w2 gA 33 ca ∧ Blk w2 (gA + 1) 33 cb ∧ Below w.heap.size w w2) := Lib.hid ⟨HI1.out.1.call hb2, HI1.out.2.1.call hb2, below_call HI1.out.2.2 hb2 HI1.out.2.2.size⟩
  clear hb2
  clear hw1 hgA
  cases v with
  | false =>
    go_wp2_with fail
    refine (known_any w2).mono ?_
    rintro e w9 ⟨rfl, hb9⟩
    have HB9 := Lib.hid (below_call HI2.out.2.2 hb9 HI2.out.2.2.size)
    clear hb9
    go_wp2_with fail
    go_ret
    exact ⟨rfl, HB9.out⟩
  | true =>
  go_wp2_with (first
    | (refine wpList_load_by (HLB.out w2 HI2.out.2.1) rfl rfl rfl ?_; simp only [Act.put, List.setIfInBounds_toArray, List.set_cons_succ, List.set_cons_zero])
    | fail)
  refine (HSB.out w2 HI2.out.2.2).mono ?_
  rintro e w3 ⟨v, rfl, hb3⟩
  have HI3 : Hid (Blk w3 gA 33 ca ∧ Blk w3 (gA + 1) 33 cb ∧ Below w.heap.size w w3) := Lib.hid ⟨HI2.out.1.call hb3, HI2.out.2.1.call hb3, below_call HI2.out.2.2 hb3 HI2.out.2.2.size⟩
  clear hb3
  cases v with
  | false =>
    go_wp2_with fail
    refine (known_any w3).mono ?_
    rintro e w9 ⟨rfl, hb9⟩
    have HB9 := Lib.hid (below_call HI3.out.2.2 hb9 HI3.out.2.2.size)
    clear hb9
    go_wp2_with fail
    go_ret
    exact ⟨rfl, HB9.out⟩
  | true =>
  go_wp2_with fail
  refine (lplayer_any p _).mono ?_
  rintro e w_ ⟨rfl, rfl⟩
  by_cases hp : p = 0 ∨ p = 1
  case neg =>
    have hpd : decide (p = 0 ∨ p = 1) = false := decide_eq_false hp
    have HBP := Lib.hid (HBD.out w3 HI3.out.2.2 (fun h => hp h.1))
    rw [hpd]
    clear hp hpd
    go_wp2_with (first
      | (refine wpList_load_by (HLA.out w3 HI3.out.1) rfl rfl rfl ?_; simp only [Act.put, List.setIfInBounds_toArray, List.set_cons_succ, List.set_cons_zero])
      | (refine wpList_load_by (HLB.out w3 HI3.out.2.1) rfl rfl rfl ?_; simp only [Act.put, List.setIfInBounds_toArray, List.set_cons_succ, List.set_cons_zero])
      | fail)
    refine HBP.out.mono ?_
    rintro e w8 ⟨rfl, hb8⟩
    have HB8 := Lib.hid (below_call HI3.out.2.2 hb8 HI3.out.2.2.size)
    clear hb8 HBP
    go_wp2_with fail
    refine (known_any w8).mono ?_
    rintro e w9 ⟨rfl, hb9⟩
    have HB9 := Lib.hid (below_call HB8.out hb9 HB8.out.size)
    clear hb9
    go_wp2_with fail
    go_ret
    exact ⟨rfl, HB9.out⟩
  have hpd : decide (p = 0 ∨ p = 1) = true := decide_eq_true hp
  rw [hpd]
  obtain ⟨k, hk⟩ : ∃ k : Nat, p = (k : Int) := ⟨p.toNat, by omega⟩
  have HK : Hid (k < 2) := Lib.hid (by omega)
  subst hk
  clear hp hpd
  go_wp2_with (first
    | (refine wpList_load_by (HLA.out w3 HI3.out.1) rfl rfl rfl ?_; simp only [Act.put, List.setIfInBounds_toArray, List.set_cons_succ, List.set_cons_zero])
    | fail)
  refine (HVA.out w3 HI3.out.2.2).mono ?_
  rintro e w4 ⟨v, rfl, hvv, hb4⟩
  have HI4 : Hid (Blk w4 gA 33 ca ∧ Blk w4 (gA + 1) 33 cb ∧ Below w.heap.size w w4) := Lib.hid ⟨HI3.out.1.call hb4, HI3.out.2.1.call hb4, below_call HI3.out.2.2 hb4 HI3.out.2.2.size⟩
  clear hb4
  have HVV := Lib.hid hvv
  clear hvv
  cases v with
  | false =>
    have HBP := Lib.hid (HBD.out w4 HI4.out.2.2 (fun h => absurd (HVV.out.2 h.2.1) (by decide)))
    go_wp2_with (first
      | (refine wpList_load_by (HLA.out w4 HI4.out.1) rfl rfl rfl ?_; simp only [Act.put, List.setIfInBounds_toArray, List.set_cons_succ, List.set_cons_zero])
      | (refine wpList_load_by (HLB.out w4 HI4.out.2.1) rfl rfl rfl ?_; simp only [Act.put, List.setIfInBounds_toArray, List.set_cons_succ, List.set_cons_zero])
      | fail)
    refine HBP.out.mono ?_
    rintro e w8 ⟨rfl, hb8⟩
    have HB8 := Lib.hid (below_call HI4.out.2.2 hb8 HI4.out.2.2.size)
    clear hb8 HBP
    go_wp2_with fail
    refine (known_any w8).mono ?_
    rintro e w9 ⟨rfl, hb9⟩
    have HB9 := Lib.hid (below_call HB8.out hb9 HB8.out.size)
    clear hb9
    go_wp2_with fail
    go_ret
    exact ⟨rfl, HB9.out⟩
  | true =>
  have HV1 := Lib.hid (HVV.out.1 rfl)
  clear HVV
  go_wp2_with (first
    | (refine wpList_load_by (HLB.out w4 HI4.out.2.1) rfl rfl rfl ?_; simp only [Act.put, List.setIfInBounds_toArray, List.set_cons_succ, List.set_cons_zero])
    | fail)
  refine (HVB.out w4 HI4.out.2.2).mono ?_
  rintro e w5 ⟨v, rfl, hvv, hb5⟩
  have HI5 : Hid (Blk w5 gA 33 ca ∧ Blk w5 (gA + 1) 33 cb ∧ Below w.heap.size w w5) := Lib.hid ⟨HI4.out.1.call hb5, HI4.out.2.1.call hb5, below_call HI4.out.2.2 hb5 HI4.out.2.2.size⟩
  clear hb5
  have HVV := Lib.hid hvv
  clear hvv
  cases v with
  | false =>
    have HBP := Lib.hid (HBD.out w5 HI5.out.2.2 (fun h => absurd (HVV.out.2 h.2.2) (by decide)))
    go_wp2_with (first
      | (refine wpList_load_by (HLA.out w5 HI5.out.1) rfl rfl rfl ?_; simp only [Act.put, List.setIfInBounds_toArray, List.set_cons_succ, List.set_cons_zero])
      | (refine wpList_load_by (HLB.out w5 HI5.out.2.1) rfl rfl rfl ?_; simp only [Act.put, List.setIfInBounds_toArray, List.set_cons_succ, List.set_cons_zero])
      | fail)
    refine HBP.out.mono ?_
    rintro e w8 ⟨rfl, hb8⟩
    have HB8 := Lib.hid (below_call HI5.out.2.2 hb8 HI5.out.2.2.size)
    clear hb8 HBP
    go_wp2_with fail
    refine (known_any w8).mono ?_
    rintro e w9 ⟨rfl, hb9⟩
    have HB9 := Lib.hid (below_call HB8.out hb9 HB8.out.size)
    clear hb9
    go_wp2_with fail
    go_ret
    exact ⟨rfl, HB9.out⟩
  | true =>
  have HV2 := Lib.hid (HVV.out.1 rfl)
  clear HVV
  go_wp2_with fail
  refine sal_r5 w5 gA (gA + 1) k HK.out a b ma mb ca cb HCC.out.1 HCC.out.2 HI5.out.1 HI5.out.2.1 (HRA.out.below HI5.out.2.2) (HRB.out.below HI5.out.2.2) HZ.out.1 HZ.out.2 HV1.out HV2.out _ _ _ _ _ _ _ _ _ _ _ _ _ _ _ _ _ _ _ _ _ _ _ _ _ _ _ _ _ _ _ _ _ _ _ _ _ _ _ _ _ _ _ _ _ ?_ ?_
  · exact fun d _ _ _ _ h => by cases d <;> exact h
  intro v36 v37 v38 v39 v40 v41 v42 v43 v44 v45 v46 w9 h9
  have HB9 := Lib.hid (below_call HI5.out.2.2 h9 HI5.out.2.2.size)
  clear h9
  go_wp2_with fail
  go_ret
  exact ⟨rfl, HB9.out⟩
end Go.Proofs.YtagpphelgghbpaaGreat

set_option linter.unusedSimpArgs false
set_option linter.unusedVariables false
namespace Go.Proofs.YtagpphelgghbpaaGreat
open Go.Joins Go.ChangeShapes Go.WideShapes Go.ChangeAt Go.RowKit Go.Deep

theorem rows_of {α : Type} {P : Nat → α → Prop} : ∀ n : Nat, (∀ i, i < n → ∃ o, P i o) → ∃ cs : List α, cs.length = n ∧ ∀ i o, cs[i]? = some o → P i o := by
  intro n
  induction n with
  | zero => intro _; exact ⟨[], rfl, fun i o h => by simp at h⟩
  | succ n ih =>
    intro h
    obtain ⟨cs, h1, h2⟩ := ih (fun i hi => h i (by omega))
    obtain ⟨o, ho⟩ := h n (by omega)
    refine ⟨cs ++ [o], by simp [h1], fun i o' hi => ?_⟩
    rcases Nat.lt_or_ge i n with hlt | hge
    · rw [List.getElem?_append_left (by omega)] at hi
      exact h2 i o' hi
    · rw [List.getElem?_append_right (by omega)] at hi
      obtain rfl : i = n := by
        rcases Nat.lt_or_ge (i - cs.length) 1 with h' | h'
        · omega
        · rw [List.getElem?_eq_none (by simpa using h')] at hi; cases hi
      rw [h1, Nat.sub_self] at hi
      injection hi with hi
      exact hi ▸ ho

theorem lt_of_cell {w : World} {a : Addr} {v : Value} (h : w.cell? a = some v) : a.block < w.heap.size := by
  rcases Nat.lt_or_ge a.block w.heap.size with h' | h'
  · exact h'
  · simp [World.cell?, Array.getElem?_eq_none h'] at h

section
variable {H : Type} {enc : TypeId × Value → H} {W : World} {base : Nat} {spare : Nat → Bool} {held : Bool}

theorem row_cells {P : Program} {fuel : Nat} {e : TypeId} {fs : Array Field} {cs : List Value} {x : DataW H × List MemPlace} (he : P.underlying e = some (.struct fs)) (hone : oneCellFields P fs = true) (hC : P.cellsOf e = fs.size)
    (h : DataW.trod enc P W base spare held fuel e cs = some x) : cs.length = fs.size ∧ ∀ (j : Nat) (f : Field), fs[j]? = some f → ∃ (v : Value) (y : DataW H × List MemPlace) (n : Nat), cs[j]? = some v ∧ DataW.trod enc P W base spare held n f.type [v] = some y := by
  obtain ⟨ys, n, _, _, hlen, hyl, hf⟩ := DataW.trod_struct he h
  refine ⟨hlen.trans hC, fun j f hj => ?_⟩
  have hjl : j < fs.size := (Array.getElem?_eq_some_iff.1 hj).1
  have hcl : j < cs.length := by omega
  obtain ⟨ho, hk⟩ := hone_of hone j f hj
  have h1 := hf j f hj
  rw [ho, hk, List.drop_eq_getElem_cons hcl] at h1
  refine ⟨cs[j], ys[j]'(by omega), n, List.getElem?_eq_getElem hcl, ?_⟩
  rw [List.getElem?_eq_getElem (by omega)] at h1
  exact h1

theorem open_rows {P : Program} {t e : TypeId} {k : Nat} {α : Type} (cells : α → List Value) (Good : α → Prop) (ht : P.underlying t = some (.slice e)) (hk : P.cellsOf e = k) (hk0 : 0 < k) (hl : ∀ r, (cells r).length = k)
    (dec : ∀ fuel cs (x : DataW H × List MemPlace), DataW.trod enc P W base spare held fuel e cs = some x → ∃ r : α, cs = cells r ∧ Good r)
    {fuel : Nat} {cs : List Value} {x : DataW H × List MemPlace} (h : DataW.trod enc P W base spare held fuel t cs = some x) :
    ∃ (a : Option Addr) (len cap : Nat) (l : List α), cs = [.slice a len cap] ∧ RowR W k a len (l.map cells) ∧ (∀ r ∈ l, Good r) ∧ len ≤ cap ∧ (a = none → cap = 0) ∧ cap ≤ maxLen := by
  rcases open_slice ht h with ⟨hcs, _⟩ | ⟨b, l, c, m, n, D, Pl, hcs, _, hlc, hm, hmm, _, hi⟩
  · exact ⟨none, 0, 0, [], hcs, RowR.nil _ _, (fun _ h => by cases h), Nat.le_refl _, fun _ => rfl, Nat.zero_le _⟩
  · have hlm : l ≤ m := by rw [hmm]; split <;> omega
    have hall : ∀ i, i < l → ∃ r : α, (∀ j u, (cells r)[j]? = some u → W.cell? (b.add (i * k + j)) = some u) ∧ Good r := by
      intro i hil
      obtain ⟨cs', hc, htr⟩ := hi i (by omega)
      rw [hk] at hc
      obtain ⟨r, hr, hg⟩ := dec _ _ _ htr
      obtain ⟨_, hcl, hat⟩ := World.cells?_some hc
      refine ⟨r, fun j u hu => ?_, hg⟩
      have hjk : j < k := by
        rcases Nat.lt_or_ge j k with h' | h'
        · exact h'
        · rw [List.getElem?_eq_none (by rw [hl]; exact h')] at hu; cases hu
      have := hat j hjk
      rw [add_of_add] at this
      rw [this, hr]
      exact hu
    obtain ⟨rs, h1, h2⟩ := rows_of l hall
    refine ⟨some b, l, c, rs, hcs, ⟨⟨?_, fun hn => ⟨b, rfl, ?_, fun j u hu => ?_⟩⟩, ?_, by rw [List.length_map, h1]⟩, fun r hr => ?_, hlc, (fun h => by cases h), hm⟩
    · rw [List.length_flatten, List.map_map]
      have : (rs.map (List.length ∘ cells)) = List.replicate rs.length k := by
        rw [List.eq_replicate_iff]
        refine ⟨by simp, fun q hq => ?_⟩
        obtain ⟨r, _, rfl⟩ := List.mem_map.1 hq
        exact hl r
      rw [this, List.sum_replicate_nat, h1]
    · have h0 : rs[0]? = some (rs[0]'(by omega)) := List.getElem?_eq_getElem (by omega)
      have hc0 : (cells (rs[0]'(by omega)))[0]? = some ((cells (rs[0]'(by omega)))[0]'(by rw [hl]; exact hk0)) := List.getElem?_eq_getElem _
      have := (h2 0 _ h0).1 0 _ hc0
      have := lt_of_cell this
      rwa [block_of_add] at this
    · have hsum : ((rs.map cells).flatten).length = l * k := by
        rw [List.length_flatten, List.map_map]
        have : (rs.map (List.length ∘ cells)) = List.replicate rs.length k := by
          rw [List.eq_replicate_iff]
          refine ⟨by simp, fun q hq => ?_⟩
          obtain ⟨r, _, rfl⟩ := List.mem_map.1 hq
          exact hl r
        rw [this, List.sum_replicate_nat, h1]
      have hj : j < l * k := by
        rcases Nat.lt_or_ge j (l * k) with h' | h'
        · exact h'
        · rw [List.getElem?_eq_none (by rw [hsum]; exact h')] at hu; cases hu
      have hjk : j / k < l := Nat.div_lt_of_lt_mul (by rw [Nat.mul_comm]; exact hj)
      have hg : rs[j / k]? = some (rs[j / k]'(by omega)) := List.getElem?_eq_getElem (by omega)
      have hx := flatten_at (size := k) (rs.map cells) (fun r hr => by obtain ⟨q, _, rfl⟩ := List.mem_map.1 hr; exact hl q) (j / k) _ (by rw [List.getElem?_map, hg]; rfl) (j % k) (Nat.mod_lt _ hk0)
      have hjj : j / k * k + j % k = j := by rw [Nat.mul_comm]; exact Nat.div_add_mod j k
      rw [hjj, hu] at hx
      have := (h2 _ _ hg).1 (j % k) u hx.symm
      rwa [hjj] at this
    · intro r hr
      obtain ⟨q, _, rfl⟩ := List.mem_map.1 hr
      exact hl q
    · obtain ⟨i, hi1, hi2⟩ := List.getElem_of_mem hr
      exact (h2 i r (by rw [List.getElem?_eq_getElem hi1, hi2])).2
end
end Go.Proofs.YtagpphelgghbpaaGreat
