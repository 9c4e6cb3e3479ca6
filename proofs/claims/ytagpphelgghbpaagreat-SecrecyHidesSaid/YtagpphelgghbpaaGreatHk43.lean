/-
  Texts: Hsa, Hsb.
-/
import Derived.Test.YtagpphelgghbpaaGreatHk42
/-
  The law's small; what SecrecyHides asks of the mixed board.
-/
set_option linter.unusedSimpArgs false
set_option linter.unusedVariables false
namespace Go.Proofs.YtagpphelgghbpaaGreat
open Go.RowKit

theorem MapN.get {w : World} {g n : Nat} {f : Int → Option Int} (h : MapN w g n f) {x : Int} (hx : wfI x) : (Instr.lookup 52 (.map (some g)) (.int .i64 x) false).run Tryz.prog w = .ok (.int .i64 ((f x).getD 0)) w := by
  obtain ⟨D, h⟩ := h
  obtain ⟨v, ps, hrun, hv⟩ := h.get Tryz.underlying52 (zero3 w) (plainElem_int (H := Unit) Tryz.underlying3 (a := 0) (by decide)) hx
  rw [hrun]
  obtain ⟨a, rfl, he, _⟩ := plainElem_int_inv Tryz.underlying3 hv
  have he1 := congrArg Prod.fst he
  cases hf : f x with
  | none =>
    rw [hf] at he1
    simp only [Option.map_none, Option.getD_none, DataW.lit.injEq, Lit.int.injEq, true_and] at he1
    rw [← he1]
    rfl
  | some c =>
    rw [hf] at he1
    simp only [Option.map_some, Option.getD_some, DataW.lit.injEq, Lit.int.injEq, true_and] at he1
    rw [← he1]
    rfl
set_option maxRecDepth 100000 in
set_option maxHeartbeats 3200000 in
theorem hs_r6 (W : World) (b x : Bd) (m m' : BdM) (g3 g7 k : Nat) (hk : k < 2) (h3 : Blk W g3 33 (b.cells m).toArray) (h7 : Blk W g7 33 (x.cells m').toArray) (hR3 : BdR W b m) (hR7 : BdR W x m') (hv3 : b.Valid) (hv7 : x.Valid) (hfl : flatB b k = flatB x k) (hhd : hidS b k = hidS x k) (Q : Exit → Act → World → Prop) (t0 t2 t4 t5 t6 t8 t9 t10 t11 t12 t13 t14 t15 t16 t17 t18 t19 t20 t21 t22 t23 t24 t25 t26 t27 t28 t29 t30 t31 t32 t33 t34 t35 t36 t37 t38 t39 t40 t41 t42 t43 t44 t45 t46 t47 t48 t49 t50 t51 t52 t53 t54 t55 t56 t57 t58 t59 t60 t61 t62 t63 t64 t65 t66 t67 t68 t69 t70 t71 t72 t73 t74 t75 t76 t77 t78 t79 t80 t81 t82 t83 t84 t85 t86 t87 t88 t89 t90 t91 t92 t93 t94 t95 t96 t97 t98 t99 t100 t101 t102 t103 t104 t105 t106 t107 t108 t109 t110 t111 t112 t113 t114 t115 t116 t117 t118 t119 t120 : Value)
    (hQ : ∀ d v c a w, Q (.panic c) (Act.put a d v) w → Q (.panic c) a w)
    (hK : ∀ (u46 u47 u48 u49 u50 u51 u52 u53 u54 u55 u56 u57 u58 u59 u60 u61 u62 u63 u64 : Value)  (W9 : World), Below W.heap.size W W9 → Q .normal ⟨#[t0, .int .i64 k, t2, .pointer (some ⟨g3, 0, none⟩), t4, t5, t6, .pointer (some ⟨g7, 0, none⟩), t8, t9, t10, t11, t12, t13, t14, t15, t16, t17, t18, t19, t20, t21, t22, t23, t24, t25, t26, t27, t28, t29, t30, t31, t32, t33, t34, t35, t36, t37, t38, t39, t40, t41, t42, t43, t44, t45, u46, u47, u48, u49, u50, u51, u52, u53, u54, u55, u56, u57, u58, u59, u60, u61, u62, u63, u64, .bool false, t66, t67, t68, t69, t70, t71, t72, t73, t74, t75, t76, t77, t78, t79, t80, t81, t82, t83, t84, t85, t86, t87, t88, t89, t90, t91, t92, t93, t94, t95, t96, t97, t98, t99, t100, t101, t102, t103, t104, t105, t106, t107, t108, t109, t110, t111, t112, t113, t114, t115, t116, t117, t118, t119, t120], []⟩ W9) :
    Code.wp Tryz.prog (regOf Tryz.f5 6) Q ⟨#[t0, .int .i64 k, t2, .pointer (some ⟨g3, 0, none⟩), t4, t5, t6, .pointer (some ⟨g7, 0, none⟩), t8, t9, t10, t11, t12, t13, t14, t15, t16, t17, t18, t19, t20, t21, t22, t23, t24, t25, t26, t27, t28, t29, t30, t31, t32, t33, t34, t35, t36, t37, t38, t39, t40, t41, t42, t43, t44, t45, t46, t47, t48, t49, t50, t51, t52, t53, t54, t55, t56, t57, t58, t59, t60, t61, t62, t63, t64, t65, t66, t67, t68, t69, t70, t71, t72, t73, t74, t75, t76, t77, t78, t79, t80, t81, t82, t83, t84, t85, t86, t87, t88, t89, t90, t91, t92, t93, t94, t95, t96, t97, t98, t99, t100, t101, t102, t103, t104, t105, t106, t107, t108, t109, t110, t111, t112, t113, t114, t115, t116, t117, t118, t119, t120], []⟩ W := by
  have HKK := Lib.hid hK
  clear hK
  conv => arg 2; whnf
  obtain ⟨c3, hc3⟩ : ∃ z, (b.cells m).toArray = z := ⟨_, rfl⟩
  obtain ⟨c7, hc7⟩ : ∃ z, (x.cells m').toArray = z := ⟨_, rfl⟩
  have HL3 : Hid (∀ W', (∃ s : In (fun W' => Blk W' g3 33 (b.cells m).toArray ∧ Blk W' g7 33 (x.cells m').toArray), W' = s.W) → (Instr.loadAt 33 (.pointer (some ⟨g3, 0, none⟩))).run Tryz.prog W' = .ok (.agg c3) W') := Lib.hid (fun W' hW => by
    obtain ⟨s, rfl⟩ := hW
    rw [← hc3]
    exact board_load s.h.1)
  have HL7 : Hid (∀ W', (∃ s : In (fun W' => Blk W' g3 33 (b.cells m).toArray ∧ Blk W' g7 33 (x.cells m').toArray), W' = s.W) → (Instr.loadAt 33 (.pointer (some ⟨g7, 0, none⟩))).run Tryz.prog W' = .ok (.agg c7) W') := Lib.hid (fun W' hW => by
    obtain ⟨s, rfl⟩ := hW
    rw [← hc7]
    exact board_load s.h.2)
  have HVA : Hid (∀ W', Below W.heap.size W W' → Calls Tryz.prog 16 #[.agg c7] W' fun e w' => e = .returned (.bool true) ∧ Below W'.heap.size W' w') := Lib.hid (fun W' hb => by
    rw [← hc7]
    refine (valid_any x m' W' (hR7.below hb) (plc_small hv7)).mono ?_
    rintro e w' ⟨v, rfl, hvv, hb'⟩
    obtain rfl : v = true := hvv.2 hv7
    exact ⟨rfl, hb'⟩)
  have HAL : Hid (∀ W', Below W.heap.size W W' → Calls Tryz.prog 14 #[.agg c3, .agg c7, .int .i64 k, .bool true, .int .i64 0] W' fun e w' => e = .returned (.bool true) ∧ Below W'.heap.size W' w') := Lib.hid (fun W' hb => by
    rw [← hc3, ← hc7]
    refine (lalike_any b x m m' W' k hk (hR3.below hb) (hR7.below hb) (plc_small hv3) (plc_small hv7) hv3 hv7 true).mono ?_
    rintro e w' ⟨rfl, hb'⟩
    exact ⟨by rw [decide_eq_true hfl]; rfl, hb'⟩)
  obtain ⟨hd, hhd'⟩ : ∃ z, hidS b k = z := ⟨_, rfl⟩
  rw [hhd'] at hhd
  have HH3 : Hid (∀ W', Below W.heap.size W W' → Calls Tryz.prog 18 #[.agg c3, .int .i64 k] W' fun e w' => ∃ A c, e = .returned (.slice A hd.length c) ∧ XOwns w' W'.heap.size 3 1 A hd.length c (ics (rhS hd)) ∧ Below W'.heap.size W' w') := Lib.hid (fun W' hb => by rw [← hc3, ← hhd']; exact rhid0 b m W' k hk (hR3.below hb) (bd_sm hv3))
  have HH7 : Hid (∀ W', Below W.heap.size W W' → Calls Tryz.prog 18 #[.agg c7, .int .i64 k] W' fun e w' => ∃ A c, e = .returned (.slice A hd.length c) ∧ XOwns w' W'.heap.size 3 1 A hd.length c (ics (rhS hd)) ∧ Below W'.heap.size W' w') := Lib.hid (fun W' hb => by rw [← hc7, hhd]; exact rhid0 x m' W' k hk (hR7.below hb) (bd_sm hv7))
  have HHL : Hid (hd.length ≤ 100000) := Lib.hid (by
    have hm := bd_sm hv3
    have h1 := hm.s0.L
    have h2 := hm.s1.L
    have h3 := hm.s0.H
    have h4 := hm.s1.H
    rw [← hhd']
    unfold hidS seN
    rw [List.length_append, List.length_append]
    split <;> omega)
  have HP := Lib.hid (And.intro h3 h7)
  have HQ := Lib.hid hQ
  have hne_ : Nonempty (In (fun W' => Blk W' g3 33 (b.cells m).toArray ∧ Blk W' g7 33 (x.cells m').toArray)) := ⟨⟨W, h3, h7⟩⟩
  clear h3 h7 hR3 hR7 hv3 hv7 hfl hhd hhd' hQ hc3 hc7
  refine wp_region_sched (fun w' => ∃ s : In (fun W' => Blk W' g3 33 (b.cells m).toArray ∧ Blk W' g7 33 (x.cells m').toArray), w' = s.W) [0] (.one 1 [2,3,4,5,6] (.one 7 [8,9,10,11,12,14,15] (.one 13 [] (.one 16 [] (.one 17 [18,19] .done))))) (by kernel_rfl) (by kernel_rfl) HQ.out ⟨⟨_, ⟨HP.out.1.drew, HP.out.2.drew⟩⟩, rfl⟩ ?_
  refine quiet_as (C' := (fun w' => ∃ s : In (fun W' => Blk W' g3 33 (b.cells m).toArray ∧ Blk W' g7 33 (x.cells m').toArray), w' = s.W)) rfl ?_
  simp only [opsAt, List.getElem?_toArray, List.getElem?_cons_succ, List.getElem?_cons_zero]
  repeat (first | (first | (refine wpQuiet_load_by HL3.out ⟨_, ⟨⟨_, HP.out.1, HP.out.2⟩, rfl⟩⟩ rfl rfl rfl ?_; simp only [Act.put, List.setIfInBounds_toArray, List.set_cons_succ, List.set_cons_zero]) | (refine wpQuiet_load_by HL7.out ⟨_, ⟨⟨_, HP.out.1, HP.out.2⟩, rfl⟩⟩ rfl rfl rfl ?_; simp only [Act.put, List.setIfInBounds_toArray, List.set_cons_succ, List.set_cons_zero])) | go_big_quiet_step (fail))
  refine wpQuiet_nil ?_
  obtain ⟨W_d, hwd⟩ : ∃ v, W.drew = v := ⟨_, rfl⟩
  have HBW_1 : Hid (Below W.heap.size W W_d) := Lib.hid (by rw [← hwd]; exact (Below.refl _ _).drew)
  have HBR_1 : Hid (Below W.heap.size W W_d) := Lib.hid (by rw [← hwd]; exact (Below.refl _ _).drew)
  have P3_1 := Lib.hid ((HP.out.1).call (show Below W.heap.size W W_d by rw [← hwd]; exact (Below.refl _ _).drew))
  have P7_1 := Lib.hid ((HP.out.2).call (show Below W.heap.size W W_d by rw [← hwd]; exact (Below.refl _ _).drew))
  rw [hwd]
  clear hwd
  refine eff_as (C' := (fun w' => ∃ s : In (fun W' => Blk W' g3 33 (b.cells m).toArray ∧ Blk W' g7 33 (x.cells m').toArray), w' = s.W)) rfl ?_
  (refine eff_lit rfl rfl (fun K hK => ?_))
  go_big_op
  refine (HVA.out W_d HBR_1.out).mono ?_
  rintro e W_2 ⟨rfl, hbW_2⟩
  have HBW_3 := Lib.hid (below_call HBW_1.out hbW_2 HBW_1.out.size)
  clear HBW_1
  have HBR_3 := Lib.hid (below_call HBR_1.out hbW_2 HBR_1.out.size)
  clear HBR_1
  have P3_3 := Lib.hid (P3_1.out.call hbW_2)
  clear P3_1
  have P7_3 := Lib.hid (P7_1.out.call hbW_2)
  clear P7_1
  clear hbW_2
  refine hK _ _ ⟨⟨_, ⟨P3_3.out, P7_3.out⟩⟩, rfl⟩ ?_
  clear hK K
  try simp only [opsAt, List.getElem?_toArray, List.getElem?_cons_succ, List.getElem?_cons_zero]
  repeat (first | (first | (refine wpQuiet_load_by HL3.out ⟨_, ⟨⟨_, HP.out.1, HP.out.2⟩, rfl⟩⟩ rfl rfl rfl ?_; simp only [Act.put, List.setIfInBounds_toArray, List.set_cons_succ, List.set_cons_zero]) | (refine wpQuiet_load_by HL7.out ⟨_, ⟨⟨_, HP.out.1, HP.out.2⟩, rfl⟩⟩ rfl rfl rfl ?_; simp only [Act.put, List.setIfInBounds_toArray, List.set_cons_succ, List.set_cons_zero])) | go_big_quiet_step (fail))
  refine wpQuiet_nil ?_
  refine eff_as (C' := (fun w' => ∃ s : In (fun W' => Blk W' g3 33 (b.cells m).toArray ∧ Blk W' g7 33 (x.cells m').toArray), w' = s.W)) rfl ?_
  (refine eff_lit rfl rfl (fun K hK => ?_))
  go_big_op
  refine (HAL.out W_2 HBR_3.out).mono ?_
  rintro e W_4 ⟨rfl, hbW_4⟩
  have HBW_5 := Lib.hid (below_call HBW_3.out hbW_4 HBW_3.out.size)
  clear HBW_3
  have HBR_5 := Lib.hid (below_call HBR_3.out hbW_4 HBR_3.out.size)
  clear HBR_3
  have P3_5 := Lib.hid (P3_3.out.call hbW_4)
  clear P3_3
  have P7_5 := Lib.hid (P7_3.out.call hbW_4)
  clear P7_3
  clear hbW_4
  refine hK _ _ ⟨⟨_, ⟨P3_5.out, P7_5.out⟩⟩, rfl⟩ ?_
  clear hK K
  try simp only [opsAt, List.getElem?_toArray, List.getElem?_cons_succ, List.getElem?_cons_zero]
  repeat (first | (first | (refine wpQuiet_load_by HL3.out ⟨_, ⟨⟨_, HP.out.1, HP.out.2⟩, rfl⟩⟩ rfl rfl rfl ?_; simp only [Act.put, List.setIfInBounds_toArray, List.set_cons_succ, List.set_cons_zero]) | (refine wpQuiet_load_by HL7.out ⟨_, ⟨⟨_, HP.out.1, HP.out.2⟩, rfl⟩⟩ rfl rfl rfl ?_; simp only [Act.put, List.setIfInBounds_toArray, List.set_cons_succ, List.set_cons_zero])) | go_big_quiet_step (fail))
  refine wpQuiet_nil ?_
  refine eff_as (C' := (fun w' => ∃ s : In (fun W' => Blk W' g3 33 (b.cells m).toArray ∧ Blk W' g7 33 (x.cells m').toArray), w' = s.W)) rfl ?_
  (refine eff_lit rfl rfl (fun K hK => ?_))
  go_big_op
  refine (HH3.out W_4 HBR_5.out).mono ?_
  rintro e W_6 ⟨A1, cc1, rfl, hx1, hbW_6⟩
  have FH_7 := Lib.hid (hx1)
  have HBW_7 := Lib.hid (below_call HBW_5.out hbW_6 HBW_5.out.size)
  clear HBW_5
  have HBR_7 := Lib.hid (below_call HBR_5.out hbW_6 HBR_5.out.size)
  clear HBR_5
  have P3_7 := Lib.hid (P3_5.out.call hbW_6)
  clear P3_5
  have P7_7 := Lib.hid (P7_5.out.call hbW_6)
  clear P7_5
  clear hbW_6
  clear hx1
  refine hK _ _ ⟨⟨_, ⟨P3_7.out, P7_7.out⟩⟩, rfl⟩ ?_
  clear hK K
  try simp only [opsAt, List.getElem?_toArray, List.getElem?_cons_succ, List.getElem?_cons_zero]
  refine wpQuiet_nil ?_
  refine eff_as (C' := (fun w' => ∃ s : In (fun W' => Blk W' g3 33 (b.cells m).toArray ∧ Blk W' g7 33 (x.cells m').toArray), w' = s.W)) rfl ?_
  (refine eff_lit rfl rfl (fun K hK => ?_))
  go_big_op
  refine (HH7.out W_6 HBR_7.out).mono ?_
  rintro e W_8 ⟨A2, cc2, rfl, hx2, hbW_8⟩
  have FJ_9 := Lib.hid (hx2)
  have HBW_9 := Lib.hid (below_call HBW_7.out hbW_8 HBW_7.out.size)
  clear HBW_7
  have HBR_9 := Lib.hid (below_call HBR_7.out hbW_8 HBR_7.out.size)
  clear HBR_7
  have P3_9 := Lib.hid (P3_7.out.call hbW_8)
  clear P3_7
  have P7_9 := Lib.hid (P7_7.out.call hbW_8)
  clear P7_7
  have FH_9 := Lib.hid (FH_7.out.below hbW_8)
  clear FH_7
  clear hbW_8
  clear hx2
  refine hK _ _ ⟨⟨_, ⟨P3_9.out, P7_9.out⟩⟩, rfl⟩ ?_
  clear hK K
  try simp only [opsAt, List.getElem?_toArray, List.getElem?_cons_succ, List.getElem?_cons_zero]
  refine wpQuiet_nil ?_
  refine eff_as (C' := (fun w' => ∃ s : In (fun W' => Blk W' g3 33 (b.cells m).toArray ∧ Blk W' g7 33 (x.cells m').toArray), w' = s.W)) rfl ?_
  (refine eff_lit rfl rfl (fun K hK => ?_))
  go_big_op
  refine ((show Calls Tryz.prog 17 #[.slice A1 hd.length cc1, .slice A2 hd.length cc2] W_8 (fun e w' => e = .returned (.bool true) ∧ Below W_8.heap.size W_8 w') from (rints_any A1 A2 hd.length cc1 hd.length cc2 (rhS hd) (rhS hd) W_8 FH_9.out.reads FJ_9.out.reads HHL.out).mono (fun e w' h => ⟨by rw [h.1, decide_eq_true rfl], h.2⟩))).mono ?_
  rintro e W_10 ⟨rfl, hbW_10⟩
  have HBW_11 := Lib.hid (below_call HBW_9.out hbW_10 HBW_9.out.size)
  clear HBW_9
  have HBR_11 := Lib.hid (below_call HBR_9.out hbW_10 HBR_9.out.size)
  clear HBR_9
  have P3_11 := Lib.hid (P3_9.out.call hbW_10)
  clear P3_9
  have P7_11 := Lib.hid (P7_9.out.call hbW_10)
  clear P7_9
  have FH_11 := Lib.hid (FH_9.out.below hbW_10)
  clear FH_9
  have FJ_11 := Lib.hid (FJ_9.out.below hbW_10)
  clear FJ_9
  clear hbW_10
  refine hK _ _ ⟨⟨_, ⟨P3_11.out, P7_11.out⟩⟩, rfl⟩ ?_
  clear hK K
  try simp only [opsAt, List.getElem?_toArray, List.getElem?_cons_succ, List.getElem?_cons_zero]
  repeat (first | (first | (refine wpQuiet_load_by HL3.out ⟨_, ⟨⟨_, HP.out.1, HP.out.2⟩, rfl⟩⟩ rfl rfl rfl ?_; simp only [Act.put, List.setIfInBounds_toArray, List.set_cons_succ, List.set_cons_zero]) | (refine wpQuiet_load_by HL7.out ⟨_, ⟨⟨_, HP.out.1, HP.out.2⟩, rfl⟩⟩ rfl rfl rfl ?_; simp only [Act.put, List.setIfInBounds_toArray, List.set_cons_succ, List.set_cons_zero])) | go_big_quiet_step (fail))
  refine wpQuiet_nil ?_
  refine effs_done ?_
  exact HKK.out _ _ _ _ _ _ _ _ _ _ _ _ _ _ _ _ _ _ _ _ HBR_11.out

end Go.Proofs.YtagpphelgghbpaaGreat

/-
  The law's small.
-/
set_option linter.unusedSimpArgs false
set_option linter.unusedVariables false
namespace Go.Proofs.YtagpphelgghbpaaGreat
open Go.RowKit

def SmEnd (w : World) (e : Ending) (w' : World) : Prop := ∃ v : Bool, e = .returned (.bool v) ∧ Below w.heap.size w w'
theorem run_max4 (a b c d : Int) : ∃ z : Int, ∀ W : World, (Builtin.max_ #[3, 3, 3, 3] 3 #[.int .i64 a, .int .i64 b, .int .i64 c, .int .i64 d]).run Tryz.prog W = .ok (.int .i64 z) W := ⟨_, fun W => by simp [Builtin.max_, Builtin.max2]; rfl⟩
theorem run_max5 (a b c d e : Int) : ∃ z : Int, ∀ W : World, (Builtin.max_ #[3, 3, 3, 3, 3] 3 #[.int .i64 a, .int .i64 b, .int .i64 c, .int .i64 d, .int .i64 e]).run Tryz.prog W = .ok (.int .i64 z) W := ⟨_, fun W => by simp [Builtin.max_, Builtin.max2]; rfl⟩
set_option maxRecDepth 100000 in
set_option maxHeartbeats 3200000 in
theorem small_any (b : Bd) (m : BdM) (w : World) (hR : BdR w b m) : Calls Tryz.prog 6 #[.agg (b.cells m).toArray] w (SmEnd w) := by
  obtain ⟨cs, hcs⟩ : ∃ cs, (b.cells m).toArray = cs := ⟨_, rfl⟩
  have HCS := Lib.hid hcs
  obtain ⟨⟨SA, Sc⟩, hS⟩ : ∃ x, m.S = x := ⟨_, rfl⟩
  obtain ⟨⟨QA, Qc⟩, hQ⟩ : ∃ x, m.Q = x := ⟨_, rfl⟩
  obtain ⟨ns, hns⟩ : ∃ x, b.stk.length = x := ⟨_, rfl⟩
  obtain ⟨nq, hnq⟩ : ∃ x, b.que.length = x := ⟨_, rfl⟩
  obtain ⟨no, hno⟩ : ∃ x, b.objs.length = x := ⟨_, rfl⟩
  obtain ⟨na, hna⟩ : ∃ x, b.att.length = x := ⟨_, rfl⟩
  obtain ⟨nk, hnk⟩ : ∃ x, b.blk.length = x := ⟨_, rfl⟩
  have HC : Hid (cs[0]? = some (.slice m.O.A no m.O.c) ∧ cs[29]? = some (.slice SA ns Sc) ∧ cs[30]? = some (.slice QA nq Qc) ∧ cs[31]? = some (.slice m.AT.A na m.AT.c) ∧ cs[32]? = some (.slice m.BK.A nk m.BK.c)) := Lib.hid ⟨by rw [← hcs, ← hno]; rfl, by rw [← hcs, ← hns]; show some (m.S.v _) = _; rw [hS]; rfl, by rw [← hcs, ← hnq]; show some (m.Q.v _) = _; rw [hQ]; rfl, by rw [← hcs, ← hna]; rfl, by rw [← hcs, ← hnk]; rfl⟩
  have HRS : Hid (IsR w ⟨SA, Sc⟩ b.stk m.ST ∧ IsR w ⟨QA, Qc⟩ b.que m.QT) := Lib.hid ⟨by rw [← hS]; exact hR.S, by rw [← hQ]; exact hR.Q⟩
  have HNS := Lib.hid hns
  have HNQ := Lib.hid hnq
  have hsb : ns ≤ 9223372036854775807 := by have := hR.S.ok.1; have := hR.S.ok.2.2; omega
  have hqb : nq ≤ 9223372036854775807 := by have := hR.Q.ok.1; have := hR.Q.ok.2.2; omega
  obtain ⟨w1, hw1⟩ : ∃ x, w.alloc (.cells cs 33) = x := ⟨_, rfl⟩
  have hb1 : Below w.heap.size w w1 := by rw [← hw1]; exact (Below.refl _ _).alloc (Nat.le_refl _) _
  have hk1 : Blk w1 w.heap.size 33 cs := by rw [← hw1]; exact Blk.mk_ _ _ _ _ rfl
  have c29 := (hk1.at_ 29).trans HC.out.2.1
  have c30 := (hk1.at_ 30).trans HC.out.2.2.1
  have c31 := (hk1.at_ 31).trans HC.out.2.2.2.1
  have c32 := (hk1.at_ 32).trans HC.out.2.2.2.2
  have HI1 : Hid (Blk w1 w.heap.size 33 cs ∧ Below w.heap.size w w1) := Lib.hid ⟨hk1, hb1⟩
  rw [hcs]
  clear hR hcs hS hQ hns hnq hno hna hnk hb1 hk1
  go_enter Tryz.func6, Tryz.ntmps6
  obtain ⟨z4, hz4⟩ := run_max4 (ns : Int) nq na nk
  go_wp2_with fail
  clear hz4 c29 c30 c31 c32 hw1
  go_loopw [3, 4] (fun z iv W => ∃ (p : Nat) (x : Int), z = .int .i64 x ∧ iv = .int .i64 p ∧ p ≤ 2 ∧ Hid (Blk W w.heap.size 33 cs ∧ Below w.heap.size w W)) (fun _ iv _ => 2 - (intOf iv).toNat)
  case atStart => exact ⟨0, _, rfl, rfl, by omega, HI1⟩
  case round =>
    obtain ⟨p, x, rfl, rfl, hp, HI⟩ := hrel
    clear HI1
    by_cases hp2 : p < 2
    · have hp2' : (p : Int) < 2 := by omega
      have HP2 := Lib.hid hp2
      obtain ⟨s, hs⟩ : ∃ x, seN b p = x := ⟨_, rfl⟩
      obtain ⟨sm, hsm⟩ : ∃ x, smN m p = x := ⟨_, rfl⟩
      have HLS : Hid ((Instr.loadAt 27 (.pointer (some ⟨w.heap.size, 1 + p * 14, none⟩))).run Tryz.prog wr = .ok (.agg (s.cells sm).toArray) wr) := Lib.hid (by
        refine HI.out.1.mid (s.cells sm) _ (fun j v hj => ?_) Tryz.underlying27 rfl (by rw [size_seat]; rfl)
        have hj14 : j < 14 := (List.getElem?_eq_some_iff.1 hj).1
        rw [← HCS.out, ← hj, ← hs, ← hsm, List.getElem?_toArray]
        rcases (show p = 0 ∨ p = 1 by omega) with rfl | rfl
        · rcases (show j = 0 ∨ j = 1 ∨ j = 2 ∨ j = 3 ∨ j = 4 ∨ j = 5 ∨ j = 6 ∨ j = 7 ∨ j = 8 ∨ j = 9 ∨ j = 10 ∨ j = 11 ∨ j = 12 ∨ j = 13 by omega) with rfl | rfl | rfl | rfl | rfl | rfl | rfl | rfl | rfl | rfl | rfl | rfl | rfl | rfl <;> rfl
        · rcases (show j = 0 ∨ j = 1 ∨ j = 2 ∨ j = 3 ∨ j = 4 ∨ j = 5 ∨ j = 6 ∨ j = 7 ∨ j = 8 ∨ j = 9 ∨ j = 10 ∨ j = 11 ∨ j = 12 ∨ j = 13 by omega) with rfl | rfl | rfl | rfl | rfl | rfl | rfl | rfl | rfl | rfl | rfl | rfl | rfl | rfl <;> rfl)
      obtain ⟨g5, hg5⟩ : ∃ x, wr.heap.size = x := ⟨_, rfl⟩
      obtain ⟨w5, hst, hk5, hgg⟩ := (Blk.mk_ wr 27 #[.int .i64 0, .int .i64 0, .int .i64 0, .int .i64 0, .int .i64 0, .slice none 0 0, .slice none 0 0, .slice none 0 0, .slice none 0 0, .bool false, .bool false, .bool false, .int .i64 0, .int .i64 0] g5 hg5).storeAll (ty := 27) (s.cells sm) rfl (by rw [size_seat]; rfl) (one_se _ _)
      have hb5 : Below wr.heap.size wr w5 := ((Below.refl _ _).alloc (Nat.le_refl _) _).grown hgg (by simp) (fun q hq => by injection hq with hq; omega)
      have HI5 : Hid (Blk w5 w.heap.size 33 cs ∧ Below w.heap.size w w5) := Lib.hid ⟨HI.out.1.call hb5, below_call HI.out.2 hb5 HI.out.2.size⟩
      have HST := Lib.hid hst
      have d5 : w5.cell? ⟨g5, 5, none⟩ = some (.slice sm.L.A s.lib.length sm.L.c) := (hk5.at_ 5).trans rfl
      have d6 : w5.cell? ⟨g5, 6, none⟩ = some (.slice sm.H.A s.hand.length sm.H.c) := (hk5.at_ 6).trans rfl
      have d7 : w5.cell? ⟨g5, 7, none⟩ = some (.slice sm.F.A s.fld.length sm.F.c) := (hk5.at_ 7).trans rfl
      have d8 : w5.cell? ⟨g5, 8, none⟩ = some (.slice sm.G.A s.grv.length sm.G.c) := (hk5.at_ 8).trans rfl
      obtain ⟨z5, hz5⟩ := run_max5 x s.lib.length s.hand.length s.fld.length s.grv.length
      clear hst hk5 hgg hb5 HI hs hsm hp2
      go_wp2_with (first
        | (refine wpList_load_by HLS.out rfl rfl rfl ?_; simp only [Act.put, List.setIfInBounds_toArray, List.set_cons_succ, List.set_cons_zero])
        | (refine wpList_store_by HST.out rfl rfl rfl rfl ?_; simp only [Act.put, List.setIfInBounds_toArray, List.set_cons_succ, List.set_cons_zero])
        | fail)
      clear d5 d6 d7 d8
      go_roundw
      case rel => exact ⟨p + 1, _, rfl, by go_num, by have := HP2.out; omega, HI5⟩
      case measure => simp [intOf]; have := HP2.out; omega
    · have hp2' : decide ((p : Int) < 2) = false := by simp; omega
      have c0 : wr.cell? ⟨w.heap.size, 0, none⟩ = some (.slice m.O.A no m.O.c) := (HI.out.1.at_ 0).trans HC.out.1
      clear hp hp2
      by_cases hn : (120 : Int) < no
      · have hn' : decide ((120 : Int) < no) = true := by simpa using hn
        go_wp2_with fail
        go_ret
        exact ⟨_, rfl, HI.out.2⟩
      · have hn' : decide ((120 : Int) < no) = false := by simpa using hn
        by_cases hx : (200 : Int) < x
        · have hx' : decide ((200 : Int) < x) = true := by simpa using hx
          go_wp2_with fail
          go_ret
          exact ⟨_, rfl, HI.out.2⟩
        · have hx' : decide ((200 : Int) < x) = false := by simpa using hx
          go_wp2_with fail
          clear c0
          go_loopw [6, 7] (fun z iv W => ∃ (k : Nat) (y : Int), z = .int .i64 y ∧ iv = .int .i64 k ∧ k ≤ ns ∧ Hid (Blk W w.heap.size 33 cs ∧ Below w.heap.size w W)) (fun _ iv _ => ns - (intOf iv).toNat)
          case atStart => exact ⟨0, 0, rfl, rfl, Nat.zero_le _, HI⟩
          case round =>
            obtain ⟨k, y, rfl, rfl, hk, HI2⟩ := hrel
            clear HI
            have c29 : wr.cell? ⟨w.heap.size, 29, none⟩ = some (.slice SA ns Sc) := (HI2.out.1.at_ 29).trans HC.out.2.1
            by_cases hkn : k < ns
            · have hkn' : (k : Int) < ns := by omega
              obtain ⟨z, hz⟩ := get_of (l := b.stk) (k := k) (by rw [HNS.out]; exact hkn)
              obtain ⟨t, ht⟩ := get_of (l := m.ST) (k := k) (by rw [HRS.out.1.len, HNS.out]; exact hkn)
              have hrow := HRS.out.1.row.below HI2.out.2
              rw [HNS.out] at hrow
              obtain ⟨ad, rfl, -, -, -, -, -, c4⟩ := item_at hrow (i := k) (x := z) (t := t) (by rw [List.getElem?_zip_eq_some]; exact ⟨hz, ht⟩) hkn
              clear hrow hz ht
              go_wp2_with fail
              go_roundw
              case rel => exact ⟨k + 1, _, rfl, by go_num, by omega, HI2⟩
              case measure => simp [intOf]; omega
            · have hkd : decide ((k : Int) < ns) = false := by simp; omega
              clear hk
              go_wp2_with fail
              clear c29
              go_loopw [6, 8] (fun z iv W => ∃ (k : Nat) (y : Int), z = .int .i64 y ∧ iv = .int .i64 k ∧ k ≤ nq ∧ Hid (Blk W w.heap.size 33 cs ∧ Below w.heap.size w W)) (fun _ iv _ => nq - (intOf iv).toNat)
              case atStart => exact ⟨0, y, rfl, rfl, Nat.zero_le _, HI2⟩
              case round =>
                obtain ⟨k, y, rfl, rfl, hk, HI3⟩ := hrel
                clear HI2
                have c30 : wr.cell? ⟨w.heap.size, 30, none⟩ = some (.slice QA nq Qc) := (HI3.out.1.at_ 30).trans HC.out.2.2.1
                by_cases hkn : k < nq
                · have hkn' : (k : Int) < nq := by omega
                  obtain ⟨z, hz⟩ := get_of (l := b.que) (k := k) (by rw [HNQ.out]; exact hkn)
                  obtain ⟨t, ht⟩ := get_of (l := m.QT) (k := k) (by rw [HRS.out.2.len, HNQ.out]; exact hkn)
                  have hrow := HRS.out.2.row.below HI3.out.2
                  rw [HNQ.out] at hrow
                  obtain ⟨ad, rfl, -, -, -, -, -, c4⟩ := item_at hrow (i := k) (x := z) (t := t) (by rw [List.getElem?_zip_eq_some]; exact ⟨hz, ht⟩) hkn
                  clear hrow hz ht
                  go_wp2_with fail
                  go_roundw
                  case rel => exact ⟨k + 1, _, rfl, by go_num, by omega, HI3⟩
                  case measure => simp [intOf]; omega
                · have hkd : decide ((k : Int) < nq) = false := by simp; omega
                  clear hk
                  go_wp2_with fail
                  go_ret
                  exact ⟨_, rfl, HI3.out.2⟩
end Go.Proofs.YtagpphelgghbpaaGreat
