/-
  Texts: Rod.
-/
import Derived.Test.YtagpphelgghbpaaGreatAk27
import Derived.Test.YtagpphelgghbpaaGreatAk30
set_option linter.unusedSimpArgs false
set_option linter.unusedVariables false
namespace Go.Proofs.YtagpphelgghbpaaGreat
open Go.RowKit

set_option maxRecDepth 100000 in
set_option maxHeartbeats 3200000 in
theorem rfl_r7 (w1 W : World) (g q c : Nat) (l : List Int) (hX : XOwns W w1.heap.size 3 1 (some ⟨g, 0, none⟩) q c (ics l)) (hB : Below w1.heap.size w1 W) (hn : q ≤ 800000) (g5 : Nat) (s : Vs) (sm : VsM) (h5 : Blk W g5 95 (s.cells sm).toArray) (hF : OsR w1 sm.F s.fld) (hG : OsR w1 sm.G s.grv) (hlF : s.fld.length ≤ 500) (hlG : s.grv.length ≤ 500) (Q : Exit → Act → World → Prop) (t0 t1 t2 t4 t6 t7 t8 t9 t10 t11 t12 t13 t14 t15 t16 t17 t18 t19 t20 t21 t22 t23 t24 t25 t26 t27 t28 t29 t30 t31 t32 t33 t34 t35 t36 t37 t38 t39 t40 t41 t42 t43 t44 t45 t46 t47 t48 t49 t50 t51 t52 t53 t54 t55 t56 t57 t58 t59 t60 t61 t62 t63 t64 t65 t66 t67 t68 t69 t70 t71 t72 t73 t74 t75 t76 t77 t78 t79 t80 t81 t82 t83 t84 t85 t86 t87 t88 t89 t90 t91 t92 t93 t94 t95 t96 t97 t98 t99 t100 t101 t102 t103 t104 t105 t106 t107 t108 t109 t110 t111 t112 t113 t114 t115 t116 t117 t118 t119 t120 t121 t122 t123 t124 t125 t126 t127 t128 t129 t130 t131 t132 t133 t134 t135 t136 t137 t138 t139 t140 t141 t142 t143 t144 t145 t146 t147 t148 t149 t150 t151 t152 t153 t154 t155 t156 t157 t158 t159 t160 t161 : Value)
    (hQ : ∀ d v c a w, Q (.panic c) (Act.put a d v) w → Q (.panic c) a w)
    (hK : ∀ (u40 u41 u42 u43 u44 u45 u46 u47 u48 : Value) (g9 q9 c9 : Nat) (W9 : World), XOwns W9 w1.heap.size 3 1 (some ⟨g9, 0, none⟩) q9 c9 (ics ((l ++ obsN s.fld) ++ obsN s.grv)) ∧ Below w1.heap.size w1 W9 ∧ Blk W9 g5 95 (s.cells sm).toArray → Q .normal ⟨#[t0, t1, t2, .slice (some ⟨g9, 0, none⟩) q9 c9, t4, .pointer (some ⟨g5, 0, none⟩), t6, t7, t8, t9, t10, t11, t12, t13, t14, t15, t16, t17, t18, t19, t20, t21, t22, t23, t24, t25, t26, t27, t28, t29, t30, t31, t32, t33, t34, t35, t36, t37, t38, t39, u40, u41, u42, u43, u44, u45, u46, u47, u48, t49, t50, t51, t52, t53, t54, t55, t56, t57, t58, t59, t60, t61, t62, t63, t64, t65, t66, t67, t68, t69, t70, t71, t72, t73, t74, t75, t76, t77, t78, t79, t80, t81, t82, t83, t84, t85, t86, t87, t88, t89, t90, t91, t92, t93, t94, t95, t96, t97, t98, t99, t100, t101, t102, t103, t104, t105, t106, t107, t108, t109, t110, t111, t112, t113, t114, t115, t116, t117, t118, t119, t120, t121, t122, t123, t124, t125, t126, t127, t128, t129, t130, t131, t132, t133, t134, t135, t136, t137, t138, t139, t140, t141, t142, t143, t144, t145, t146, t147, t148, t149, t150, t151, t152, t153, t154, t155, t156, t157, t158, t159, t160, t161], []⟩ W9) :
    Code.wp Tryz.prog (regOf Tryz.f74 7) Q ⟨#[t0, t1, t2, .slice (some ⟨g, 0, none⟩) q c, t4, .pointer (some ⟨g5, 0, none⟩), t6, t7, t8, t9, t10, t11, t12, t13, t14, t15, t16, t17, t18, t19, t20, t21, t22, t23, t24, t25, t26, t27, t28, t29, t30, t31, t32, t33, t34, t35, t36, t37, t38, t39, t40, t41, t42, t43, t44, t45, t46, t47, t48, t49, t50, t51, t52, t53, t54, t55, t56, t57, t58, t59, t60, t61, t62, t63, t64, t65, t66, t67, t68, t69, t70, t71, t72, t73, t74, t75, t76, t77, t78, t79, t80, t81, t82, t83, t84, t85, t86, t87, t88, t89, t90, t91, t92, t93, t94, t95, t96, t97, t98, t99, t100, t101, t102, t103, t104, t105, t106, t107, t108, t109, t110, t111, t112, t113, t114, t115, t116, t117, t118, t119, t120, t121, t122, t123, t124, t125, t126, t127, t128, t129, t130, t131, t132, t133, t134, t135, t136, t137, t138, t139, t140, t141, t142, t143, t144, t145, t146, t147, t148, t149, t150, t151, t152, t153, t154, t155, t156, t157, t158, t159, t160, t161], []⟩ W := by
  have HKK := Lib.hid hK
  clear hK
  conv => arg 2; whnf
  have HQ := Lib.hid hQ
  have HXO := Lib.hid hX
  have HB := Lib.hid hB
  have HNQ := Lib.hid hn
  have hne_ : Nonempty (In (fun W' => Blk W' g5 95 (s.cells sm).toArray)) := ⟨⟨W, h5⟩⟩
  have HP := Lib.hid h5
  have HF := Lib.hid hF
  have HG := Lib.hid hG
  have HLF : Hid ((obsN s.fld).length ≤ 6001 ∧ 0 < (obsN s.fld).length) := Lib.hid (by rw [obsN_len]; omega)
  have HLG : Hid ((obsN s.grv).length ≤ 6001 ∧ 0 < (obsN s.grv).length) := Lib.hid (by rw [obsN_len]; omega)
  have HL5 := Lib.hid (And.intro hlF hlG)
  have x7 : ∀ z : In (fun W' => Blk W' g5 95 (s.cells sm).toArray), z.W.cell? ⟨g5, 7, none⟩ = some (.slice sm.F.A s.fld.length sm.F.c) := fun z => (z.h.at_ 7).trans rfl
  have x8 : ∀ z : In (fun W' => Blk W' g5 95 (s.cells sm).toArray), z.W.cell? ⟨g5, 8, none⟩ = some (.slice sm.G.A s.grv.length sm.G.c) := fun z => (z.h.at_ 8).trans rfl
  clear h5 hF hG hX hB hQ hn hlF hlG
  refine wp_region_sched (fun w' => ∃ s : In (fun W' => Blk W' g5 95 (s.cells sm).toArray), w' = s.W) [0,1,2,5,6] (.one 3 [] (.one 4 [] (.one 7 [] (.one 8 [9] .done)))) (by kernel_rfl) (by kernel_rfl) HQ.out ⟨⟨_, HP.out.drew⟩, rfl⟩ ?_
  refine quiet_as (C' := (fun w' => ∃ s : In (fun W' => Blk W' g5 95 (s.cells sm).toArray), w' = s.W)) rfl ?_
  simp only [opsAt, List.getElem?_toArray, List.getElem?_cons_succ, List.getElem?_cons_zero]
  repeat (go_big_quiet_step (fail))
  refine wpQuiet_nil ?_
  obtain ⟨W_d, hwd⟩ : ∃ v, W.drew = v := ⟨_, rfl⟩
  have HBW_1 : Hid (Below W.heap.size W W_d) := Lib.hid (by rw [← hwd]; exact (Below.refl _ _).drew)
  have HBR_1 : Hid (Below W.heap.size W W_d) := Lib.hid (by rw [← hwd]; exact (Below.refl _ _).drew)
  have P5_1 := Lib.hid ((HP.out).call (show Below W.heap.size W W_d by rw [← hwd]; exact (Below.refl _ _).drew))
  have OUT_1 := Lib.hid ((HXO.out).below (show Below W.heap.size W W_d by rw [← hwd]; exact (Below.refl _ _).drew))
  have FB_1 := Lib.hid (below_call (HB.out) (show Below W.heap.size W W_d by rw [← hwd]; exact (Below.refl _ _).drew) (HB.out).size)
  rw [hwd]
  clear hwd
  refine eff_as (C' := (fun w' => ∃ s : In (fun W' => Blk W' g5 95 (s.cells sm).toArray), w' = s.W)) rfl ?_
  (refine eff_lit rfl rfl (fun K hK => ?_))
  go_big_op
  refine (rfobjs_any W_d s.fld s.fld.length sm.F.c sm.F.A (HF.out.row.below FB_1.out) rfl HL5.out.1).mono ?_
  rintro e W_2 ⟨gA1, cA1, rfl, hxA1, hbW_2⟩
  have LA_3 := Lib.hid (hxA1)
  have HBW_3 := Lib.hid (below_call HBW_1.out hbW_2 HBW_1.out.size)
  clear HBW_1
  have HBR_3 := Lib.hid (below_call HBR_1.out hbW_2 HBR_1.out.size)
  clear HBR_1
  have P5_3 := Lib.hid (P5_1.out.call hbW_2)
  clear P5_1
  have OUT_3 := Lib.hid (OUT_1.out.below hbW_2)
  clear OUT_1
  have FB_3 := Lib.hid (below_call FB_1.out hbW_2 FB_1.out.size)
  clear FB_1
  clear hbW_2
  clear hxA1
  refine hK _ _ ⟨⟨_, P5_3.out⟩, rfl⟩ ?_
  clear hK K
  try simp only [opsAt, List.getElem?_toArray, List.getElem?_cons_succ, List.getElem?_cons_zero]
  refine wpQuiet_nil ?_
  refine eff_as (C' := (fun w' => ∃ s : In (fun W' => Blk W' g5 95 (s.cells sm).toArray), w' = s.W)) rfl ?_
  (refine eff_lit rfl rfl (fun K hK => ?_))
  refine append_i_op (w := W_2) (.tmp 40) (.tmp 43) rfl w1.heap.size (some ⟨g, 0, none⟩) (q) c l rfl OUT_3.out (some ⟨gA1, 0, none⟩) ((obsN s.fld).length) cA1 (obsN s.fld) rfl LA_3.out.reads (HLF.out.2) (by have := HNQ.out; have := HLF.out.1; omega) (FB_3.out.size) ?_
  intro gqW_4 cqW_4 W_4 hoqW_4 hgqW_4 hbqW_4
  simp only [Act.put, List.setIfInBounds_toArray, List.set_cons_succ, List.set_cons_zero]
  have OUT_5 := Lib.hid (hoqW_4)
  have P5_5 := Lib.hid (P5_3.out.over OUT_3.out hgqW_4 (by decide))
  clear P5_3
  have FB_5 := Lib.hid (FB_3.out.trans hbqW_4)
  clear FB_3
  clear hoqW_4 hgqW_4 hbqW_4
  refine hK _ _ ⟨⟨_, P5_5.out⟩, rfl⟩ ?_
  clear hK K
  try simp only [opsAt, List.getElem?_toArray, List.getElem?_cons_succ, List.getElem?_cons_zero]
  refine wpQuiet_nil ?_
  refine eff_as (C' := (fun w' => ∃ s : In (fun W' => Blk W' g5 95 (s.cells sm).toArray), w' = s.W)) rfl ?_
  (refine eff_lit rfl rfl (fun K hK => ?_))
  go_big_op
  refine (rfobjs_any W_4 s.grv s.grv.length sm.G.c sm.G.A (HG.out.row.below FB_5.out) rfl HL5.out.2).mono ?_
  rintro e W_6 ⟨gA2, cA2, rfl, hxA2, hbW_6⟩
  have LA_7 := Lib.hid (hxA2)
  have P5_7 := Lib.hid (P5_5.out.call hbW_6)
  clear P5_5
  have FB_7 := Lib.hid (below_call FB_5.out hbW_6 FB_5.out.size)
  clear FB_5
  have OUT_7 := Lib.hid (OUT_5.out.below hbW_6)
  clear OUT_5
  clear hbW_6
  clear hxA2
  refine hK _ _ ⟨⟨_, P5_7.out⟩, rfl⟩ ?_
  clear hK K
  try simp only [opsAt, List.getElem?_toArray, List.getElem?_cons_succ, List.getElem?_cons_zero]
  refine wpQuiet_nil ?_
  refine eff_as (C' := (fun w' => ∃ s : In (fun W' => Blk W' g5 95 (s.cells sm).toArray), w' = s.W)) rfl ?_
  (refine eff_lit rfl rfl (fun K hK => ?_))
  refine append_i_op (w := W_6) (.tmp 44) (.tmp 47) rfl w1.heap.size (some ⟨gqW_4, 0, none⟩) ((q + (obsN s.fld).length)) cqW_4 (l ++ obsN s.fld) rfl OUT_7.out (some ⟨gA2, 0, none⟩) ((obsN s.grv).length) cA2 (obsN s.grv) rfl LA_7.out.reads (HLG.out.2) (by have := HNQ.out; have := HLF.out.1; have := HLG.out.1; omega) (FB_7.out.size) ?_
  intro gqW_8 cqW_8 W_8 hoqW_8 hgqW_8 hbqW_8
  simp only [Act.put, List.setIfInBounds_toArray, List.set_cons_succ, List.set_cons_zero]
  have OUT_9 := Lib.hid (hoqW_8)
  have P5_9 := Lib.hid (P5_7.out.over OUT_7.out hgqW_8 (by decide))
  clear P5_7
  have FB_9 := Lib.hid (FB_7.out.trans hbqW_8)
  clear FB_7
  clear hoqW_8 hgqW_8 hbqW_8
  refine hK _ _ ⟨⟨_, P5_9.out⟩, rfl⟩ ?_
  clear hK K
  try simp only [opsAt, List.getElem?_toArray, List.getElem?_cons_succ, List.getElem?_cons_zero]
  repeat (go_big_quiet_step (fail))
  refine wpQuiet_nil ?_
  refine effs_done ?_
  exact HKK.out _ _ _ _ _ _ _ _ _ gqW_8 _ cqW_8 _ ⟨OUT_9.out, FB_9.out, P5_9.out⟩

set_option maxRecDepth 100000 in
set_option maxHeartbeats 3200000 in
theorem rfl_r8 (w1 W : World) (g q c : Nat) (l : List Int) (hX : XOwns W w1.heap.size 3 1 (some ⟨g, 0, none⟩) q c (ics l)) (hB : Below w1.heap.size w1 W) (hn : q ≤ 800000) (g5 : Nat) (s : Vs) (sm : VsM) (h5 : Blk W g5 95 (s.cells sm).toArray)  (Q : Exit → Act → World → Prop) (t0 t1 t2 t4 t6 t7 t8 t9 t10 t11 t12 t13 t14 t15 t16 t17 t18 t19 t20 t21 t22 t23 t24 t25 t26 t27 t28 t29 t30 t31 t32 t33 t34 t35 t36 t37 t38 t39 t40 t41 t42 t43 t44 t45 t46 t47 t48 t49 t50 t51 t52 t53 t54 t55 t56 t57 t58 t59 t60 t61 t62 t63 t64 t65 t66 t67 t68 t69 t70 t71 t72 t73 t74 t75 t76 t77 t78 t79 t80 t81 t82 t83 t84 t85 t86 t87 t88 t89 t90 t91 t92 t93 t94 t95 t96 t97 t98 t99 t100 t101 t102 t103 t104 t105 t106 t107 t108 t109 t110 t111 t112 t113 t114 t115 t116 t117 t118 t119 t120 t121 t122 t123 t124 t125 t126 t127 t128 t129 t130 t131 t132 t133 t134 t135 t136 t137 t138 t139 t140 t141 t142 t143 t144 t145 t146 t147 t148 t149 t150 t151 t152 t153 t154 t155 t156 t157 t158 t159 t160 t161 : Value)
    (hQ : ∀ d v c a w, Q (.panic c) (Act.put a d v) w → Q (.panic c) a w)
    (hK : ∀ (u49 u50 u51 u52 u53 u54 u55 u56 u57 u58 u59 u60 u61 u62 u63 u64 : Value) (g9 q9 c9 : Nat) (W9 : World), XOwns W9 w1.heap.size 3 1 (some ⟨g9, 0, none⟩) q9 c9 (ics (l ++ [tf s.emp, tf s.ply, tf s.kpt, s.mul, s.act])) ∧ Below w1.heap.size w1 W9 → Q .normal ⟨#[t0, t1, t2, .slice (some ⟨g9, 0, none⟩) q9 c9, t4, .pointer (some ⟨g5, 0, none⟩), t6, t7, t8, t9, t10, t11, t12, t13, t14, t15, t16, t17, t18, t19, t20, t21, t22, t23, t24, t25, t26, t27, t28, t29, t30, t31, t32, t33, t34, t35, t36, t37, t38, t39, t40, t41, t42, t43, t44, t45, t46, t47, t48, u49, u50, u51, u52, u53, u54, u55, u56, u57, u58, u59, u60, u61, u62, u63, u64, t65, t66, t67, t68, t69, t70, t71, t72, t73, t74, t75, t76, t77, t78, t79, t80, t81, t82, t83, t84, t85, t86, t87, t88, t89, t90, t91, t92, t93, t94, t95, t96, t97, t98, t99, t100, t101, t102, t103, t104, t105, t106, t107, t108, t109, t110, t111, t112, t113, t114, t115, t116, t117, t118, t119, t120, t121, t122, t123, t124, t125, t126, t127, t128, t129, t130, t131, t132, t133, t134, t135, t136, t137, t138, t139, t140, t141, t142, t143, t144, t145, t146, t147, t148, t149, t150, t151, t152, t153, t154, t155, t156, t157, t158, t159, t160, t161], []⟩ W9) :
    Code.wp Tryz.prog (regOf Tryz.f74 8) Q ⟨#[t0, t1, t2, .slice (some ⟨g, 0, none⟩) q c, t4, .pointer (some ⟨g5, 0, none⟩), t6, t7, t8, t9, t10, t11, t12, t13, t14, t15, t16, t17, t18, t19, t20, t21, t22, t23, t24, t25, t26, t27, t28, t29, t30, t31, t32, t33, t34, t35, t36, t37, t38, t39, t40, t41, t42, t43, t44, t45, t46, t47, t48, t49, t50, t51, t52, t53, t54, t55, t56, t57, t58, t59, t60, t61, t62, t63, t64, t65, t66, t67, t68, t69, t70, t71, t72, t73, t74, t75, t76, t77, t78, t79, t80, t81, t82, t83, t84, t85, t86, t87, t88, t89, t90, t91, t92, t93, t94, t95, t96, t97, t98, t99, t100, t101, t102, t103, t104, t105, t106, t107, t108, t109, t110, t111, t112, t113, t114, t115, t116, t117, t118, t119, t120, t121, t122, t123, t124, t125, t126, t127, t128, t129, t130, t131, t132, t133, t134, t135, t136, t137, t138, t139, t140, t141, t142, t143, t144, t145, t146, t147, t148, t149, t150, t151, t152, t153, t154, t155, t156, t157, t158, t159, t160, t161], []⟩ W := by
  have HKK := Lib.hid hK
  clear hK
  conv => arg 2; whnf
  have HQ := Lib.hid hQ
  have HXO := Lib.hid hX
  have HB := Lib.hid hB
  have HNQ := Lib.hid hn
  have hne_ : Nonempty (In (fun W' => Blk W' g5 95 (s.cells sm).toArray)) := ⟨⟨W, h5⟩⟩
  have HP := Lib.hid h5
  have x9 : ∀ z : In (fun W' => Blk W' g5 95 (s.cells sm).toArray), z.W.cell? ⟨g5, 9, none⟩ = some (.bool s.emp) := fun z => (z.h.at_ 9).trans rfl
  have x10 : ∀ z : In (fun W' => Blk W' g5 95 (s.cells sm).toArray), z.W.cell? ⟨g5, 10, none⟩ = some (.bool s.ply) := fun z => (z.h.at_ 10).trans rfl
  have x11 : ∀ z : In (fun W' => Blk W' g5 95 (s.cells sm).toArray), z.W.cell? ⟨g5, 11, none⟩ = some (.bool s.kpt) := fun z => (z.h.at_ 11).trans rfl
  have x12 : ∀ z : In (fun W' => Blk W' g5 95 (s.cells sm).toArray), z.W.cell? ⟨g5, 12, none⟩ = some (.int .i64 s.mul) := fun z => (z.h.at_ 12).trans rfl
  have x13 : ∀ z : In (fun W' => Blk W' g5 95 (s.cells sm).toArray), z.W.cell? ⟨g5, 13, none⟩ = some (.int .i64 s.act) := fun z => (z.h.at_ 13).trans rfl
  clear h5 hX hB hQ hn
  refine wp_region_sched (fun w' => ∃ s : In (fun W' => Blk W' g5 95 (s.cells sm).toArray), w' = s.W) [0,1,2,4,5,7,8,10,11,12,13] (.one 3 [] (.one 6 [] (.one 9 [] (.one 14 [] (.one 15 [16] .done))))) (by kernel_rfl) (by kernel_rfl) HQ.out ⟨⟨_, HP.out.drew⟩, rfl⟩ ?_
  refine quiet_as (C' := (fun w' => ∃ s : In (fun W' => Blk W' g5 95 (s.cells sm).toArray), w' = s.W)) rfl ?_
  simp only [opsAt, List.getElem?_toArray, List.getElem?_cons_succ, List.getElem?_cons_zero]
  repeat (go_big_quiet_step (fail))
  refine wpQuiet_nil ?_
  obtain ⟨W_d, hwd⟩ : ∃ v, W.drew = v := ⟨_, rfl⟩
  have HBW_1 : Hid (Below W.heap.size W W_d) := Lib.hid (by rw [← hwd]; exact (Below.refl _ _).drew)
  have HBR_1 : Hid (Below W.heap.size W W_d) := Lib.hid (by rw [← hwd]; exact (Below.refl _ _).drew)
  have P5_1 := Lib.hid ((HP.out).call (show Below W.heap.size W W_d by rw [← hwd]; exact (Below.refl _ _).drew))
  have OUT_1 := Lib.hid ((HXO.out).below (show Below W.heap.size W W_d by rw [← hwd]; exact (Below.refl _ _).drew))
  have FB_1 := Lib.hid (below_call (HB.out) (show Below W.heap.size W W_d by rw [← hwd]; exact (Below.refl _ _).drew) (HB.out).size)
  rw [hwd]
  clear hwd
  refine eff_as (C' := (fun w' => ∃ s : In (fun W' => Blk W' g5 95 (s.cells sm).toArray), w' = s.W)) rfl ?_
  (refine eff_lit rfl rfl (fun K hK => ?_))
  go_big_op
  refine (rflag_any s.emp W_d).mono ?_
  rintro e w_ ⟨rfl, rfl⟩
  refine hK _ _ ⟨⟨_, P5_1.out⟩, rfl⟩ ?_
  clear hK K
  try simp only [opsAt, List.getElem?_toArray, List.getElem?_cons_succ, List.getElem?_cons_zero]
  refine wpQuiet_nil ?_
  refine eff_as (C' := (fun w' => ∃ s : In (fun W' => Blk W' g5 95 (s.cells sm).toArray), w' = s.W)) rfl ?_
  (refine eff_lit rfl rfl (fun K hK => ?_))
  go_big_op
  refine (rflag_any s.ply W_d).mono ?_
  rintro e w_ ⟨rfl, rfl⟩
  refine hK _ _ ⟨⟨_, P5_1.out⟩, rfl⟩ ?_
  clear hK K
  try simp only [opsAt, List.getElem?_toArray, List.getElem?_cons_succ, List.getElem?_cons_zero]
  refine wpQuiet_nil ?_
  refine eff_as (C' := (fun w' => ∃ s : In (fun W' => Blk W' g5 95 (s.cells sm).toArray), w' = s.W)) rfl ?_
  (refine eff_lit rfl rfl (fun K hK => ?_))
  go_big_op
  refine (rflag_any s.kpt W_d).mono ?_
  rintro e w_ ⟨rfl, rfl⟩
  refine hK _ _ ⟨⟨_, P5_1.out⟩, rfl⟩ ?_
  clear hK K
  try simp only [opsAt, List.getElem?_toArray, List.getElem?_cons_succ, List.getElem?_cons_zero]
  refine wpQuiet_nil ?_
  refine eff_as (C' := (fun w' => ∃ s : In (fun W' => Blk W' g5 95 (s.cells sm).toArray), w' = s.W)) rfl ?_
  (refine eff_lit rfl rfl (fun K hK => ?_))
  go_big_op
  obtain ⟨W_2, hvW_2⟩ : ∃ v, (W_d.alloc (.cells #[.int .i64 (tf s.emp), .int .i64 (tf s.ply), .int .i64 (tf s.kpt), .int .i64 s.mul, .int .i64 s.act] 3)) = v := ⟨_, rfl⟩
  have hbW_2 : Below W_d.heap.size W_d W_2 := by rw [← hvW_2]; exact (Below.refl _ _).alloc (Nat.le_refl _) _
  obtain ⟨gL, hggL⟩ : ∃ v, W_d.heap.size = v := ⟨_, rfl⟩
  have hkW_2 : Blk W_2 gL 3 #[.int .i64 (tf s.emp), .int .i64 (tf s.ply), .int .i64 (tf s.kpt), .int .i64 s.mul, .int .i64 s.act] := by rw [← hvW_2]; exact Blk.mk_ _ _ _ _ hggL
  have HNgL : Hid (W.heap.size ≤ gL ∧ W.heap.size ≤ gL) := Lib.hid ⟨by rw [← hggL]; exact HBR_1.out.size, by rw [← hggL]; exact HBW_1.out.size⟩
  rw [hvW_2, hggL]
  have LI_3 := Lib.hid (hkW_2)
  have HBW_3 := Lib.hid (below_call HBW_1.out hbW_2 HBW_1.out.size)
  clear HBW_1
  have HBR_3 := Lib.hid (below_call HBR_1.out hbW_2 HBR_1.out.size)
  clear HBR_1
  have P5_3 := Lib.hid (P5_1.out.call hbW_2)
  clear P5_1
  have OUT_3 := Lib.hid (OUT_1.out.below hbW_2)
  clear OUT_1
  have FB_3 := Lib.hid (below_call FB_1.out hbW_2 FB_1.out.size)
  clear FB_1
  clear hkW_2 hvW_2 hggL hbW_2
  refine hK _ _ ⟨⟨_, P5_3.out⟩, rfl⟩ ?_
  clear hK K
  try simp only [opsAt, List.getElem?_toArray, List.getElem?_cons_succ, List.getElem?_cons_zero]
  refine wpQuiet_nil ?_
  refine eff_as (C' := (fun w' => ∃ s : In (fun W' => Blk W' g5 95 (s.cells sm).toArray), w' = s.W)) rfl ?_
  (refine eff_lit rfl rfl (fun K hK => ?_))
  refine append_i_op (w := W_2) (.tmp 49) (.tmp 63) rfl w1.heap.size (some ⟨g, 0, none⟩) (q) c l rfl OUT_3.out (some ⟨gL, 0, none⟩) (5) 5 [tf s.emp, tf s.ply, tf s.kpt, s.mul, s.act] rfl (reads_block LI_3.out 1 5 rfl) (by decide) (by have := HNQ.out; omega) (FB_3.out.size) ?_
  intro gqW_4 cqW_4 W_4 hoqW_4 hgqW_4 hbqW_4
  simp only [Act.put, List.setIfInBounds_toArray, List.set_cons_succ, List.set_cons_zero]
  have OUT_5 := Lib.hid (hoqW_4)
  have P5_5 := Lib.hid (P5_3.out.over OUT_3.out hgqW_4 (by decide))
  clear P5_3
  have FB_5 := Lib.hid (FB_3.out.trans hbqW_4)
  clear FB_3
  clear hoqW_4 hgqW_4 hbqW_4
  refine hK _ _ ⟨⟨_, P5_5.out⟩, rfl⟩ ?_
  clear hK K
  try simp only [opsAt, List.getElem?_toArray, List.getElem?_cons_succ, List.getElem?_cons_zero]
  repeat (go_big_quiet_step (fail))
  refine wpQuiet_nil ?_
  refine effs_done ?_
  exact HKK.out _ _ _ _ _ _ _ _ _ _ _ _ _ _ _ _ gqW_4 _ cqW_4 _ ⟨OUT_5.out, FB_5.out⟩

set_option maxRecDepth 100000 in
set_option maxHeartbeats 3200000 in
theorem rfl_r10 (w1 W : World) (g q c : Nat) (l : List Int) (hX : XOwns W w1.heap.size 3 1 (some ⟨g, 0, none⟩) q c (ics l)) (hB : Below w1.heap.size w1 W) (hn : q ≤ 800000) (gX : Nat) (VC : Array Value) (h1 : Blk w1 gX 98 VC) (v : Pu) (pm : PuM) (hS : IsR w1 pm.S v.stk pm.ST) (hQQ : IsR w1 pm.Q v.que pm.QT) (h4S : ∀ x ∈ v.stk, x.tgs.length ≤ 4) (h4Q : ∀ x ∈ v.que, x.tgs.length ≤ 4) (hlS : v.stk.length ≤ 200) (hlQ : v.que.length ≤ 200) (hc30 : VC[30]? = some (.slice pm.S.A v.stk.length pm.S.c)) (hc31 : VC[31]? = some (.slice pm.Q.A v.que.length pm.Q.c)) (Q : Exit → Act → World → Prop) (t0 t2 t4 t5 t6 t7 t8 t9 t10 t11 t12 t13 t14 t15 t16 t17 t18 t19 t20 t21 t22 t23 t24 t25 t26 t27 t28 t29 t30 t31 t32 t33 t34 t35 t36 t37 t38 t39 t40 t41 t42 t43 t44 t45 t46 t47 t48 t49 t50 t51 t52 t53 t54 t55 t56 t57 t58 t59 t60 t61 t62 t63 t64 t65 t66 t67 t68 t69 t70 t71 t72 t73 t74 t75 t76 t77 t78 t79 t80 t81 t82 t83 t84 t85 t86 t87 t88 t89 t90 t91 t92 t93 t94 t95 t96 t97 t98 t99 t100 t101 t102 t103 t104 t105 t106 t107 t108 t109 t110 t111 t112 t113 t114 t115 t116 t117 t118 t119 t120 t121 t122 t123 t124 t125 t126 t127 t128 t129 t130 t131 t132 t133 t134 t135 t136 t137 t138 t139 t140 t141 t142 t143 t144 t145 t146 t147 t148 t149 t150 t151 t152 t153 t154 t155 t156 t157 t158 t159 t160 t161 : Value)
    (hQ : ∀ d v c a w, Q (.panic c) (Act.put a d v) w → Q (.panic c) a w)
    (hK : ∀ (u70 u71 u72 u73 u74 u75 u76 u77 u78 : Value) (g9 q9 c9 : Nat) (W9 : World), XOwns W9 w1.heap.size 3 1 (some ⟨g9, 0, none⟩) q9 c9 (ics ((l ++ itsN v.stk) ++ itsN v.que)) ∧ Below w1.heap.size w1 W9 → Q .normal ⟨#[t0, .pointer (some ⟨gX, 0, none⟩), t2, .slice (some ⟨g9, 0, none⟩) q9 c9, t4, t5, t6, t7, t8, t9, t10, t11, t12, t13, t14, t15, t16, t17, t18, t19, t20, t21, t22, t23, t24, t25, t26, t27, t28, t29, t30, t31, t32, t33, t34, t35, t36, t37, t38, t39, t40, t41, t42, t43, t44, t45, t46, t47, t48, t49, t50, t51, t52, t53, t54, t55, t56, t57, t58, t59, t60, t61, t62, t63, t64, t65, t66, t67, t68, t69, u70, u71, u72, u73, u74, u75, u76, u77, u78, t79, t80, t81, t82, t83, t84, t85, t86, t87, t88, t89, t90, t91, t92, t93, t94, t95, t96, t97, t98, t99, t100, t101, t102, t103, t104, t105, t106, t107, t108, t109, t110, t111, t112, t113, t114, t115, t116, t117, t118, t119, t120, t121, t122, t123, t124, t125, t126, t127, t128, t129, t130, t131, t132, t133, t134, t135, t136, t137, t138, t139, t140, t141, t142, t143, t144, t145, t146, t147, t148, t149, t150, t151, t152, t153, t154, t155, t156, t157, t158, t159, t160, t161], []⟩ W9) :
    Code.wp Tryz.prog (regOf Tryz.f74 10) Q ⟨#[t0, .pointer (some ⟨gX, 0, none⟩), t2, .slice (some ⟨g, 0, none⟩) q c, t4, t5, t6, t7, t8, t9, t10, t11, t12, t13, t14, t15, t16, t17, t18, t19, t20, t21, t22, t23, t24, t25, t26, t27, t28, t29, t30, t31, t32, t33, t34, t35, t36, t37, t38, t39, t40, t41, t42, t43, t44, t45, t46, t47, t48, t49, t50, t51, t52, t53, t54, t55, t56, t57, t58, t59, t60, t61, t62, t63, t64, t65, t66, t67, t68, t69, t70, t71, t72, t73, t74, t75, t76, t77, t78, t79, t80, t81, t82, t83, t84, t85, t86, t87, t88, t89, t90, t91, t92, t93, t94, t95, t96, t97, t98, t99, t100, t101, t102, t103, t104, t105, t106, t107, t108, t109, t110, t111, t112, t113, t114, t115, t116, t117, t118, t119, t120, t121, t122, t123, t124, t125, t126, t127, t128, t129, t130, t131, t132, t133, t134, t135, t136, t137, t138, t139, t140, t141, t142, t143, t144, t145, t146, t147, t148, t149, t150, t151, t152, t153, t154, t155, t156, t157, t158, t159, t160, t161], []⟩ W := by
  have HKK := Lib.hid hK
  clear hK
  conv => arg 2; whnf
  have HQ := Lib.hid hQ
  have HXO := Lib.hid hX
  have HB := Lib.hid hB
  have HNQ := Lib.hid hn
  have hne_ : Nonempty (In (fun W' => Blk W' gX 98 VC)) := ⟨⟨W, h1.below hB h1.lt⟩⟩
  have HK1 := Lib.hid h1
  have HLT := Lib.hid h1.lt
  have HF := Lib.hid hS
  have HG := Lib.hid hQQ
  have HL4 := Lib.hid (And.intro h4S (And.intro h4Q (And.intro hlS hlQ)))
  have HLF : Hid ((itsN v.stk).length ≤ 2601 ∧ 0 < (itsN v.stk).length) := Lib.hid ⟨Nat.le_trans (itsN_len' h4S) (by omega), by rw [itsN]; simp⟩
  have HLG : Hid ((itsN v.que).length ≤ 2601 ∧ 0 < (itsN v.que).length) := Lib.hid ⟨Nat.le_trans (itsN_len' h4Q) (by omega), by rw [itsN]; simp⟩
  have x30 : ∀ z : In (fun W' => Blk W' gX 98 VC), z.W.cell? ⟨gX, 30, none⟩ = some (.slice pm.S.A v.stk.length pm.S.c) := fun z => (z.h.at_ 30).trans hc30
  have x31 : ∀ z : In (fun W' => Blk W' gX 98 VC), z.W.cell? ⟨gX, 31, none⟩ = some (.slice pm.Q.A v.que.length pm.Q.c) := fun z => (z.h.at_ 31).trans hc31
  clear h1 hS hQQ hX hB hQ hn h4S h4Q hlS hlQ
  refine wp_region_sched (fun w' => ∃ s : In (fun W' => Blk W' gX 98 VC), w' = s.W) [0,1,2,5,6] (.one 3 [] (.one 4 [] (.one 7 [] (.one 8 [9] .done)))) (by kernel_rfl) (by kernel_rfl) HQ.out ⟨⟨_, (HK1.out.below HB.out HLT.out).drew⟩, rfl⟩ ?_
  refine quiet_as (C' := (fun w' => ∃ s : In (fun W' => Blk W' gX 98 VC), w' = s.W)) rfl ?_
  simp only [opsAt, List.getElem?_toArray, List.getElem?_cons_succ, List.getElem?_cons_zero]
  repeat (go_big_quiet_step (fail))
  refine wpQuiet_nil ?_
  obtain ⟨W_d, hwd⟩ : ∃ v, W.drew = v := ⟨_, rfl⟩
  have HBW_1 : Hid (Below W.heap.size W W_d) := Lib.hid (by rw [← hwd]; exact (Below.refl _ _).drew)
  have HBR_1 : Hid (Below W.heap.size W W_d) := Lib.hid (by rw [← hwd]; exact (Below.refl _ _).drew)
  have OUT_1 := Lib.hid ((HXO.out).below (show Below W.heap.size W W_d by rw [← hwd]; exact (Below.refl _ _).drew))
  have FB_1 := Lib.hid (below_call (HB.out) (show Below W.heap.size W W_d by rw [← hwd]; exact (Below.refl _ _).drew) (HB.out).size)
  rw [hwd]
  clear hwd
  refine eff_as (C' := (fun w' => ∃ s : In (fun W' => Blk W' gX 98 VC), w' = s.W)) rfl ?_
  (refine eff_lit rfl rfl (fun K hK => ?_))
  go_big_op
  refine (rfitems_any W_d pm.S v.stk pm.ST v.stk.length (HF.out.below FB_1.out) rfl HL4.out.2.2.1 HL4.out.1).mono ?_
  rintro e W_2 ⟨gA1, cA1, rfl, hxA1, hbW_2⟩
  have LA_3 := Lib.hid (hxA1)
  have HBW_3 := Lib.hid (below_call HBW_1.out hbW_2 HBW_1.out.size)
  clear HBW_1
  have HBR_3 := Lib.hid (below_call HBR_1.out hbW_2 HBR_1.out.size)
  clear HBR_1
  have OUT_3 := Lib.hid (OUT_1.out.below hbW_2)
  clear OUT_1
  have FB_3 := Lib.hid (below_call FB_1.out hbW_2 FB_1.out.size)
  clear FB_1
  clear hbW_2
  clear hxA1
  refine hK _ _ ⟨⟨_, HK1.out.below FB_3.out HLT.out⟩, rfl⟩ ?_
  clear hK K
  try simp only [opsAt, List.getElem?_toArray, List.getElem?_cons_succ, List.getElem?_cons_zero]
  refine wpQuiet_nil ?_
  refine eff_as (C' := (fun w' => ∃ s : In (fun W' => Blk W' gX 98 VC), w' = s.W)) rfl ?_
  (refine eff_lit rfl rfl (fun K hK => ?_))
  refine append_i_op (w := W_2) (.tmp 70) (.tmp 73) rfl w1.heap.size (some ⟨g, 0, none⟩) (q) c l rfl OUT_3.out (some ⟨gA1, 0, none⟩) ((itsN v.stk).length) cA1 (itsN v.stk) rfl LA_3.out.reads (HLF.out.2) (by have := HNQ.out; have := HLF.out.1; omega) (FB_3.out.size) ?_
  intro gqW_4 cqW_4 W_4 hoqW_4 hgqW_4 hbqW_4
  simp only [Act.put, List.setIfInBounds_toArray, List.set_cons_succ, List.set_cons_zero]
  have OUT_5 := Lib.hid (hoqW_4)
  have FB_5 := Lib.hid (FB_3.out.trans hbqW_4)
  clear FB_3
  clear hoqW_4 hgqW_4 hbqW_4
  refine hK _ _ ⟨⟨_, HK1.out.below FB_5.out HLT.out⟩, rfl⟩ ?_
  clear hK K
  try simp only [opsAt, List.getElem?_toArray, List.getElem?_cons_succ, List.getElem?_cons_zero]
  refine wpQuiet_nil ?_
  refine eff_as (C' := (fun w' => ∃ s : In (fun W' => Blk W' gX 98 VC), w' = s.W)) rfl ?_
  (refine eff_lit rfl rfl (fun K hK => ?_))
  go_big_op
  refine (rfitems_any W_4 pm.Q v.que pm.QT v.que.length (HG.out.below FB_5.out) rfl HL4.out.2.2.2 HL4.out.2.1).mono ?_
  rintro e W_6 ⟨gA2, cA2, rfl, hxA2, hbW_6⟩
  have LA_7 := Lib.hid (hxA2)
  have FB_7 := Lib.hid (below_call FB_5.out hbW_6 FB_5.out.size)
  clear FB_5
  have OUT_7 := Lib.hid (OUT_5.out.below hbW_6)
  clear OUT_5
  clear hbW_6
  clear hxA2
  refine hK _ _ ⟨⟨_, HK1.out.below FB_7.out HLT.out⟩, rfl⟩ ?_
  clear hK K
  try simp only [opsAt, List.getElem?_toArray, List.getElem?_cons_succ, List.getElem?_cons_zero]
  refine wpQuiet_nil ?_
  refine eff_as (C' := (fun w' => ∃ s : In (fun W' => Blk W' gX 98 VC), w' = s.W)) rfl ?_
  (refine eff_lit rfl rfl (fun K hK => ?_))
  refine append_i_op (w := W_6) (.tmp 74) (.tmp 77) rfl w1.heap.size (some ⟨gqW_4, 0, none⟩) ((q + (itsN v.stk).length)) cqW_4 (l ++ itsN v.stk) rfl OUT_7.out (some ⟨gA2, 0, none⟩) ((itsN v.que).length) cA2 (itsN v.que) rfl LA_7.out.reads (HLG.out.2) (by have := HNQ.out; have := HLF.out.1; have := HLG.out.1; omega) (FB_7.out.size) ?_
  intro gqW_8 cqW_8 W_8 hoqW_8 hgqW_8 hbqW_8
  simp only [Act.put, List.setIfInBounds_toArray, List.set_cons_succ, List.set_cons_zero]
  have OUT_9 := Lib.hid (hoqW_8)
  have FB_9 := Lib.hid (FB_7.out.trans hbqW_8)
  clear FB_7
  clear hoqW_8 hgqW_8 hbqW_8
  refine hK _ _ ⟨⟨_, HK1.out.below FB_9.out HLT.out⟩, rfl⟩ ?_
  clear hK K
  try simp only [opsAt, List.getElem?_toArray, List.getElem?_cons_succ, List.getElem?_cons_zero]
  repeat (go_big_quiet_step (fail))
  refine wpQuiet_nil ?_
  refine effs_done ?_
  exact HKK.out _ _ _ _ _ _ _ _ _ gqW_8 _ cqW_8 _ ⟨OUT_9.out, FB_9.out⟩

set_option maxRecDepth 100000 in
set_option maxHeartbeats 3200000 in
theorem rfl_r11 (w1 W : World) (g q c : Nat) (l : List Int) (hX : XOwns W w1.heap.size 3 1 (some ⟨g, 0, none⟩) q c (ics l)) (hB : Below w1.heap.size w1 W) (hn : q ≤ 800000) (gX : Nat) (VC : Array Value) (h1 : Blk w1 gX 98 VC) (v : Pu) (pm : PuM) (hA : IlR w1 pm.AT v.att) (hlA : v.att.length ≤ 500) (hc32 : VC[32]? = some (.slice pm.AT.A v.att.length pm.AT.c)) (hc33 : VC[33]? = some (.slice pm.BK.A v.blk.length pm.BK.c)) (Q : Exit → Act → World → Prop) (t0 t2 t4 t5 t6 t7 t8 t9 t10 t11 t12 t13 t14 t15 t16 t17 t18 t19 t20 t21 t22 t23 t24 t25 t26 t27 t28 t29 t30 t31 t32 t33 t34 t35 t36 t37 t38 t39 t40 t41 t42 t43 t44 t45 t46 t47 t48 t49 t50 t51 t52 t53 t54 t55 t56 t57 t58 t59 t60 t61 t62 t63 t64 t65 t66 t67 t68 t69 t70 t71 t72 t73 t74 t75 t76 t77 t78 t79 t80 t81 t82 t83 t84 t85 t86 t87 t88 t89 t90 t91 t92 t93 t94 t95 t96 t97 t98 t99 t100 t101 t102 t103 t104 t105 t106 t107 t108 t109 t110 t111 t112 t113 t114 t115 t116 t117 t118 t119 t120 t121 t122 t123 t124 t125 t126 t127 t128 t129 t130 t131 t132 t133 t134 t135 t136 t137 t138 t139 t140 t141 t142 t143 t144 t145 t146 t147 t148 t149 t150 t151 t152 t153 t154 t155 t156 t157 t158 t159 t160 t161 : Value)
    (hQ : ∀ d v c a w, Q (.panic c) (Act.put a d v) w → Q (.panic c) a w)
    (hK : ∀ (u79 u80 u81 u82 u83 u84 u85 u86 u87 u88 : Value) (g9 q9 c9 : Nat) (W9 : World), XOwns W9 w1.heap.size 3 1 (some ⟨g9, 0, none⟩) q9 c9 (ics ((l ++ intsN v.att) ++ [(v.blk.length : Int)])) ∧ Below w1.heap.size w1 W9 → Q .normal ⟨#[t0, .pointer (some ⟨gX, 0, none⟩), t2, .slice (some ⟨g9, 0, none⟩) q9 c9, t4, t5, t6, t7, t8, t9, t10, t11, t12, t13, t14, t15, t16, t17, t18, t19, t20, t21, t22, t23, t24, t25, t26, t27, t28, t29, t30, t31, t32, t33, t34, t35, t36, t37, t38, t39, t40, t41, t42, t43, t44, t45, t46, t47, t48, t49, t50, t51, t52, t53, t54, t55, t56, t57, t58, t59, t60, t61, t62, t63, t64, t65, t66, t67, t68, t69, t70, t71, t72, t73, t74, t75, t76, t77, t78, u79, u80, u81, u82, u83, u84, u85, u86, u87, u88, t89, t90, t91, t92, t93, t94, t95, t96, t97, t98, t99, t100, t101, t102, t103, t104, t105, t106, t107, t108, t109, t110, t111, t112, t113, t114, t115, t116, t117, t118, t119, t120, t121, t122, t123, t124, t125, t126, t127, t128, t129, t130, t131, t132, t133, t134, t135, t136, t137, t138, t139, t140, t141, t142, t143, t144, t145, t146, t147, t148, t149, t150, t151, t152, t153, t154, t155, t156, t157, t158, t159, t160, t161], []⟩ W9) :
    Code.wp Tryz.prog (regOf Tryz.f74 11) Q ⟨#[t0, .pointer (some ⟨gX, 0, none⟩), t2, .slice (some ⟨g, 0, none⟩) q c, t4, t5, t6, t7, t8, t9, t10, t11, t12, t13, t14, t15, t16, t17, t18, t19, t20, t21, t22, t23, t24, t25, t26, t27, t28, t29, t30, t31, t32, t33, t34, t35, t36, t37, t38, t39, t40, t41, t42, t43, t44, t45, t46, t47, t48, t49, t50, t51, t52, t53, t54, t55, t56, t57, t58, t59, t60, t61, t62, t63, t64, t65, t66, t67, t68, t69, t70, t71, t72, t73, t74, t75, t76, t77, t78, t79, t80, t81, t82, t83, t84, t85, t86, t87, t88, t89, t90, t91, t92, t93, t94, t95, t96, t97, t98, t99, t100, t101, t102, t103, t104, t105, t106, t107, t108, t109, t110, t111, t112, t113, t114, t115, t116, t117, t118, t119, t120, t121, t122, t123, t124, t125, t126, t127, t128, t129, t130, t131, t132, t133, t134, t135, t136, t137, t138, t139, t140, t141, t142, t143, t144, t145, t146, t147, t148, t149, t150, t151, t152, t153, t154, t155, t156, t157, t158, t159, t160, t161], []⟩ W := by
  have HKK := Lib.hid hK
  clear hK
  conv => arg 2; whnf
  have HQ := Lib.hid hQ
  have HXO := Lib.hid hX
  have HB := Lib.hid hB
  have HNQ := Lib.hid hn
  have hne_ : Nonempty (In (fun W' => Blk W' gX 98 VC)) := ⟨⟨W, h1.below hB h1.lt⟩⟩
  have HK1 := Lib.hid h1
  have HLT := Lib.hid h1.lt
  have HGL : Hid (g < W.heap.size) := Lib.hid (hX.lt g rfl).2
  have HF := Lib.hid hA
  have HL5 := Lib.hid hlA
  have HLF : Hid ((intsN v.att).length ≤ 501 ∧ 0 < (intsN v.att).length) := Lib.hid (by rw [intsN, List.length_cons]; omega)
  obtain ⟨nb, hnb⟩ : ∃ z, v.blk.length = z := ⟨_, rfl⟩
  rw [hnb] at hc33 HKK
  have x32 : ∀ z : In (fun W' => Blk W' gX 98 VC), z.W.cell? ⟨gX, 32, none⟩ = some (.slice pm.AT.A v.att.length pm.AT.c) := fun z => (z.h.at_ 32).trans hc32
  have x33 : ∀ z : In (fun W' => Blk W' gX 98 VC), z.W.cell? ⟨gX, 33, none⟩ = some (.slice pm.BK.A nb pm.BK.c) := fun z => (z.h.at_ 33).trans hc33
  clear h1 hA hX hB hQ hn hlA hnb
  refine wp_region_sched (fun w' => ∃ s : In (fun W' => Blk W' gX 98 VC), w' = s.W) [0,1,2,5,6,7] (.two 3 [] (.two 4 [] (.one 8 [] (.one 9 [10] .done)) 8 [] (.one 4 [] (.one 9 [10] .done))) 8 [] (.one 3 [] (.one 4 [] (.one 9 [10] .done)))) (by kernel_rfl) (by kernel_rfl) HQ.out ⟨⟨_, (HK1.out.below HB.out HLT.out).drew⟩, rfl⟩ ?_
  refine quiet_as (C' := (fun w' => ∃ s : In (fun W' => Blk W' gX 98 VC), w' = s.W)) rfl ?_
  simp only [opsAt, List.getElem?_toArray, List.getElem?_cons_succ, List.getElem?_cons_zero]
  repeat (go_big_quiet_step (fail))
  refine wpQuiet_nil ?_
  obtain ⟨W_d, hwd⟩ : ∃ v, W.drew = v := ⟨_, rfl⟩
  have HBW_1 : Hid (Below W.heap.size W W_d) := Lib.hid (by rw [← hwd]; exact (Below.refl _ _).drew)
  have HBR_1 : Hid (Below W.heap.size W W_d) := Lib.hid (by rw [← hwd]; exact (Below.refl _ _).drew)
  have OUT_1 := Lib.hid ((HXO.out).below (show Below W.heap.size W W_d by rw [← hwd]; exact (Below.refl _ _).drew))
  have FB_1 := Lib.hid (below_call (HB.out) (show Below W.heap.size W W_d by rw [← hwd]; exact (Below.refl _ _).drew) (HB.out).size)
  rw [hwd]
  clear hwd
  refine ⟨?_, ?_⟩
  · refine eff_as (C' := (fun w' => ∃ s : In (fun W' => Blk W' gX 98 VC), w' = s.W)) rfl ?_
    (refine eff_lit rfl rfl (fun K hK => ?_))
    go_big_op
    refine (rfints_any pm.AT.A v.att.length pm.AT.c v.att W_d (HF.out.row.below FB_1.out) HF.out.ok.2.1 (by have := HL5.out; omega)).mono ?_
    rintro e W_2 ⟨gA1, cA1, rfl, hxA1, hbW_2⟩
    have LA_3 := Lib.hid (hxA1)
    have HBW_3 := Lib.hid (below_call HBW_1.out hbW_2 HBW_1.out.size)
    clear HBW_1
    have HBR_3 := Lib.hid (below_call HBR_1.out hbW_2 HBR_1.out.size)
    clear HBR_1
    have OUT_3 := Lib.hid (OUT_1.out.below hbW_2)
    clear OUT_1
    have FB_3 := Lib.hid (below_call FB_1.out hbW_2 FB_1.out.size)
    clear FB_1
    clear hbW_2
    clear hxA1
    refine hK _ _ ⟨⟨_, HK1.out.below FB_3.out HLT.out⟩, rfl⟩ ?_
    clear hK K
    try simp only [opsAt, List.getElem?_toArray, List.getElem?_cons_succ, List.getElem?_cons_zero]
    refine wpQuiet_nil ?_
    refine ⟨?_, ?_⟩
    · refine eff_as (C' := (fun w' => ∃ s : In (fun W' => Blk W' gX 98 VC), w' = s.W)) rfl ?_
      (refine eff_lit rfl rfl (fun K hK => ?_))
      refine append_i_op (w := W_2) (.tmp 79) (.tmp 82) rfl w1.heap.size (some ⟨g, 0, none⟩) (q) c l rfl OUT_3.out (some ⟨gA1, 0, none⟩) ((intsN v.att).length) cA1 (intsN v.att) rfl LA_3.out.reads (HLF.out.2) (by have := HNQ.out; have := HLF.out.1; omega) (FB_3.out.size) ?_
      intro gqW_4 cqW_4 W_4 hoqW_4 hgqW_4 hbqW_4
      simp only [Act.put, List.setIfInBounds_toArray, List.set_cons_succ, List.set_cons_zero]
      have OUT_5 := Lib.hid (hoqW_4)
      have FB_5 := Lib.hid (FB_3.out.trans hbqW_4)
      clear FB_3
      clear hoqW_4 hgqW_4 hbqW_4
      refine hK _ _ ⟨⟨_, HK1.out.below FB_5.out HLT.out⟩, rfl⟩ ?_
      clear hK K
      try simp only [opsAt, List.getElem?_toArray, List.getElem?_cons_succ, List.getElem?_cons_zero]
      refine wpQuiet_nil ?_
      refine eff_as (C' := (fun w' => ∃ s : In (fun W' => Blk W' gX 98 VC), w' = s.W)) rfl ?_
      (refine eff_lit rfl rfl (fun K hK => ?_))
      go_big_op
      obtain ⟨W_6, hvW_6⟩ : ∃ v, (W_4.alloc (.cells #[.int .i64 nb] 3)) = v := ⟨_, rfl⟩
      have hbW_6 : Below W_4.heap.size W_4 W_6 := by rw [← hvW_6]; exact (Below.refl _ _).alloc (Nat.le_refl _) _
      obtain ⟨gL, hggL⟩ : ∃ v, W_4.heap.size = v := ⟨_, rfl⟩
      have hkW_6 : Blk W_6 gL 3 #[.int .i64 nb] := by rw [← hvW_6]; exact Blk.mk_ _ _ _ _ hggL
      rw [hvW_6, hggL]
      have LI_7 := Lib.hid (hkW_6)
      have FB_7 := Lib.hid (below_call FB_5.out hbW_6 FB_5.out.size)
      clear FB_5
      have OUT_7 := Lib.hid (OUT_5.out.below hbW_6)
      clear OUT_5
      clear hkW_6 hvW_6 hggL hbW_6
      refine hK _ _ ⟨⟨_, HK1.out.below FB_7.out HLT.out⟩, rfl⟩ ?_
      clear hK K
      try simp only [opsAt, List.getElem?_toArray, List.getElem?_cons_succ, List.getElem?_cons_zero]
      refine wpQuiet_nil ?_
      refine eff_as (C' := (fun w' => ∃ s : In (fun W' => Blk W' gX 98 VC), w' = s.W)) rfl ?_
      (refine eff_lit rfl rfl (fun K hK => ?_))
      refine append_i_op (w := W_6) (.tmp 83) (.tmp 87) rfl w1.heap.size (some ⟨gqW_4, 0, none⟩) ((q + (intsN v.att).length)) cqW_4 (l ++ intsN v.att) rfl OUT_7.out (some ⟨gL, 0, none⟩) (1) 1 [(nb : Int)] rfl (reads_block LI_7.out 1 1 rfl) (by decide) (by have := HNQ.out; have := HLF.out.1; omega) (FB_7.out.size) ?_
      intro gqW_8 cqW_8 W_8 hoqW_8 hgqW_8 hbqW_8
      simp only [Act.put, List.setIfInBounds_toArray, List.set_cons_succ, List.set_cons_zero]
      have OUT_9 := Lib.hid (hoqW_8)
      have FB_9 := Lib.hid (FB_7.out.trans hbqW_8)
      clear FB_7
      clear hoqW_8 hgqW_8 hbqW_8
      refine hK _ _ ⟨⟨_, HK1.out.below FB_9.out HLT.out⟩, rfl⟩ ?_
      clear hK K
      try simp only [opsAt, List.getElem?_toArray, List.getElem?_cons_succ, List.getElem?_cons_zero]
      repeat (go_big_quiet_step (fail))
      refine wpQuiet_nil ?_
      refine effs_done ?_
      exact HKK.out _ _ _ _ _ _ _ _ _ _ gqW_8 _ cqW_8 _ ⟨OUT_9.out, FB_9.out⟩
    · refine eff_as (C' := (fun w' => ∃ s : In (fun W' => Blk W' gX 98 VC), w' = s.W)) rfl ?_
      (refine eff_lit rfl rfl (fun K hK => ?_))
      go_big_op
      obtain ⟨W_10, hvW_10⟩ : ∃ v, (W_2.alloc (.cells #[.int .i64 nb] 3)) = v := ⟨_, rfl⟩
      have hbW_10 : Below W_2.heap.size W_2 W_10 := by rw [← hvW_10]; exact (Below.refl _ _).alloc (Nat.le_refl _) _
      obtain ⟨gL, hggL⟩ : ∃ v, W_2.heap.size = v := ⟨_, rfl⟩
      have hkW_10 : Blk W_10 gL 3 #[.int .i64 nb] := by rw [← hvW_10]; exact Blk.mk_ _ _ _ _ hggL
      have HNgL : Hid (W.heap.size ≤ gL ∧ W.heap.size ≤ gL) := Lib.hid ⟨by rw [← hggL]; exact HBR_3.out.size, by rw [← hggL]; exact HBW_3.out.size⟩
      rw [hvW_10, hggL]
      have LI_11 := Lib.hid (hkW_10)
      have HBW_11 := Lib.hid (below_call HBW_3.out hbW_10 HBW_3.out.size)
      clear HBW_3
      have HBR_11 := Lib.hid (below_call HBR_3.out hbW_10 HBR_3.out.size)
      clear HBR_3
      have OUT_11 := Lib.hid (OUT_3.out.below hbW_10)
      clear OUT_3
      have FB_11 := Lib.hid (below_call FB_3.out hbW_10 FB_3.out.size)
      clear FB_3
      have LA_11 := Lib.hid (LA_3.out.below hbW_10)
      clear LA_3
      clear hkW_10 hvW_10 hggL hbW_10
      refine hK _ _ ⟨⟨_, HK1.out.below FB_11.out HLT.out⟩, rfl⟩ ?_
      clear hK K
      try simp only [opsAt, List.getElem?_toArray, List.getElem?_cons_succ, List.getElem?_cons_zero]
      refine wpQuiet_nil ?_
      refine eff_as (C' := (fun w' => ∃ s : In (fun W' => Blk W' gX 98 VC), w' = s.W)) rfl ?_
      (refine eff_lit rfl rfl (fun K hK => ?_))
      refine append_i_op (w := W_10) (.tmp 79) (.tmp 82) rfl w1.heap.size (some ⟨g, 0, none⟩) (q) c l rfl OUT_11.out (some ⟨gA1, 0, none⟩) ((intsN v.att).length) cA1 (intsN v.att) rfl LA_11.out.reads (HLF.out.2) (by have := HNQ.out; have := HLF.out.1; omega) (FB_11.out.size) ?_
      intro gqW_12 cqW_12 W_12 hoqW_12 hgqW_12 hbqW_12
      simp only [Act.put, List.setIfInBounds_toArray, List.set_cons_succ, List.set_cons_zero]
      have OUT_13 := Lib.hid (hoqW_12)
      have FB_13 := Lib.hid (FB_11.out.trans hbqW_12)
      clear FB_11
      have LI_13 := Lib.hid (LI_11.out.grown hgqW_12 (fun e => by have e : gL = g := Option.some.inj e; have := HNgL.out.1; have := HGL.out; omega))
      clear LI_11
      clear hoqW_12 hgqW_12 hbqW_12
      refine hK _ _ ⟨⟨_, HK1.out.below FB_13.out HLT.out⟩, rfl⟩ ?_
      clear hK K
      try simp only [opsAt, List.getElem?_toArray, List.getElem?_cons_succ, List.getElem?_cons_zero]
      refine wpQuiet_nil ?_
      refine eff_as (C' := (fun w' => ∃ s : In (fun W' => Blk W' gX 98 VC), w' = s.W)) rfl ?_
      (refine eff_lit rfl rfl (fun K hK => ?_))
      refine append_i_op (w := W_12) (.tmp 83) (.tmp 87) rfl w1.heap.size (some ⟨gqW_12, 0, none⟩) ((q + (intsN v.att).length)) cqW_12 (l ++ intsN v.att) rfl OUT_13.out (some ⟨gL, 0, none⟩) (1) 1 [(nb : Int)] rfl (reads_block LI_13.out 1 1 rfl) (by decide) (by have := HNQ.out; have := HLF.out.1; omega) (FB_13.out.size) ?_
      intro gqW_14 cqW_14 W_14 hoqW_14 hgqW_14 hbqW_14
      simp only [Act.put, List.setIfInBounds_toArray, List.set_cons_succ, List.set_cons_zero]
      have OUT_15 := Lib.hid (hoqW_14)
      have FB_15 := Lib.hid (FB_13.out.trans hbqW_14)
      clear FB_13
      clear hoqW_14 hgqW_14 hbqW_14
      refine hK _ _ ⟨⟨_, HK1.out.below FB_15.out HLT.out⟩, rfl⟩ ?_
      clear hK K
      try simp only [opsAt, List.getElem?_toArray, List.getElem?_cons_succ, List.getElem?_cons_zero]
      repeat (go_big_quiet_step (fail))
      refine wpQuiet_nil ?_
      refine effs_done ?_
      exact HKK.out _ _ _ _ _ _ _ _ _ _ gqW_14 _ cqW_14 _ ⟨OUT_15.out, FB_15.out⟩
  · refine eff_as (C' := (fun w' => ∃ s : In (fun W' => Blk W' gX 98 VC), w' = s.W)) rfl ?_
    (refine eff_lit rfl rfl (fun K hK => ?_))
    go_big_op
    obtain ⟨W_16, hvW_16⟩ : ∃ v, (W_d.alloc (.cells #[.int .i64 nb] 3)) = v := ⟨_, rfl⟩
    have hbW_16 : Below W_d.heap.size W_d W_16 := by rw [← hvW_16]; exact (Below.refl _ _).alloc (Nat.le_refl _) _
    obtain ⟨gL, hggL⟩ : ∃ v, W_d.heap.size = v := ⟨_, rfl⟩
    have hkW_16 : Blk W_16 gL 3 #[.int .i64 nb] := by rw [← hvW_16]; exact Blk.mk_ _ _ _ _ hggL
    have HNgL : Hid (W.heap.size ≤ gL ∧ W.heap.size ≤ gL) := Lib.hid ⟨by rw [← hggL]; exact HBR_1.out.size, by rw [← hggL]; exact HBW_1.out.size⟩
    rw [hvW_16, hggL]
    have LI_17 := Lib.hid (hkW_16)
    have HBW_17 := Lib.hid (below_call HBW_1.out hbW_16 HBW_1.out.size)
    clear HBW_1
    have HBR_17 := Lib.hid (below_call HBR_1.out hbW_16 HBR_1.out.size)
    clear HBR_1
    have OUT_17 := Lib.hid (OUT_1.out.below hbW_16)
    clear OUT_1
    have FB_17 := Lib.hid (below_call FB_1.out hbW_16 FB_1.out.size)
    clear FB_1
    clear hkW_16 hvW_16 hggL hbW_16
    refine hK _ _ ⟨⟨_, HK1.out.below FB_17.out HLT.out⟩, rfl⟩ ?_
    clear hK K
    try simp only [opsAt, List.getElem?_toArray, List.getElem?_cons_succ, List.getElem?_cons_zero]
    refine wpQuiet_nil ?_
    refine eff_as (C' := (fun w' => ∃ s : In (fun W' => Blk W' gX 98 VC), w' = s.W)) rfl ?_
    (refine eff_lit rfl rfl (fun K hK => ?_))
    go_big_op
    refine (rfints_any pm.AT.A v.att.length pm.AT.c v.att W_16 (HF.out.row.below FB_17.out) HF.out.ok.2.1 (by have := HL5.out; omega)).mono ?_
    rintro e W_18 ⟨gA1, cA1, rfl, hxA1, hbW_18⟩
    have LA_19 := Lib.hid (hxA1)
    have HBW_19 := Lib.hid (below_call HBW_17.out hbW_18 HBW_17.out.size)
    clear HBW_17
    have HBR_19 := Lib.hid (below_call HBR_17.out hbW_18 HBR_17.out.size)
    clear HBR_17
    have OUT_19 := Lib.hid (OUT_17.out.below hbW_18)
    clear OUT_17
    have FB_19 := Lib.hid (below_call FB_17.out hbW_18 FB_17.out.size)
    clear FB_17
    have LI_19 := Lib.hid (LI_17.out.call hbW_18)
    clear LI_17
    clear hbW_18
    clear hxA1
    refine hK _ _ ⟨⟨_, HK1.out.below FB_19.out HLT.out⟩, rfl⟩ ?_
    clear hK K
    try simp only [opsAt, List.getElem?_toArray, List.getElem?_cons_succ, List.getElem?_cons_zero]
    refine wpQuiet_nil ?_
    refine eff_as (C' := (fun w' => ∃ s : In (fun W' => Blk W' gX 98 VC), w' = s.W)) rfl ?_
    (refine eff_lit rfl rfl (fun K hK => ?_))
    refine append_i_op (w := W_18) (.tmp 79) (.tmp 82) rfl w1.heap.size (some ⟨g, 0, none⟩) (q) c l rfl OUT_19.out (some ⟨gA1, 0, none⟩) ((intsN v.att).length) cA1 (intsN v.att) rfl LA_19.out.reads (HLF.out.2) (by have := HNQ.out; have := HLF.out.1; omega) (FB_19.out.size) ?_
    intro gqW_20 cqW_20 W_20 hoqW_20 hgqW_20 hbqW_20
    simp only [Act.put, List.setIfInBounds_toArray, List.set_cons_succ, List.set_cons_zero]
    have OUT_21 := Lib.hid (hoqW_20)
    have FB_21 := Lib.hid (FB_19.out.trans hbqW_20)
    clear FB_19
    have LI_21 := Lib.hid (LI_19.out.grown hgqW_20 (fun e => by have e : gL = g := Option.some.inj e; have := HNgL.out.1; have := HGL.out; omega))
    clear LI_19
    clear hoqW_20 hgqW_20 hbqW_20
    refine hK _ _ ⟨⟨_, HK1.out.below FB_21.out HLT.out⟩, rfl⟩ ?_
    clear hK K
    try simp only [opsAt, List.getElem?_toArray, List.getElem?_cons_succ, List.getElem?_cons_zero]
    refine wpQuiet_nil ?_
    refine eff_as (C' := (fun w' => ∃ s : In (fun W' => Blk W' gX 98 VC), w' = s.W)) rfl ?_
    (refine eff_lit rfl rfl (fun K hK => ?_))
    refine append_i_op (w := W_20) (.tmp 83) (.tmp 87) rfl w1.heap.size (some ⟨gqW_20, 0, none⟩) ((q + (intsN v.att).length)) cqW_20 (l ++ intsN v.att) rfl OUT_21.out (some ⟨gL, 0, none⟩) (1) 1 [(nb : Int)] rfl (reads_block LI_21.out 1 1 rfl) (by decide) (by have := HNQ.out; have := HLF.out.1; omega) (FB_21.out.size) ?_
    intro gqW_22 cqW_22 W_22 hoqW_22 hgqW_22 hbqW_22
    simp only [Act.put, List.setIfInBounds_toArray, List.set_cons_succ, List.set_cons_zero]
    have OUT_23 := Lib.hid (hoqW_22)
    have FB_23 := Lib.hid (FB_21.out.trans hbqW_22)
    clear FB_21
    clear hoqW_22 hgqW_22 hbqW_22
    refine hK _ _ ⟨⟨_, HK1.out.below FB_23.out HLT.out⟩, rfl⟩ ?_
    clear hK K
    try simp only [opsAt, List.getElem?_toArray, List.getElem?_cons_succ, List.getElem?_cons_zero]
    repeat (go_big_quiet_step (fail))
    refine wpQuiet_nil ?_
    refine effs_done ?_
    exact HKK.out _ _ _ _ _ _ _ _ _ _ gqW_22 _ cqW_22 _ ⟨OUT_23.out, FB_23.out⟩

set_option maxRecDepth 100000 in
set_option maxHeartbeats 3200000 in
theorem rfl_r15 (w1 W : World) (g q c : Nat) (l : List Int) (hX : XOwns W w1.heap.size 3 1 (some ⟨g, 0, none⟩) q c (ics l)) (hB : Below w1.heap.size w1 W) (hn : q ≤ 800000) (gX : Nat) (VC : Array Value) (h1 : Blk w1 gX 98 VC) (nb Kc j : Nat) (ad : Addr) (x : Bk) (hc33 : VC[33]? = some (.slice (some ad) nb Kc)) (hadl : ad.block < w1.heap.size) (hc0 : w1.cell? (ad.add (j * 2)) = some (.int .i64 x.b)) (hc1 : w1.cell? ⟨(ad.add (j * 2)).block, (ad.add (j * 2)).off + 1, none⟩ = some (.int .i64 x.a)) (hjn : (j : Int) < nb) (Q : Exit → Act → World → Prop) (t0 t2 t4 t5 t7 t8 t9 t10 t11 t12 t13 t14 t15 t16 t17 t18 t19 t20 t21 t22 t23 t24 t25 t26 t27 t28 t29 t30 t31 t32 t33 t34 t35 t36 t37 t38 t39 t40 t41 t42 t43 t44 t45 t46 t47 t48 t49 t50 t51 t52 t53 t54 t55 t56 t57 t58 t59 t60 t61 t62 t63 t64 t65 t66 t67 t68 t69 t70 t71 t72 t73 t74 t75 t76 t77 t78 t79 t80 t81 t82 t83 t84 t85 t86 t87 t88 t89 t90 t91 t92 t93 t94 t95 t96 t97 t98 t99 t100 t101 t102 t103 t104 t105 t106 t107 t108 t109 t110 t111 t112 t113 t114 t115 t116 t117 t118 t119 t120 t121 t122 t123 t124 t125 t126 t127 t128 t129 t130 t131 t132 t133 t134 t135 t136 t137 t138 t139 t140 t141 t142 t143 t144 t145 t146 t147 t148 t149 t150 t151 t152 t153 t154 t155 t156 t157 t158 t159 t160 t161 : Value)
    (hQ : ∀ d v c a w, Q (.panic c) (Act.put a d v) w → Q (.panic c) a w)
    (hK : ∀ (u96 u97 u98 u99 u100 u101 u102 u103 u104 u105 u106 u107 u108 u109 u110 : Value) (g9 q9 c9 : Nat) (W9 : World), XOwns W9 w1.heap.size 3 1 (some ⟨g9, 0, none⟩) q9 c9 (ics (l ++ bkN x)) ∧ Below w1.heap.size w1 W9 → Q .normal ⟨#[t0, .pointer (some ⟨gX, 0, none⟩), t2, .slice (some ⟨g9, 0, none⟩) q9 c9, t4, t5, .int .i64 j, t7, t8, t9, t10, t11, t12, t13, t14, t15, t16, t17, t18, t19, t20, t21, t22, t23, t24, t25, t26, t27, t28, t29, t30, t31, t32, t33, t34, t35, t36, t37, t38, t39, t40, t41, t42, t43, t44, t45, t46, t47, t48, t49, t50, t51, t52, t53, t54, t55, t56, t57, t58, t59, t60, t61, t62, t63, t64, t65, t66, t67, t68, t69, t70, t71, t72, t73, t74, t75, t76, t77, t78, t79, t80, t81, t82, t83, t84, t85, t86, t87, t88, t89, t90, t91, t92, t93, t94, t95, u96, u97, u98, u99, u100, u101, u102, u103, u104, u105, u106, u107, u108, u109, u110, t111, t112, t113, t114, t115, t116, t117, t118, t119, t120, t121, t122, t123, t124, t125, t126, t127, t128, t129, t130, t131, t132, t133, t134, t135, t136, t137, t138, t139, t140, t141, t142, t143, t144, t145, t146, t147, t148, t149, t150, t151, t152, t153, t154, t155, t156, t157, t158, t159, t160, t161], []⟩ W9) :
    Code.wp Tryz.prog (regOf Tryz.f74 15) Q ⟨#[t0, .pointer (some ⟨gX, 0, none⟩), t2, .slice (some ⟨g, 0, none⟩) q c, t4, t5, .int .i64 j, t7, t8, t9, t10, t11, t12, t13, t14, t15, t16, t17, t18, t19, t20, t21, t22, t23, t24, t25, t26, t27, t28, t29, t30, t31, t32, t33, t34, t35, t36, t37, t38, t39, t40, t41, t42, t43, t44, t45, t46, t47, t48, t49, t50, t51, t52, t53, t54, t55, t56, t57, t58, t59, t60, t61, t62, t63, t64, t65, t66, t67, t68, t69, t70, t71, t72, t73, t74, t75, t76, t77, t78, t79, t80, t81, t82, t83, t84, t85, t86, t87, t88, t89, t90, t91, t92, t93, t94, t95, t96, t97, t98, t99, t100, t101, t102, t103, t104, t105, t106, t107, t108, t109, t110, t111, t112, t113, t114, t115, t116, t117, t118, t119, t120, t121, t122, t123, t124, t125, t126, t127, t128, t129, t130, t131, t132, t133, t134, t135, t136, t137, t138, t139, t140, t141, t142, t143, t144, t145, t146, t147, t148, t149, t150, t151, t152, t153, t154, t155, t156, t157, t158, t159, t160, t161], []⟩ W := by
  have HKK := Lib.hid hK
  clear hK
  conv => arg 2; whnf
  have HT : Hid (∀ W', Below w1.heap.size w1 W' → Blk W' gX 98 VC ∧ W'.cell? (ad.add (j * 2)) = some (.int .i64 x.b) ∧ W'.cell? ⟨(ad.add (j * 2)).block, (ad.add (j * 2)).off + 1, none⟩ = some (.int .i64 x.a)) := Lib.hid (fun W' hb => ⟨h1.below hb h1.lt, (hb.cell (p := ad.add (j * 2)) (by rw [ablk]; exact hadl)).trans hc0, (hb.cell (p := ⟨(ad.add (j * 2)).block, (ad.add (j * 2)).off + 1, none⟩) (by show (ad.add (j * 2)).block < _; rw [ablk]; exact hadl)).trans hc1⟩)
  have HQ := Lib.hid hQ
  have HXO := Lib.hid hX
  have HB := Lib.hid hB
  have HNQ := Lib.hid hn
  have hne_ : Nonempty (In (fun W' => Blk W' gX 98 VC ∧ W'.cell? (ad.add (j * 2)) = some (.int .i64 x.b) ∧ W'.cell? ⟨(ad.add (j * 2)).block, (ad.add (j * 2)).off + 1, none⟩ = some (.int .i64 x.a))) := ⟨⟨W, HT.out _ hB⟩⟩
  have x33 : ∀ s : In (fun W' => Blk W' gX 98 VC ∧ W'.cell? (ad.add (j * 2)) = some (.int .i64 x.b) ∧ W'.cell? ⟨(ad.add (j * 2)).block, (ad.add (j * 2)).off + 1, none⟩ = some (.int .i64 x.a)), s.W.cell? ⟨gX, 33, none⟩ = some (.slice (some ad) nb Kc) := fun s => (s.h.1.at_ 33).trans hc33
  have y0 : ∀ s : In (fun W' => Blk W' gX 98 VC ∧ W'.cell? (ad.add (j * 2)) = some (.int .i64 x.b) ∧ W'.cell? ⟨(ad.add (j * 2)).block, (ad.add (j * 2)).off + 1, none⟩ = some (.int .i64 x.a)), s.W.cell? (ad.add (j * 2)) = some (.int .i64 x.b) := fun s => s.h.2.1
  have y1 : ∀ s : In (fun W' => Blk W' gX 98 VC ∧ W'.cell? (ad.add (j * 2)) = some (.int .i64 x.b) ∧ W'.cell? ⟨(ad.add (j * 2)).block, (ad.add (j * 2)).off + 1, none⟩ = some (.int .i64 x.a)), s.W.cell? ⟨(ad.add (j * 2)).block, (ad.add (j * 2)).off + 1, none⟩ = some (.int .i64 x.a) := fun s => s.h.2.2
  clear h1 hX hB hQ hn hc0 hc1 hadl hc33
  refine wp_region_sched (fun w' => ∃ s : In (fun W' => Blk W' gX 98 VC ∧ W'.cell? (ad.add (j * 2)) = some (.int .i64 x.b) ∧ W'.cell? ⟨(ad.add (j * 2)).block, (ad.add (j * 2)).off + 1, none⟩ = some (.int .i64 x.a)), w' = s.W) [0,1,2,3,4,5,6,7,8,9,10,11,12] (.one 13 [] (.one 14 [15] .done)) (by kernel_rfl) (by kernel_rfl) HQ.out ⟨⟨_, HT.out _ HB.out.drew⟩, rfl⟩ ?_
  refine quiet_as (C' := (fun w' => ∃ s : In (fun W' => Blk W' gX 98 VC ∧ W'.cell? (ad.add (j * 2)) = some (.int .i64 x.b) ∧ W'.cell? ⟨(ad.add (j * 2)).block, (ad.add (j * 2)).off + 1, none⟩ = some (.int .i64 x.a)), w' = s.W)) rfl ?_
  simp only [opsAt, List.getElem?_toArray, List.getElem?_cons_succ, List.getElem?_cons_zero]
  repeat (go_big_quiet_step (fail))
  refine wpQuiet_nil ?_
  obtain ⟨W_d, hwd⟩ : ∃ v, W.drew = v := ⟨_, rfl⟩
  have HBW_1 : Hid (Below W.heap.size W W_d) := Lib.hid (by rw [← hwd]; exact (Below.refl _ _).drew)
  have HBR_1 : Hid (Below W.heap.size W W_d) := Lib.hid (by rw [← hwd]; exact (Below.refl _ _).drew)
  have OUT_1 := Lib.hid ((HXO.out).below (show Below W.heap.size W W_d by rw [← hwd]; exact (Below.refl _ _).drew))
  have FB_1 := Lib.hid (below_call (HB.out) (show Below W.heap.size W W_d by rw [← hwd]; exact (Below.refl _ _).drew) (HB.out).size)
  rw [hwd]
  clear hwd
  refine eff_as (C' := (fun w' => ∃ s : In (fun W' => Blk W' gX 98 VC ∧ W'.cell? (ad.add (j * 2)) = some (.int .i64 x.b) ∧ W'.cell? ⟨(ad.add (j * 2)).block, (ad.add (j * 2)).off + 1, none⟩ = some (.int .i64 x.a)), w' = s.W)) rfl ?_
  (refine eff_lit rfl rfl (fun K hK => ?_))
  go_big_op
  obtain ⟨W_2, hvW_2⟩ : ∃ v, (W_d.alloc (.cells #[.int .i64 x.b, .int .i64 x.a] 3)) = v := ⟨_, rfl⟩
  have hbW_2 : Below W_d.heap.size W_d W_2 := by rw [← hvW_2]; exact (Below.refl _ _).alloc (Nat.le_refl _) _
  obtain ⟨gL, hggL⟩ : ∃ v, W_d.heap.size = v := ⟨_, rfl⟩
  have hkW_2 : Blk W_2 gL 3 #[.int .i64 x.b, .int .i64 x.a] := by rw [← hvW_2]; exact Blk.mk_ _ _ _ _ hggL
  have HNgL : Hid (W.heap.size ≤ gL ∧ W.heap.size ≤ gL) := Lib.hid ⟨by rw [← hggL]; exact HBR_1.out.size, by rw [← hggL]; exact HBW_1.out.size⟩
  rw [hvW_2, hggL]
  have LI_3 := Lib.hid (hkW_2)
  have HBW_3 := Lib.hid (below_call HBW_1.out hbW_2 HBW_1.out.size)
  clear HBW_1
  have HBR_3 := Lib.hid (below_call HBR_1.out hbW_2 HBR_1.out.size)
  clear HBR_1
  have OUT_3 := Lib.hid (OUT_1.out.below hbW_2)
  clear OUT_1
  have FB_3 := Lib.hid (below_call FB_1.out hbW_2 FB_1.out.size)
  clear FB_1
  clear hkW_2 hvW_2 hggL hbW_2
  refine hK _ _ ⟨⟨_, HT.out _ FB_3.out⟩, rfl⟩ ?_
  clear hK K
  try simp only [opsAt, List.getElem?_toArray, List.getElem?_cons_succ, List.getElem?_cons_zero]
  refine wpQuiet_nil ?_
  refine eff_as (C' := (fun w' => ∃ s : In (fun W' => Blk W' gX 98 VC ∧ W'.cell? (ad.add (j * 2)) = some (.int .i64 x.b) ∧ W'.cell? ⟨(ad.add (j * 2)).block, (ad.add (j * 2)).off + 1, none⟩ = some (.int .i64 x.a)), w' = s.W)) rfl ?_
  (refine eff_lit rfl rfl (fun K hK => ?_))
  refine append_i_op (w := W_2) (.tmp 96) (.tmp 109) rfl w1.heap.size (some ⟨g, 0, none⟩) (q) c l rfl OUT_3.out (some ⟨gL, 0, none⟩) (2) 2 (bkN x) rfl (reads_block LI_3.out 1 2 rfl) (by decide) (by have := HNQ.out; omega) (FB_3.out.size) ?_
  intro gqW_4 cqW_4 W_4 hoqW_4 hgqW_4 hbqW_4
  simp only [Act.put, List.setIfInBounds_toArray, List.set_cons_succ, List.set_cons_zero]
  have OUT_5 := Lib.hid (hoqW_4)
  have FB_5 := Lib.hid (FB_3.out.trans hbqW_4)
  clear FB_3
  clear hoqW_4 hgqW_4 hbqW_4
  refine hK _ _ ⟨⟨_, HT.out _ FB_5.out⟩, rfl⟩ ?_
  clear hK K
  try simp only [opsAt, List.getElem?_toArray, List.getElem?_cons_succ, List.getElem?_cons_zero]
  repeat (go_big_quiet_step (fail))
  refine wpQuiet_nil ?_
  refine effs_done ?_
  exact HKK.out _ _ _ _ _ _ _ _ _ _ _ _ _ _ _ gqW_4 _ cqW_4 _ ⟨OUT_5.out, FB_5.out⟩

end Go.Proofs.YtagpphelgghbpaaGreat
