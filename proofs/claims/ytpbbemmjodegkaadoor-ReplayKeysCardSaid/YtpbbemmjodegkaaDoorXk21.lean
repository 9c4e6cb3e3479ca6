/-
  Texts: Ku, Kept, Rep.
-/
import Derived.Test.YtpbbemmjodegkaaDoorXk19
import Derived.Test.YtpbbemmjodegkaaDoorXk15
import Derived.Test.YtpbbemmjodegkaaDoorXk1
import Derived.Deep.DeepCutAuto
import Derived.Test.YtpbbemmjodegkaaDoorXk16
import Derived.Test.YtpbbemmjodegkaaDoorXk10
import Derived.Test.YtpbbemmjodegkaaDoorXk3
import Derived.Test.YtpbbemmjodegkaaDoorXk2
set_option linter.unusedSimpArgs false
set_option linter.unusedVariables false
namespace Go.Proofs.YtpbbemmjodegkaaDoor
open Go.RowKit

set_option maxRecDepth 100000 in
set_option maxHeartbeats 3200000 in
theorem rk8_0 (W : World) (B gS : Nat) (V0 V2 V3 : Value) (A A1 : Option Addr) (n c n1 x1 : Nat) (xs d : List Int) (hP : Blk W gS 29 #[V0, .slice A1 n1 x1, V2, V3]) (hg : gS < B) (hO : XOwns W B 3 1 A n c (ics xs)) (hR : Reads W 1 A1 n1 (ics d)) (hA : A1 = none → x1 = 0) (hl : ∀ g, blkOf A1 = some g → 0 < n1 → g < B) (hBW : B ≤ W.heap.size) (hn : n + n1 ≤ 1000) (Q : Exit → Act → World → Prop) (t0 t1 t2 t4 t5 t6 t9 t10 t11 t12 t13 t14 t15 t16 t17 t18 t19 t20 t21 t22 t23 t24 t25 t26 t27 t28 t29 t30 t31 t32 t33 t34 t35 t36 t37 t38 t39 t40 t41 t42 t43 t44 t45 t46 t47 t48 t49 t50 t51 t52 t53 t54 t55 t56 t57 t58 t59 t60 t61 t62 t63 t64 t65 t66 t67 t68 t69 t70 t71 t72 t73 t74 t75 t76 t77 t78 t79 t80 t81 t82 t83 t84 t85 t86 t87 t88 t89 t90 t91 t92 t93 t94 t95 t96 t97 t98 t99 t100 t101 t102 t103 t104 t105 t106 t107 t108 t109 t110 t111 t112 t113 t114 t115 t116 t117 t118 t119 t120 t121 t122 t123 t124 t125 t126 t127 t128 t129 t130 t131 t132 t133 t134 t135 t136 t137 t138 t139 t140 t141 t142 t143 t144 t145 t146 t147 t148 t149 t150 t151 t152 t153 t154 t155 t156 t157 t158 t159 t160 t161 t162 t163 t164 : Value)
    (hQ : ∀ d v c a w, Q (.panic c) (Act.put a d v) w → Q (.panic c) a w)
    (hK : ∀ (u63 u64 u65 u66 u67 u68 u69 u70 u71 u72 u73 u74 u75 : Value) (A9 : Option Addr) (c9 : Nat) (W9 : World), XOwns W9 B 3 1 A9 (n + 1 + n1) c9 (ics (xs ++ ((n1 : Int) :: d))) → Below B W W9 → Q .normal ⟨#[t0, t1, t2, .pointer (some ⟨gS, 0, none⟩), t4, t5, t6, .slice A9 (n + 1 + n1) c9, .int .i64 0, t9, t10, t11, t12, t13, t14, t15, t16, t17, t18, t19, t20, t21, t22, t23, t24, t25, t26, t27, t28, t29, t30, t31, t32, t33, t34, t35, t36, t37, t38, t39, t40, t41, t42, t43, t44, t45, t46, t47, t48, t49, t50, t51, t52, t53, t54, t55, t56, t57, t58, t59, t60, t61, t62, u63, u64, u65, u66, u67, u68, u69, u70, u71, u72, u73, u74, u75, t76, t77, t78, t79, t80, t81, t82, t83, t84, t85, t86, t87, t88, t89, t90, t91, t92, t93, t94, t95, t96, t97, t98, t99, t100, t101, t102, t103, t104, t105, t106, t107, t108, t109, t110, t111, t112, t113, t114, t115, t116, t117, t118, t119, t120, t121, t122, t123, t124, t125, t126, t127, t128, t129, t130, t131, t132, t133, t134, t135, t136, t137, t138, t139, t140, t141, t142, t143, t144, t145, t146, t147, t148, t149, t150, t151, t152, t153, t154, t155, t156, t157, t158, t159, t160, t161, t162, t163, t164], []⟩ W9) :
    Code.wp Tryd.prog (regOf Tryd.f3 8) Q ⟨#[t0, t1, t2, .pointer (some ⟨gS, 0, none⟩), t4, t5, t6, .slice A n c, .int .i64 0, t9, t10, t11, t12, t13, t14, t15, t16, t17, t18, t19, t20, t21, t22, t23, t24, t25, t26, t27, t28, t29, t30, t31, t32, t33, t34, t35, t36, t37, t38, t39, t40, t41, t42, t43, t44, t45, t46, t47, t48, t49, t50, t51, t52, t53, t54, t55, t56, t57, t58, t59, t60, t61, t62, t63, t64, t65, t66, t67, t68, t69, t70, t71, t72, t73, t74, t75, t76, t77, t78, t79, t80, t81, t82, t83, t84, t85, t86, t87, t88, t89, t90, t91, t92, t93, t94, t95, t96, t97, t98, t99, t100, t101, t102, t103, t104, t105, t106, t107, t108, t109, t110, t111, t112, t113, t114, t115, t116, t117, t118, t119, t120, t121, t122, t123, t124, t125, t126, t127, t128, t129, t130, t131, t132, t133, t134, t135, t136, t137, t138, t139, t140, t141, t142, t143, t144, t145, t146, t147, t148, t149, t150, t151, t152, t153, t154, t155, t156, t157, t158, t159, t160, t161, t162, t163, t164], []⟩ W := by
  have HKK := Lib.hid hK
  clear hK
  conv => arg 2; whnf
  have HP := Lib.hid hP
  have HG := Lib.hid hg
  have HO := Lib.hid hO
  have HR := Lib.hid hR
  have HA := Lib.hid hA
  have HL := Lib.hid hl
  have HBB := Lib.hid hBW
  have HN := Lib.hid hn
  have HQ := Lib.hid hQ
  have hne_ : Nonempty (In (fun W' => Blk W' gS 29 #[V0, .slice A1 n1 x1, V2, V3])) := ⟨⟨W, hP⟩⟩
  have x12 : ∀ s : In (fun W' => Blk W' gS 29 #[V0, .slice A1 n1 x1, V2, V3]), s.W.cell? ⟨gS, 1, none⟩ = some (.slice A1 n1 x1) := fun s => (s.h.at_ 1).trans rfl
  have hgl := hP.lt
  clear hP hg hO hR hA hl hBW hn hQ
  refine wp_region_sched (fun w' => ∃ s : In (fun W' => Blk W' gS 29 #[V0, .slice A1 n1 x1, V2, V3]), w' = s.W) [0,1,2,3,4,5,8,9,10,11] (.one 6 [] (.one 7 [] (.one 12 [13] .done))) (by kernel_rfl) (by kernel_rfl) HQ.out ⟨⟨_, HP.out.drew⟩, rfl⟩ ?_
  refine quiet_as (C' := (fun w' => ∃ s : In (fun W' => Blk W' gS 29 #[V0, .slice A1 n1 x1, V2, V3]), w' = s.W)) rfl ?_
  simp only [opsAt, List.getElem?_toArray, List.getElem?_cons_succ, List.getElem?_cons_zero]
  repeat (go_big_quiet_step (fail))
  refine wpQuiet_nil ?_
  obtain ⟨W1, hwd⟩ : ∃ v, W.drew = v := ⟨_, rfl⟩
  have hb1 : Below W.heap.size W W1 := by rw [← hwd]; exact (Below.refl _ _).drew
  have FP1 := Lib.hid (HP.out.call hb1)
  have FO1 := Lib.hid (HO.out.below hb1)
  have FR1 := Lib.hid (HR.out.below hb1)
  have FB1 : Hid (Below B W W1) := Lib.hid (hb1.mono HBB.out)
  rw [hwd]
  clear hwd
  refine eff_as (C' := (fun w' => ∃ s : In (fun W' => Blk W' gS 29 #[V0, .slice A1 n1 x1, V2, V3]), w' = s.W)) rfl ?_
  (refine eff_lit rfl rfl (fun K hK => ?_))
  go_big_op
  obtain ⟨W2, hv2⟩ : ∃ v, W1.alloc (.cells #[.int .i64 (n1 : Int)] 3) = v := ⟨_, rfl⟩
  have hb2 : Below W1.heap.size W1 W2 := by rw [← hv2]; exact (Below.refl _ _).alloc (Nat.le_refl _) _
  obtain ⟨gL, hgL⟩ : ∃ v, W1.heap.size = v := ⟨_, rfl⟩
  have hk2 : Blk W2 gL 3 #[.int .i64 (n1 : Int)] := by rw [← hv2]; exact Blk.mk_ _ _ _ _ hgL
  rw [hv2, hgL]
  have FP2 := Lib.hid (FP1.out.call hb2)
  have FO2 := Lib.hid (FO1.out.below hb2)
  have FR2 := Lib.hid (FR1.out.below hb2)
  have FB2 : Hid (Below B W W2) := Lib.hid (below_call FB1.out hb2 (Nat.le_trans HBB.out hb1.size))
  have FZ2 : Hid (B ≤ W2.heap.size) := Lib.hid (Nat.le_trans HBB.out (Nat.le_trans hb1.size hb2.size))
  have FL2 := Lib.hid hk2
  clear hv2 hb1 hb2 hgL hk2
  refine hK _ _ ⟨⟨_, FP2.out⟩, rfl⟩ ?_
  clear hK K
  try simp only [opsAt, List.getElem?_toArray, List.getElem?_cons_succ, List.getElem?_cons_zero]
  refine wpQuiet_nil ?_
  refine eff_as (C' := (fun w' => ∃ s : In (fun W' => Blk W' gS 29 #[V0, .slice A1 n1 x1, V2, V3]), w' = s.W)) rfl ?_
  (refine eff_lit rfl rfl (fun K hK => ?_))
  refine append_xr_op (w := W2) (.tmp 63) (.tmp 69) 25 rfl B 3 _ 1 8 tinfo_int Tryd.underlying25 rfl (by decide) A n c (ics xs) rfl FO2.out (some ⟨gL, 0, none⟩) 1 1 (ics [(n1 : Int)]) rfl (fun h => by cases h) (reads_block FL2.out 1 1 rfl) (ics_one _) (by have := HN.out; omega) (by have := HN.out; omega) FZ2.out ?_
  intro A3 c3 W3 ho3 hb3
  simp only [Act.put, List.setIfInBounds_toArray, List.set_cons_succ, List.set_cons_zero]
  have FP3 := Lib.hid (FP2.out.below hb3 HG.out)
  have FO3 := Lib.hid ho3
  have FB3 : Hid (Below B W W3) := Lib.hid (FB2.out.trans hb3)
  have FR3 : Hid (Reads W3 1 A1 n1 (ics d)) := Lib.hid ⟨HR.out.1, fun h0 => by
    obtain ⟨ad, e, hbl, hc⟩ := HR.out.2 h0
    have hlt := HL.out ad.block (by rw [e]; rfl) h0
    exact ⟨ad, e, Nat.lt_of_lt_of_le hbl FB3.out.size, fun j u hu => (FB3.out.cell (by rw [block_of_add]; exact hlt)).trans (hc j u hu)⟩⟩
  have FZ3 : Hid (B ≤ W3.heap.size) := Lib.hid (Nat.le_trans FZ2.out hb3.size)
  clear ho3 hb3
  refine hK _ _ ⟨⟨_, FP3.out⟩, rfl⟩ ?_
  clear hK K
  try simp only [opsAt, List.getElem?_toArray, List.getElem?_cons_succ, List.getElem?_cons_zero]
  refine wpQuiet_nil ?_
  refine eff_as (C' := (fun w' => ∃ s : In (fun W' => Blk W' gS 29 #[V0, .slice A1 n1 x1, V2, V3]), w' = s.W)) rfl ?_
  (refine eff_lit rfl rfl (fun K hK => ?_))
  refine append_xr_op (w := W3) (.tmp 70) (.tmp 74) 25 rfl B 3 _ 1 8 tinfo_int Tryd.underlying25 rfl (by decide) A3 (n + 1) c3 (ics xs ++ ics [(n1 : Int)]) rfl FO3.out A1 n1 x1 (ics d) rfl HA.out FR3.out (ics_one _) (by have := HN.out; omega) (by have := HN.out; omega) FZ3.out ?_
  intro A4 c4 W4 ho4 hb4
  simp only [Act.put, List.setIfInBounds_toArray, List.set_cons_succ, List.set_cons_zero]
  have FP4 := Lib.hid (FP3.out.below hb4 HG.out)
  have FO4 : Hid (XOwns W4 B 3 1 A4 (n + 1 + n1) c4 (ics (xs ++ ((n1 : Int) :: d)))) := Lib.hid (by
    rw [show ics xs ++ ics [(n1 : Int)] ++ ics d = ics (xs ++ ((n1 : Int) :: d)) by simp [ics]] at ho4
    exact ho4)
  have FB4 : Hid (Below B W W4) := Lib.hid (FB3.out.trans hb4)
  clear ho4 hb4
  refine hK _ _ ⟨⟨_, FP4.out⟩, rfl⟩ ?_
  clear hK K
  try simp only [opsAt, List.getElem?_toArray, List.getElem?_cons_succ, List.getElem?_cons_zero]
  repeat (go_big_quiet_step (fail))
  refine wpQuiet_nil ?_
  refine effs_done ?_
  try simp only [Act.put, List.setIfInBounds_toArray, List.set_cons_succ, List.set_cons_zero]
  exact HKK.out _ _ _ _ _ _ _ _ _ _ _ _ _ _ _ _ FO4.out FB4.out

set_option maxRecDepth 100000 in
set_option maxHeartbeats 3200000 in
theorem rk8_1 (W : World) (B gS : Nat) (V0 V1 V3 : Value) (A A1 : Option Addr) (n c n1 x1 : Nat) (xs d : List Int) (hP : Blk W gS 29 #[V0, V1, .slice A1 n1 x1, V3]) (hg : gS < B) (hO : XOwns W B 3 1 A n c (ics xs)) (hR : Reads W 1 A1 n1 (ics d)) (hA : A1 = none → x1 = 0) (hl : ∀ g, blkOf A1 = some g → 0 < n1 → g < B) (hBW : B ≤ W.heap.size) (hn : n + n1 ≤ 1000) (Q : Exit → Act → World → Prop) (t0 t1 t2 t4 t5 t6 t9 t10 t11 t12 t13 t14 t15 t16 t17 t18 t19 t20 t21 t22 t23 t24 t25 t26 t27 t28 t29 t30 t31 t32 t33 t34 t35 t36 t37 t38 t39 t40 t41 t42 t43 t44 t45 t46 t47 t48 t49 t50 t51 t52 t53 t54 t55 t56 t57 t58 t59 t60 t61 t62 t63 t64 t65 t66 t67 t68 t69 t70 t71 t72 t73 t74 t75 t76 t77 t78 t79 t80 t81 t82 t83 t84 t85 t86 t87 t88 t89 t90 t91 t92 t93 t94 t95 t96 t97 t98 t99 t100 t101 t102 t103 t104 t105 t106 t107 t108 t109 t110 t111 t112 t113 t114 t115 t116 t117 t118 t119 t120 t121 t122 t123 t124 t125 t126 t127 t128 t129 t130 t131 t132 t133 t134 t135 t136 t137 t138 t139 t140 t141 t142 t143 t144 t145 t146 t147 t148 t149 t150 t151 t152 t153 t154 t155 t156 t157 t158 t159 t160 t161 t162 t163 t164 : Value)
    (hQ : ∀ d v c a w, Q (.panic c) (Act.put a d v) w → Q (.panic c) a w)
    (hK : ∀ (u63 u64 u65 u66 u67 u68 u69 u70 u71 u72 u73 u74 u75 : Value) (A9 : Option Addr) (c9 : Nat) (W9 : World), XOwns W9 B 3 1 A9 (n + 1 + n1) c9 (ics (xs ++ ((n1 : Int) :: d))) → Below B W W9 → Q .normal ⟨#[t0, t1, t2, .pointer (some ⟨gS, 0, none⟩), t4, t5, t6, .slice A9 (n + 1 + n1) c9, .int .i64 1, t9, t10, t11, t12, t13, t14, t15, t16, t17, t18, t19, t20, t21, t22, t23, t24, t25, t26, t27, t28, t29, t30, t31, t32, t33, t34, t35, t36, t37, t38, t39, t40, t41, t42, t43, t44, t45, t46, t47, t48, t49, t50, t51, t52, t53, t54, t55, t56, t57, t58, t59, t60, t61, t62, u63, u64, u65, u66, u67, u68, u69, u70, u71, u72, u73, u74, u75, t76, t77, t78, t79, t80, t81, t82, t83, t84, t85, t86, t87, t88, t89, t90, t91, t92, t93, t94, t95, t96, t97, t98, t99, t100, t101, t102, t103, t104, t105, t106, t107, t108, t109, t110, t111, t112, t113, t114, t115, t116, t117, t118, t119, t120, t121, t122, t123, t124, t125, t126, t127, t128, t129, t130, t131, t132, t133, t134, t135, t136, t137, t138, t139, t140, t141, t142, t143, t144, t145, t146, t147, t148, t149, t150, t151, t152, t153, t154, t155, t156, t157, t158, t159, t160, t161, t162, t163, t164], []⟩ W9) :
    Code.wp Tryd.prog (regOf Tryd.f3 8) Q ⟨#[t0, t1, t2, .pointer (some ⟨gS, 0, none⟩), t4, t5, t6, .slice A n c, .int .i64 1, t9, t10, t11, t12, t13, t14, t15, t16, t17, t18, t19, t20, t21, t22, t23, t24, t25, t26, t27, t28, t29, t30, t31, t32, t33, t34, t35, t36, t37, t38, t39, t40, t41, t42, t43, t44, t45, t46, t47, t48, t49, t50, t51, t52, t53, t54, t55, t56, t57, t58, t59, t60, t61, t62, t63, t64, t65, t66, t67, t68, t69, t70, t71, t72, t73, t74, t75, t76, t77, t78, t79, t80, t81, t82, t83, t84, t85, t86, t87, t88, t89, t90, t91, t92, t93, t94, t95, t96, t97, t98, t99, t100, t101, t102, t103, t104, t105, t106, t107, t108, t109, t110, t111, t112, t113, t114, t115, t116, t117, t118, t119, t120, t121, t122, t123, t124, t125, t126, t127, t128, t129, t130, t131, t132, t133, t134, t135, t136, t137, t138, t139, t140, t141, t142, t143, t144, t145, t146, t147, t148, t149, t150, t151, t152, t153, t154, t155, t156, t157, t158, t159, t160, t161, t162, t163, t164], []⟩ W := by
  have HKK := Lib.hid hK
  clear hK
  conv => arg 2; whnf
  have HP := Lib.hid hP
  have HG := Lib.hid hg
  have HO := Lib.hid hO
  have HR := Lib.hid hR
  have HA := Lib.hid hA
  have HL := Lib.hid hl
  have HBB := Lib.hid hBW
  have HN := Lib.hid hn
  have HQ := Lib.hid hQ
  have hne_ : Nonempty (In (fun W' => Blk W' gS 29 #[V0, V1, .slice A1 n1 x1, V3])) := ⟨⟨W, hP⟩⟩
  have x12 : ∀ s : In (fun W' => Blk W' gS 29 #[V0, V1, .slice A1 n1 x1, V3]), s.W.cell? ⟨gS, 2, none⟩ = some (.slice A1 n1 x1) := fun s => (s.h.at_ 2).trans rfl
  have hgl := hP.lt
  clear hP hg hO hR hA hl hBW hn hQ
  refine wp_region_sched (fun w' => ∃ s : In (fun W' => Blk W' gS 29 #[V0, V1, .slice A1 n1 x1, V3]), w' = s.W) [0,1,2,3,4,5,8,9,10,11] (.one 6 [] (.one 7 [] (.one 12 [13] .done))) (by kernel_rfl) (by kernel_rfl) HQ.out ⟨⟨_, HP.out.drew⟩, rfl⟩ ?_
  refine quiet_as (C' := (fun w' => ∃ s : In (fun W' => Blk W' gS 29 #[V0, V1, .slice A1 n1 x1, V3]), w' = s.W)) rfl ?_
  simp only [opsAt, List.getElem?_toArray, List.getElem?_cons_succ, List.getElem?_cons_zero]
  repeat (go_big_quiet_step (fail))
  refine wpQuiet_nil ?_
  obtain ⟨W1, hwd⟩ : ∃ v, W.drew = v := ⟨_, rfl⟩
  have hb1 : Below W.heap.size W W1 := by rw [← hwd]; exact (Below.refl _ _).drew
  have FP1 := Lib.hid (HP.out.call hb1)
  have FO1 := Lib.hid (HO.out.below hb1)
  have FR1 := Lib.hid (HR.out.below hb1)
  have FB1 : Hid (Below B W W1) := Lib.hid (hb1.mono HBB.out)
  rw [hwd]
  clear hwd
  refine eff_as (C' := (fun w' => ∃ s : In (fun W' => Blk W' gS 29 #[V0, V1, .slice A1 n1 x1, V3]), w' = s.W)) rfl ?_
  (refine eff_lit rfl rfl (fun K hK => ?_))
  go_big_op
  obtain ⟨W2, hv2⟩ : ∃ v, W1.alloc (.cells #[.int .i64 (n1 : Int)] 3) = v := ⟨_, rfl⟩
  have hb2 : Below W1.heap.size W1 W2 := by rw [← hv2]; exact (Below.refl _ _).alloc (Nat.le_refl _) _
  obtain ⟨gL, hgL⟩ : ∃ v, W1.heap.size = v := ⟨_, rfl⟩
  have hk2 : Blk W2 gL 3 #[.int .i64 (n1 : Int)] := by rw [← hv2]; exact Blk.mk_ _ _ _ _ hgL
  rw [hv2, hgL]
  have FP2 := Lib.hid (FP1.out.call hb2)
  have FO2 := Lib.hid (FO1.out.below hb2)
  have FR2 := Lib.hid (FR1.out.below hb2)
  have FB2 : Hid (Below B W W2) := Lib.hid (below_call FB1.out hb2 (Nat.le_trans HBB.out hb1.size))
  have FZ2 : Hid (B ≤ W2.heap.size) := Lib.hid (Nat.le_trans HBB.out (Nat.le_trans hb1.size hb2.size))
  have FL2 := Lib.hid hk2
  clear hv2 hb1 hb2 hgL hk2
  refine hK _ _ ⟨⟨_, FP2.out⟩, rfl⟩ ?_
  clear hK K
  try simp only [opsAt, List.getElem?_toArray, List.getElem?_cons_succ, List.getElem?_cons_zero]
  refine wpQuiet_nil ?_
  refine eff_as (C' := (fun w' => ∃ s : In (fun W' => Blk W' gS 29 #[V0, V1, .slice A1 n1 x1, V3]), w' = s.W)) rfl ?_
  (refine eff_lit rfl rfl (fun K hK => ?_))
  refine append_xr_op (w := W2) (.tmp 63) (.tmp 69) 25 rfl B 3 _ 1 8 tinfo_int Tryd.underlying25 rfl (by decide) A n c (ics xs) rfl FO2.out (some ⟨gL, 0, none⟩) 1 1 (ics [(n1 : Int)]) rfl (fun h => by cases h) (reads_block FL2.out 1 1 rfl) (ics_one _) (by have := HN.out; omega) (by have := HN.out; omega) FZ2.out ?_
  intro A3 c3 W3 ho3 hb3
  simp only [Act.put, List.setIfInBounds_toArray, List.set_cons_succ, List.set_cons_zero]
  have FP3 := Lib.hid (FP2.out.below hb3 HG.out)
  have FO3 := Lib.hid ho3
  have FB3 : Hid (Below B W W3) := Lib.hid (FB2.out.trans hb3)
  have FR3 : Hid (Reads W3 1 A1 n1 (ics d)) := Lib.hid ⟨HR.out.1, fun h0 => by
    obtain ⟨ad, e, hbl, hc⟩ := HR.out.2 h0
    have hlt := HL.out ad.block (by rw [e]; rfl) h0
    exact ⟨ad, e, Nat.lt_of_lt_of_le hbl FB3.out.size, fun j u hu => (FB3.out.cell (by rw [block_of_add]; exact hlt)).trans (hc j u hu)⟩⟩
  have FZ3 : Hid (B ≤ W3.heap.size) := Lib.hid (Nat.le_trans FZ2.out hb3.size)
  clear ho3 hb3
  refine hK _ _ ⟨⟨_, FP3.out⟩, rfl⟩ ?_
  clear hK K
  try simp only [opsAt, List.getElem?_toArray, List.getElem?_cons_succ, List.getElem?_cons_zero]
  refine wpQuiet_nil ?_
  refine eff_as (C' := (fun w' => ∃ s : In (fun W' => Blk W' gS 29 #[V0, V1, .slice A1 n1 x1, V3]), w' = s.W)) rfl ?_
  (refine eff_lit rfl rfl (fun K hK => ?_))
  refine append_xr_op (w := W3) (.tmp 70) (.tmp 74) 25 rfl B 3 _ 1 8 tinfo_int Tryd.underlying25 rfl (by decide) A3 (n + 1) c3 (ics xs ++ ics [(n1 : Int)]) rfl FO3.out A1 n1 x1 (ics d) rfl HA.out FR3.out (ics_one _) (by have := HN.out; omega) (by have := HN.out; omega) FZ3.out ?_
  intro A4 c4 W4 ho4 hb4
  simp only [Act.put, List.setIfInBounds_toArray, List.set_cons_succ, List.set_cons_zero]
  have FP4 := Lib.hid (FP3.out.below hb4 HG.out)
  have FO4 : Hid (XOwns W4 B 3 1 A4 (n + 1 + n1) c4 (ics (xs ++ ((n1 : Int) :: d)))) := Lib.hid (by
    rw [show ics xs ++ ics [(n1 : Int)] ++ ics d = ics (xs ++ ((n1 : Int) :: d)) by simp [ics]] at ho4
    exact ho4)
  have FB4 : Hid (Below B W W4) := Lib.hid (FB3.out.trans hb4)
  clear ho4 hb4
  refine hK _ _ ⟨⟨_, FP4.out⟩, rfl⟩ ?_
  clear hK K
  try simp only [opsAt, List.getElem?_toArray, List.getElem?_cons_succ, List.getElem?_cons_zero]
  repeat (go_big_quiet_step (fail))
  refine wpQuiet_nil ?_
  refine effs_done ?_
  try simp only [Act.put, List.setIfInBounds_toArray, List.set_cons_succ, List.set_cons_zero]
  exact HKK.out _ _ _ _ _ _ _ _ _ _ _ _ _ _ _ _ FO4.out FB4.out

def numB (m : MoveV) : Bool := decide (0 ≤ m.id ∧ m.id ≤ 65535 ∧ 0 ≤ m.to ∧ m.to ≤ 65535)
def restB (m : MoveV) : Bool := decide (0 ≤ m.p ∧ m.p ≤ 1 ∧ 1 ≤ m.why ∧ m.why ≤ 5 ∧ 0 ≤ m.k ∧ m.k ≤ 8)
theorem kept_split (m : MoveV) : keptB m = (restB m && numB m) := by
  unfold keptB restB numB
  rw [Bool.eq_iff_iff]
  simp only [decide_eq_true_eq, Bool.and_eq_true]
  omega
def KeptCut (w : World) (m : MoveV) (v : Value) (W : World) : Prop := v = .bool (numB m) ∧ Blk W w.heap.size 55 #[.int .i64 m.p, .int .i64 m.why, .int .i64 m.k, .int .i64 m.id, .int .i64 m.to, .int .u64 m.at_] ∧ Blk W (w.heap.size + 1) 52 #[.int .i64 m.k, .int .i64 m.id, .int .i64 m.to] ∧ Below w.heap.size w W
theorem num_t {m : MoveV} (h1 : 0 ≤ m.id) (h2 : m.id ≤ 65535) (h3 : 0 ≤ m.to) (h4 : m.to ≤ 65535) : numB m = true := by simp [numB, *]
theorem num_f {m : MoveV} (h : ¬ (0 ≤ m.id ∧ m.id ≤ 65535 ∧ 0 ≤ m.to ∧ m.to ≤ 65535)) : numB m = false := by simpa [numB] using h

set_option maxHeartbeats 1600000 in
theorem kept_any (m : MoveV) (w : World) : Calls Tryd.prog 27 #[.agg #[.int .i64 m.p, .int .i64 m.why, .int .i64 m.k, .int .i64 m.id, .int .i64 m.to, .int .u64 m.at_]] w fun e w' => e = .returned (.bool (keptB m)) ∧ Below w.heap.size w w' := by
  have HK := Lib.hid (kept_split m)
  go_enter Tryd.func27, Tryd.ntmps27
  go_upto_region 2 with fail
  go_cut [4] (fun v W => KeptCut w m v W)
  case first =>
    go_wp2
    all_goals go_meet
    all_goals refine ⟨?_, ((Blk.mk_ _ 55 _ _ rfl).alloc _), (Blk.mk_ _ 52 _ _ (by simp)), by (focus (repeat' (first | (with_reducible exact Below.refl _ _) | (with_reducible assumption) | (with_reducible refine Below.alloc ?_ ?_ _) | (with_reducible refine below_drewN ?_ _) | (with_reducible refine Below.drew ?_) | (with_reducible refine Below.setCell ?_ ?_ _) | omega | (simp; done) | (simp; omega))))⟩
    all_goals first
      | (rw [num_t (by omega) (by omega) (by omega) (by omega)]; done)
      | (rw [num_f (by omega)]; done)
      | (congr 1; simp only [numB]; rw [eq_comm, Bool.eq_iff_iff]; simp; omega)
  case rest =>
    obtain ⟨rfl, h1, h2, hB⟩ := hcut
    have x0 := (h1.at_ 0).trans rfl
    have x1 := (h1.at_ 1).trans rfl
    have y0 := (h2.at_ 0).trans rfl
    clear h1 h2
    generalize hn : numB m = nb at *
    go_wp2
    all_goals go_ret
    all_goals refine ⟨?_, hB⟩
    all_goals rw [HK.out]
    all_goals show Ending.returned (Value.bool _) = Ending.returned (Value.bool _)
    all_goals congr 2
    all_goals first
      | (have hr : restB m = true := by (simp only [restB, decide_eq_true_eq]; omega)
         rw [hr, Bool.true_and]; done)
      | (have hr : restB m = false := by (simp only [restB, decide_eq_false_iff_not]; omega)
         rw [hr, Bool.false_and]; done)

def mcells (l : List MoveV) : List Value := l.flatMap MoveV.cells
theorem mcells_len (l : List MoveV) : (mcells l).length = l.length * 6 := by
  induction l with
  | nil => rfl
  | cons m l ih => simp only [mcells, List.flatMap_cons, List.length_append, List.length_cons] at ih ⊢; rw [ih]; simp [MoveV.cells]; omega
theorem mcells_snoc (l : List MoveV) (m : MoveV) : mcells (l ++ [m]) = mcells l ++ m.cells := by simp [mcells]
theorem mcells_at {l : List MoveV} {k : Nat} {m : MoveV} (h : l[k]? = some m) {j : Nat} (hj : j < 6) : (mcells l)[k * 6 + j]? = m.cells[j]? := by
  induction l generalizing k with
  | nil => simp at h
  | cons a l ih =>
    have hl : (MoveV.cells a).length = 6 := rfl
    cases k with
    | zero =>
      simp at h
      subst h
      simp only [mcells, List.flatMap_cons]
      rw [List.getElem?_append_left (by omega)]
      simp
    | succ k =>
      simp only [mcells, List.flatMap_cons]
      rw [List.getElem?_append_right (by omega), hl, show (k + 1) * 6 + j - 6 = k * 6 + j by omega]
      exact ih (by simpa using h)

structure RpC where
  A : Option Addr
  n : Nat
  c : Nat
  E : Option Addr
  ne : Nat
  ce : Nat
  M : Option Addr
  nm : Nat
  cm : Nat
structure Rp (w : World) (B p : Nat) (q : St) (x : RpC) : Prop where
  blk : Blk w p 85 #[.int .u32 q.key, .slice x.A x.n x.c, .slice x.E x.ne x.ce, .slice x.M x.nm x.cm]
  base : B ≤ p
  data : XOwns w B 5 1 x.A x.n x.c (bys q.data)
  ends : XOwns w B 3 1 x.E x.ne x.ce (q.ends.map (Value.int .i64))
  mv : XOwns w B 55 6 x.M x.nm x.cm (mcells q.mv)
  ok : q.ok
section
variable {w w' : World} {B p : Nat} {q : St} {x : RpC}
theorem Rp.below (h : Rp w B p q x) (hb : Below w.heap.size w w') : Rp w' B p q x := ⟨h.blk.call hb, h.base, h.data.below hb, h.ends.below hb, h.mv.below hb, h.ok⟩
theorem Rp.n_eq (h : Rp w B p q x) : x.n = q.data.length := by have := h.data.len; simpa [bys] using this.symm
theorem Rp.nm_eq (h : Rp w B p q x) : x.nm = q.mv.length := by have := h.mv.len; rw [mcells_len] at this; omega
theorem Rp.ne_eq (h : Rp w B p q x) : x.ne = q.mv.length := by have := h.ends.len; rw [List.length_map, h.ok.endl] at this; omega
theorem Rp.bown (h : Rp w B p q x) : BOwns w B 5 x.A x.n x.c q.data := h.data.b h.ok.bytes
end

set_option maxHeartbeats 400000 in
theorem new_any (key : Int) (w : World) (hk : 0 ≤ key ∧ key ≤ 4294967295) : Calls Tryd.prog 10 #[.int .u32 key] w fun e w' => e = .returned (.pointer (some ⟨w.heap.size, 0, none⟩)) ∧ Rp w' w.heap.size w.heap.size (st0 key) ⟨none, 0, 0, none, 0, 0, none, 0, 0⟩ ∧ Below w.heap.size w w' := by
  have HK := Lib.hid hk
  clear hk
  go_enter Tryd.func10, Tryd.ntmps10
  go_wp2
  go_ret
  exact ⟨rfl, ⟨Blk.mk_ _ _ _ _ rfl, Nat.le_refl _, ⟨World.ownsRow_nil _ _ _ _, fun _ => rfl⟩, ⟨World.ownsRow_nil _ _ _ _, fun _ => rfl⟩, ⟨World.ownsRow_nil _ _ _ _, fun _ => rfl⟩, st0_ok HK.out⟩, by (focus (repeat' (first | (with_reducible exact Below.refl _ _) | (with_reducible assumption) | (with_reducible refine Below.alloc ?_ ?_ _) | (with_reducible refine below_drewN ?_ _) | (with_reducible refine Below.drew ?_) | (with_reducible refine Below.setCell ?_ ?_ _) | omega | (simp; done) | (simp; omega))))⟩

set_option maxHeartbeats 400000 in
theorem len_any (B p : Nat) (q : St) (x : RpC) (w : World) (h : Rp w B p q x) : Calls Tryd.prog 16 #[.pointer (some ⟨p, 0, none⟩)] w fun e w' => e = .returned (.int .i64 q.mv.length) ∧ w = w' := by
  have x3 := (h.blk.at_ 3).trans rfl
  have HN := Lib.hid h.nm_eq
  clear h
  go_enter Tryd.func16, Tryd.ntmps16
  go_wp2
  go_ret
  exact ⟨by rw [← HN.out]; rfl, rfl⟩
set_option maxHeartbeats 400000 in
theorem key_any (B p : Nat) (q : St) (x : RpC) (w : World) (h : Rp w B p q x) : Calls Tryd.prog 32 #[.pointer (some ⟨p, 0, none⟩)] w fun e w' => e = .returned (.int .u32 q.key) ∧ w = w' := by
  have x0 := (h.blk.at_ 0).trans rfl
  clear h
  go_enter Tryd.func32, Tryd.ntmps32
  go_wp2
  go_ret
  exact ⟨rfl, rfl⟩

set_option maxHeartbeats 800000 in
theorem last_any (B p : Nat) (q : St) (x : RpC) (w : World) (h : Rp w B p q x) : Calls Tryd.prog 28 #[.pointer (some ⟨p, 0, none⟩)] w fun e w' => e = .returned (.int .u64 q.last) ∧ Below w.heap.size w w' := by
  have x3 := (h.blk.at_ 3).trans rfl
  have hn := h.nm_eq
  rcases Nat.eq_zero_or_pos q.mv.length with h0 | h0
  · have hl := Lib.hid (h.ok.nil_ h0).2.2
    rw [h0] at hn
    rw [hn] at x3
    clear h hn h0
    go_enter Tryd.func28, Tryd.ntmps28
    go_wp2
    go_ret
    exact ⟨by rw [hl.out]; rfl, Below.refl _ _⟩
  · obtain ⟨l, m, hl, hm⟩ := (h.ok.cons_ h0).2
    obtain ⟨g, c, hv, _, _⟩ := h.mv.1.form (by omega)
    have hlk : q.mv.length = l.length + 1 := by rw [hl]; simp
    have hc : w.cell? ⟨g, l.length * 6 + 5, none⟩ = some (.int .u64 m.at_) := by
      obtain ⟨ad, e, _, hcell⟩ := h.mv.reads.2 (by omega)
      injection hv with hv
      rw [hv] at e
      injection e with e
      subst e
      have := hcell (l.length * 6 + 5) (.int .u64 m.at_) (by rw [mcells_at (k := l.length) (m := m) (by rw [hl]; simp) (by omega)]; rfl)
      simpa [Addr.add] using this
    injection hv with hv
    rw [hv, hn, hlk] at x3
    have HM := Lib.hid hm
    have hcnt := h.ok.cnt
    generalize hk : l.length = k at *
    clear h hn hl hm hk hv h0
    have hkb : k ≤ 4096 := by omega
    clear hcnt
    go_enter Tryd.func28, Tryd.ntmps28
    go_wp2
    go_quiet (fail)
    go_wp2
    go_ret
    exact ⟨by rw [← HM.out]; rfl, by (focus (repeat' (first | (with_reducible exact Below.refl _ _) | (with_reducible assumption) | (with_reducible refine Below.alloc ?_ ?_ _) | (with_reducible refine below_drewN ?_ _) | (with_reducible refine Below.drew ?_) | (with_reducible refine Below.setCell ?_ ?_ _) | omega | (simp; done) | (simp; omega))))⟩
end Go.Proofs.YtpbbemmjodegkaaDoor
