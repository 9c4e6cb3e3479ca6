/-
  Texts: Pb.
-/
import Derived.Test.YtagpphelgghbpaaTk26
import Derived.Test.YtagpphelgghbpaaTk27
import Derived.Test.YtagpphelgghbpaaTk33
import Derived.Test.YtagpphelgghbpaaTk34
/-
  zeitnottop.public: its regions.
-/
set_option linter.unusedSimpArgs false
set_option linter.unusedVariables false
namespace Go.Proofs.Ytagpphelgghbpaa
open Go.RowKit

set_option maxRecDepth 100000 in
theorem size_vseats : (Try.prog.info? 57).map (·.size) = some 28 := by decide +kernel
set_option maxRecDepth 100000 in
theorem built_public (v0 v1 v2 v3 v4 v5 v6 v7 v8 v9 v10 v11 v12 v13 v14 v15 v16 v17 v18 v19 v20 v21 v22 v23 v24 v25 v26 v27 : Value) (A0 A1 A2 A3 : Option Addr) (n0 c0 n1 c1 n2 c2 n3 c3 : Nat) (i0 i1 i2 i3 i4 : Int) : Try.prog.built 59 [(0, .agg #[v0, v1, v2, v3, v4, v5, v6, v7, v8, v9, v10, v11, v12, v13, v14, v15, v16, v17, v18, v19, v20, v21, v22, v23, v24, v25, v26, v27]), (1, .slice A0 n0 c0), (2, .slice A1 n1 c1), (3, .slice A2 n2 c2), (4, .slice A3 n3 c3), (5, .int .i64 i0), (6, .int .i64 i1), (7, .int .i64 i2), (8, .int .i64 i3), (9, .int .i64 i4)] = some #[v0, v1, v2, v3, v4, v5, v6, v7, v8, v9, v10, v11, v12, v13, v14, v15, v16, v17, v18, v19, v20, v21, v22, v23, v24, v25, v26, v27, .slice A0 n0 c0, .slice A1 n1 c1, .slice A2 n2 c2, .slice A3 n3 c3, .int .i64 i0, .int .i64 i1, .int .i64 i2, .int .i64 i3, .int .i64 i4] := by kernel_rfl
theorem pu_sm {b : Bd} (h : BdSm b) : PuSm (puOf b) := ⟨h.S, h.Q, h.AT, h.BK, h.ST, h.QT, by show (b.s0.fld.map _).length ≤ 500; rw [List.length_map]; exact h.s0.F, by show (b.s0.grv.map _).length ≤ 500; rw [List.length_map]; exact h.s0.G, by show (b.s1.fld.map _).length ≤ 500; rw [List.length_map]; exact h.s1.F, by show (b.s1.grv.map _).length ≤ 500; rw [List.length_map]; exact h.s1.G⟩
theorem bd_pl {p : Pu} (m : PuM) : (p.cells m).length = 37 := rfl
set_option maxRecDepth 100000 in
set_option maxHeartbeats 3200000 in
theorem pb_hand0 (k : Nat) (hk : k = 0) (W : World) (p : Pu) (m5 m8 : PuM) (g5 g8 nh Hc : Nat) (HA : Option Addr) (h5 : Blk W g5 59 (p.cells m5).toArray) (h8 : Blk W g8 65 (vwc k (p.v0.cells m8.m0) (p.v1.cells m8.m1) (.slice HA nh Hc) (p.tail m8)).toArray) (hnh : p.v0.hand = nh) (Q : Exit → Act → World → Prop) (t0 t1 t2 t3 t4 t6 t10 t11 t12 t13 t14 t15 t16 t17 t18 t19 t20 t21 t22 t23 t24 t25 t26 t27 t28 t29 t30 t31 t32 t33 t34 t35 t36 t37 t38 t39 t40 t41 t42 t43 t44 t45 t46 t47 t48 t49 t50 t51 t52 t53 t54 t55 t56 t57 t58 t59 t60 t61 t62 t63 t64 t65 t66 t67 t68 t69 t70 t71 t72 t73 t74 t75 t76 t77 t78 t79 t80 t81 t82 t83 t84 t85 t86 t87 t88 t89 t90 t91 t92 t93 t94 t95 t96 t97 t98 t99 t100 t101 t102 t103 t104 t105 t106 t107 t108 t109 t110 t111 t112 t113 t114 t115 t116 t117 t118 t119 t120 t121 t122 t123 t124 t125 t126 t127 t128 t129 t130 : Value)
    (hQ : ∀ d v c a w, Q (.panic c) (Act.put a d v) w → Q (.panic c) a w)
    (hK : ∀ (u48 u49 u50 u51 u52 u53 u54 u55 u56 u57 u58 u59 : Value)  (W9 : World), Below W.heap.size W W9 → Q .normal ⟨#[t0, t1, t2, t3, t4, .pointer (some ⟨g5, 0, none⟩), t6, .int .i64 k, .pointer (some ⟨g8, 0, none⟩), .int .i64 0, t10, t11, t12, t13, t14, t15, t16, t17, t18, t19, t20, t21, t22, t23, t24, t25, t26, t27, t28, t29, t30, t31, t32, t33, t34, t35, t36, t37, t38, t39, t40, t41, t42, t43, t44, t45, t46, t47, u48, u49, u50, u51, u52, u53, u54, u55, u56, u57, u58, u59, .bool false, t61, t62, t63, t64, t65, t66, t67, t68, t69, t70, t71, t72, t73, t74, t75, t76, t77, t78, t79, t80, t81, t82, t83, t84, t85, t86, t87, t88, t89, t90, t91, t92, t93, t94, t95, t96, t97, t98, t99, t100, t101, t102, t103, t104, t105, t106, t107, t108, t109, t110, t111, t112, t113, t114, t115, t116, t117, t118, t119, t120, t121, t122, t123, t124, t125, t126, t127, t128, t129, t130], []⟩ W9) :
    Code.wp Try.prog (regOf Try.f6 11) Q ⟨#[t0, t1, t2, t3, t4, .pointer (some ⟨g5, 0, none⟩), t6, .int .i64 k, .pointer (some ⟨g8, 0, none⟩), .int .i64 0, t10, t11, t12, t13, t14, t15, t16, t17, t18, t19, t20, t21, t22, t23, t24, t25, t26, t27, t28, t29, t30, t31, t32, t33, t34, t35, t36, t37, t38, t39, t40, t41, t42, t43, t44, t45, t46, t47, t48, t49, t50, t51, t52, t53, t54, t55, t56, t57, t58, t59, t60, t61, t62, t63, t64, t65, t66, t67, t68, t69, t70, t71, t72, t73, t74, t75, t76, t77, t78, t79, t80, t81, t82, t83, t84, t85, t86, t87, t88, t89, t90, t91, t92, t93, t94, t95, t96, t97, t98, t99, t100, t101, t102, t103, t104, t105, t106, t107, t108, t109, t110, t111, t112, t113, t114, t115, t116, t117, t118, t119, t120, t121, t122, t123, t124, t125, t126, t127, t128, t129, t130], []⟩ W := by
  have HKK := Lib.hid hK
  clear hK
  conv => arg 2; whnf
  subst hk
  have HQ := Lib.hid hQ
  have H5 := Lib.hid h5
  have H8 := Lib.hid h8
  have h5l := h5.lt
  have h8l := h8.lt
  have hne_ : Nonempty (In (fun W' => Blk W' g5 59 (p.cells m5).toArray ∧ Blk W' g8 65 (vwc ((0 : Nat) : Int) (p.v0.cells m8.m0) (p.v1.cells m8.m1) (.slice HA nh Hc) (p.tail m8)).toArray)) := ⟨⟨W, h5, h8⟩⟩
  have x8 : ∀ s : In (fun W' => Blk W' g5 59 (p.cells m5).toArray ∧ Blk W' g8 65 (vwc ((0 : Nat) : Int) (p.v0.cells m8.m0) (p.v1.cells m8.m1) (.slice HA nh Hc) (p.tail m8)).toArray), s.W.cell? ⟨g8, 29, none⟩ = some (.slice HA nh Hc) := fun s => (s.h.2.at_ 29).trans rfl
  have x5 : ∀ s : In (fun W' => Blk W' g5 59 (p.cells m5).toArray ∧ Blk W' g8 65 (vwc ((0 : Nat) : Int) (p.v0.cells m8.m0) (p.v1.cells m8.m1) (.slice HA nh Hc) (p.tail m8)).toArray), s.W.cell? ⟨g5, 6, none⟩ = some (.int .i64 nh) := fun s => (s.h.1.at_ 6).trans (by rw [← hnh]; rfl)
  clear hQ h5 h8 hnh
  refine wp_region_sched (fun w' => ∃ s : In (fun W' => Blk W' g5 59 (p.cells m5).toArray ∧ Blk W' g8 65 (vwc ((0 : Nat) : Int) (p.v0.cells m8.m0) (p.v1.cells m8.m1) (.slice HA nh Hc) (p.tail m8)).toArray), w' = s.W) [0,1,2,3,4,5,6,7,8,9,10,11,12] (.done) (by kernel_rfl) (by kernel_rfl) HQ.out ⟨⟨_, ⟨H5.out.drew, H8.out.drew⟩⟩, rfl⟩ ?_
  refine quiet_as (C' := (fun w' => ∃ s : In (fun W' => Blk W' g5 59 (p.cells m5).toArray ∧ Blk W' g8 65 (vwc ((0 : Nat) : Int) (p.v0.cells m8.m0) (p.v1.cells m8.m1) (.slice HA nh Hc) (p.tail m8)).toArray), w' = s.W)) rfl ?_
  simp only [opsAt, List.getElem?_toArray, List.getElem?_cons_succ, List.getElem?_cons_zero]
  repeat (go_big_quiet_step (fail))
  refine wpQuiet_nil ?_
  obtain ⟨W_d, hwd⟩ : ∃ v, W.drew = v := ⟨_, rfl⟩
  have HBW_1 : Hid (Below W.heap.size W W_d) := Lib.hid (by rw [← hwd]; exact (Below.refl _ _).drew)
  have HBR_1 : Hid (Below W.heap.size W W_d) := Lib.hid (by rw [← hwd]; exact (Below.refl _ _).drew)
  rw [hwd]
  clear hwd
  refine effs_done ?_
  exact HKK.out _ _ _ _ _ _ _ _ _ _ _ _ _ HBR_1.out

set_option maxRecDepth 100000 in
set_option maxHeartbeats 3200000 in
theorem pb_check0 (k : Nat) (hk : k = 0) (W : World) (B : Nat) (p : Pu) (m5 m8 : PuM) (g5 g8 g10 nh Hc nf l0 l1 hh : Nat) (HA A11 : Option Addr) (n11 c11 : Nat) (hsm : PuSm p) (h5 : Blk W g5 59 (p.cells m5).toArray) (h8 : Blk W g8 65 (vwc k (p.v0.cells m8.m0) (p.v1.cells m8.m1) (.slice HA nh Hc) (p.tail m8)).toArray) (h10 : Blk W g10 59 (p.cells m8).toArray) (hO5 : PuO W B p m5) (hO8 : PuO W B p m8) (hl0 : p.v0.lib = l0) (hl1 : p.v1.lib = l1) (hhh : p.v1.hand = hh) (hb0 : l0 ≤ 500) (hb1 : l1 ≤ 500) (hb2 : hh ≤ 500) (hn11 : n11 = l0 + l1 + hh) (Q : Exit → Act → World → Prop) (t0 t1 t2 t3 t4 t6 t9 t13 t14 t15 t16 t17 t18 t19 t20 t21 t22 t23 t24 t25 t26 t27 t28 t29 t30 t31 t32 t33 t34 t35 t36 t37 t38 t39 t40 t41 t42 t43 t44 t45 t46 t47 t48 t49 t50 t51 t52 t53 t54 t55 t56 t57 t58 t59 t60 t61 t62 t63 t64 t65 t66 t67 t68 t69 t70 t71 t72 t73 t74 t75 t76 t77 t78 t79 t80 t81 t82 t83 t84 t85 t86 t87 t88 t89 t90 t91 t92 t93 t94 t95 t96 t97 t98 t99 t100 t101 t102 t103 t104 t105 t106 t107 t108 t109 t110 t111 t112 t113 t114 t115 t116 t117 t118 t119 t120 t121 t122 t123 t124 t125 t126 t127 t128 t129 t130 : Value)
    (hQ : ∀ d v c a w, Q (.panic c) (Act.put a d v) w → Q (.panic c) a w)
    (hK : ∀ (u88 u89 u90 u91 u92 u93 u94 u95 u96 u97 u98 u99 u100 u101 u102 u103 u104 u105 u106 u107 u108 u109 u110 u111 u112 u113 u114 u115 u116 u117 u118 u119 u120 u121 u122 u123 u124 u125 u126 u127 u128 u129 : Value)  (W9 : World), Below W.heap.size W W9 → Q .normal ⟨#[t0, t1, t2, t3, t4, .pointer (some ⟨g5, 0, none⟩), t6, .int .i64 k, .pointer (some ⟨g8, 0, none⟩), t9, .pointer (some ⟨g10, 0, none⟩), .slice A11 n11 c11, .int .i64 0, t13, t14, t15, t16, t17, t18, t19, t20, t21, t22, t23, t24, t25, t26, t27, t28, t29, t30, t31, t32, t33, t34, t35, t36, t37, t38, t39, t40, t41, t42, t43, t44, t45, t46, t47, t48, t49, t50, t51, t52, t53, t54, t55, t56, t57, t58, t59, t60, t61, t62, t63, t64, t65, t66, t67, t68, t69, t70, t71, t72, t73, t74, t75, t76, t77, t78, t79, t80, t81, t82, t83, t84, t85, t86, t87, u88, u89, u90, u91, u92, u93, u94, u95, u96, u97, u98, u99, u100, u101, u102, u103, u104, u105, u106, u107, u108, u109, u110, u111, u112, u113, u114, u115, u116, u117, u118, u119, u120, u121, u122, u123, u124, u125, u126, u127, u128, u129, .bool false], []⟩ W9) :
    Code.wp Try.prog (regOf Try.f6 15) Q ⟨#[t0, t1, t2, t3, t4, .pointer (some ⟨g5, 0, none⟩), t6, .int .i64 k, .pointer (some ⟨g8, 0, none⟩), t9, .pointer (some ⟨g10, 0, none⟩), .slice A11 n11 c11, .int .i64 0, t13, t14, t15, t16, t17, t18, t19, t20, t21, t22, t23, t24, t25, t26, t27, t28, t29, t30, t31, t32, t33, t34, t35, t36, t37, t38, t39, t40, t41, t42, t43, t44, t45, t46, t47, t48, t49, t50, t51, t52, t53, t54, t55, t56, t57, t58, t59, t60, t61, t62, t63, t64, t65, t66, t67, t68, t69, t70, t71, t72, t73, t74, t75, t76, t77, t78, t79, t80, t81, t82, t83, t84, t85, t86, t87, t88, t89, t90, t91, t92, t93, t94, t95, t96, t97, t98, t99, t100, t101, t102, t103, t104, t105, t106, t107, t108, t109, t110, t111, t112, t113, t114, t115, t116, t117, t118, t119, t120, t121, t122, t123, t124, t125, t126, t127, t128, t129, t130], []⟩ W := by
  have HKK := Lib.hid hK
  clear hK
  conv => arg 2; whnf
  subst hk
  have HQ := Lib.hid hQ
  have H5 := Lib.hid h5
  have H8 := Lib.hid h8
  have H10 := Lib.hid h10
  have HO5 := Lib.hid hO5
  have HO8 := Lib.hid hO8
  have HSM := Lib.hid hsm
  obtain ⟨⟨FA, Fc⟩, hF5⟩ : ∃ s, m5.m0.F = s := ⟨_, rfl⟩
  obtain ⟨⟨GA, Gc⟩, hF8⟩ : ∃ s, m8.m0.F = s := ⟨_, rfl⟩
  obtain ⟨nf, hnf⟩ : ∃ n, p.v0.fld.length = n := ⟨_, rfl⟩
  have HF5 := Lib.hid hF5
  have HF8 := Lib.hid hF8
  have HNF := Lib.hid hnf
  have h5l := h5.lt
  have h8l := h8.lt
  have h10l := h10.lt
  have hne_ : Nonempty (In (fun W' => Blk W' g5 59 (p.cells m5).toArray ∧ Blk W' g8 65 (vwc ((0 : Nat) : Int) (p.v0.cells m8.m0) (p.v1.cells m8.m1) (.slice HA nh Hc) (p.tail m8)).toArray ∧ Blk W' g10 59 (p.cells m8).toArray)) := ⟨⟨W, h5, h8, h10⟩⟩
  have x0 : ∀ s : In (fun W' => Blk W' g5 59 (p.cells m5).toArray ∧ Blk W' g8 65 (vwc ((0 : Nat) : Int) (p.v0.cells m8.m0) (p.v1.cells m8.m1) (.slice HA nh Hc) (p.tail m8)).toArray ∧ Blk W' g10 59 (p.cells m8).toArray), s.W.cell? ⟨g5, 5, none⟩ = some (.int .i64 l0) := fun s => (s.h.1.at_ 5).trans (by rw [← hl0]; rfl)
  have x1 : ∀ s : In (fun W' => Blk W' g5 59 (p.cells m5).toArray ∧ Blk W' g8 65 (vwc ((0 : Nat) : Int) (p.v0.cells m8.m0) (p.v1.cells m8.m1) (.slice HA nh Hc) (p.tail m8)).toArray ∧ Blk W' g10 59 (p.cells m8).toArray), s.W.cell? ⟨g5, 19, none⟩ = some (.int .i64 l1) := fun s => (s.h.1.at_ 19).trans (by rw [← hl1]; rfl)
  have x2 : ∀ s : In (fun W' => Blk W' g5 59 (p.cells m5).toArray ∧ Blk W' g8 65 (vwc ((0 : Nat) : Int) (p.v0.cells m8.m0) (p.v1.cells m8.m1) (.slice HA nh Hc) (p.tail m8)).toArray ∧ Blk W' g10 59 (p.cells m8).toArray), s.W.cell? ⟨g5, 20, none⟩ = some (.int .i64 hh) := fun s => (s.h.1.at_ 20).trans (by rw [← hhh]; rfl)
  have x3 : ∀ s : In (fun W' => Blk W' g5 59 (p.cells m5).toArray ∧ Blk W' g8 65 (vwc ((0 : Nat) : Int) (p.v0.cells m8.m0) (p.v1.cells m8.m1) (.slice HA nh Hc) (p.tail m8)).toArray ∧ Blk W' g10 59 (p.cells m8).toArray), s.W.cell? ⟨g5, 7, none⟩ = some (.slice FA nf Fc) := fun s => (s.h.1.at_ 7).trans (by show some (m5.m0.F.v p.v0.fld.length) = _; rw [hF5, hnf]; rfl)
  have x4 : ∀ s : In (fun W' => Blk W' g5 59 (p.cells m5).toArray ∧ Blk W' g8 65 (vwc ((0 : Nat) : Int) (p.v0.cells m8.m0) (p.v1.cells m8.m1) (.slice HA nh Hc) (p.tail m8)).toArray ∧ Blk W' g10 59 (p.cells m8).toArray), s.W.cell? ⟨g8, 8, none⟩ = some (.slice GA nf Gc) := fun s => (s.h.2.1.at_ 8).trans (by show some (m8.m0.F.v p.v0.fld.length) = _; rw [hF8, hnf]; rfl)
  have HL5 : Hid (∀ W', (∃ s : In (fun W' => Blk W' g5 59 (p.cells m5).toArray ∧ Blk W' g8 65 (vwc ((0 : Nat) : Int) (p.v0.cells m8.m0) (p.v1.cells m8.m1) (.slice HA nh Hc) (p.tail m8)).toArray ∧ Blk W' g10 59 (p.cells m8).toArray), W' = s.W) → (Instr.loadAt 59 (.pointer (some ⟨g5, 0, none⟩))).run Try.prog W' = .ok (.agg (p.cells m5).toArray) W') := Lib.hid (fun W' hW => by
    obtain ⟨s, rfl⟩ := hW
    exact s.h.1.mid (p.cells m5) _ (fun j v hj => by rw [Nat.zero_add]; simpa using hj) Try.underlying59 rfl (by rw [size_public]; rfl))
  have HL10 : Hid (∀ W', (∃ s : In (fun W' => Blk W' g5 59 (p.cells m5).toArray ∧ Blk W' g8 65 (vwc ((0 : Nat) : Int) (p.v0.cells m8.m0) (p.v1.cells m8.m1) (.slice HA nh Hc) (p.tail m8)).toArray ∧ Blk W' g10 59 (p.cells m8).toArray), W' = s.W) → (Instr.loadAt 59 (.pointer (some ⟨g10, 0, none⟩))).run Try.prog W' = .ok (.agg (p.cells m8).toArray) W') := Lib.hid (fun W' hW => by
    obtain ⟨s, rfl⟩ := hW
    exact s.h.2.2.mid (p.cells m8) _ (fun j v hj => by rw [Nat.zero_add]; simpa using hj) Try.underlying59 rfl (by rw [size_public]; rfl))
  subst hn11
  clear hQ h5 h8 h10 hO5 hO8 hsm hl0 hl1 hhh hF5 hF8 hnf
  refine wp_region_sched (fun w' => ∃ s : In (fun W' => Blk W' g5 59 (p.cells m5).toArray ∧ Blk W' g8 65 (vwc ((0 : Nat) : Int) (p.v0.cells m8.m0) (p.v1.cells m8.m1) (.slice HA nh Hc) (p.tail m8)).toArray ∧ Blk W' g10 59 (p.cells m8).toArray), w' = s.W) [0,1] (.one 2 [3,4,5,6,7,8,9,10,11,12,13,14,15,16,17,18,19,20,21,22,23,24,25,26,27,28,29,30,31,32,33,34,35,36,37,38,39] (.one 40 [41,42] .done)) (by kernel_rfl) (by kernel_rfl) HQ.out ⟨⟨_, ⟨H5.out.drew, H8.out.drew, H10.out.drew⟩⟩, rfl⟩ ?_
  refine quiet_as (C' := (fun w' => ∃ s : In (fun W' => Blk W' g5 59 (p.cells m5).toArray ∧ Blk W' g8 65 (vwc ((0 : Nat) : Int) (p.v0.cells m8.m0) (p.v1.cells m8.m1) (.slice HA nh Hc) (p.tail m8)).toArray ∧ Blk W' g10 59 (p.cells m8).toArray), w' = s.W)) rfl ?_
  simp only [opsAt, List.getElem?_toArray, List.getElem?_cons_succ, List.getElem?_cons_zero]
  repeat (first | (refine wpQuiet_load_by HL5.out ⟨_, ⟨⟨_, H5.out, H8.out, H10.out⟩, rfl⟩⟩ rfl rfl rfl ?_; simp only [Act.put, List.setIfInBounds_toArray, List.set_cons_succ, List.set_cons_zero]) | (refine wpQuiet_load_by HL10.out ⟨_, ⟨⟨_, H5.out, H8.out, H10.out⟩, rfl⟩⟩ rfl rfl rfl ?_; simp only [Act.put, List.setIfInBounds_toArray, List.set_cons_succ, List.set_cons_zero]) | go_big_quiet_step (fail))
  refine wpQuiet_nil ?_
  obtain ⟨W_d, hwd⟩ : ∃ v, W.drew = v := ⟨_, rfl⟩
  have HBW_1 : Hid (Below W.heap.size W W_d) := Lib.hid (by rw [← hwd]; exact (Below.refl _ _).drew)
  have HBR_1 : Hid (Below W.heap.size W W_d) := Lib.hid (by rw [← hwd]; exact (Below.refl _ _).drew)
  have B5_1 := Lib.hid ((H5.out).call (show Below W.heap.size W W_d by rw [← hwd]; exact (Below.refl _ _).drew))
  have B8_1 := Lib.hid ((H8.out).call (show Below W.heap.size W W_d by rw [← hwd]; exact (Below.refl _ _).drew))
  have BX_1 := Lib.hid ((H10.out).call (show Below W.heap.size W W_d by rw [← hwd]; exact (Below.refl _ _).drew))
  have F5_1 := Lib.hid ((HO5.out).below (show Below W.heap.size W W_d by rw [← hwd]; exact (Below.refl _ _).drew))
  have F8_1 := Lib.hid ((HO8.out).below (show Below W.heap.size W W_d by rw [← hwd]; exact (Below.refl _ _).drew))
  rw [hwd]
  clear hwd
  refine eff_as (C' := (fun w' => ∃ s : In (fun W' => Blk W' g5 59 (p.cells m5).toArray ∧ Blk W' g8 65 (vwc ((0 : Nat) : Int) (p.v0.cells m8.m0) (p.v1.cells m8.m1) (.slice HA nh Hc) (p.tail m8)).toArray ∧ Blk W' g10 59 (p.cells m8).toArray), w' = s.W)) rfl ?_
  (refine eff_lit rfl rfl (fun K hK => ?_))
  go_big_op
  refine (pueq_any p m5 m8 W_d F5_1.out.isR F8_1.out.isR HSM.out).mono ?_
  rintro e W_2 ⟨rfl, hbW_2⟩
  have HBW_3 := Lib.hid (below_call HBW_1.out hbW_2 HBW_1.out.size)
  clear HBW_1
  have HBR_3 := Lib.hid (below_call HBR_1.out hbW_2 HBR_1.out.size)
  clear HBR_1
  have B5_3 := Lib.hid (B5_1.out.call hbW_2)
  clear B5_1
  have B8_3 := Lib.hid (B8_1.out.call hbW_2)
  clear B8_1
  have BX_3 := Lib.hid (BX_1.out.call hbW_2)
  clear BX_1
  have F5_3 := Lib.hid (F5_1.out.below hbW_2)
  clear F5_1
  have F8_3 := Lib.hid (F8_1.out.below hbW_2)
  clear F8_1
  clear hbW_2
  refine hK _ _ ⟨⟨_, ⟨B5_3.out, B8_3.out, BX_3.out⟩⟩, rfl⟩ ?_
  clear hK K
  try simp only [opsAt, List.getElem?_toArray, List.getElem?_cons_succ, List.getElem?_cons_zero]
  repeat (first | (refine wpQuiet_load_by HL5.out ⟨_, ⟨⟨_, H5.out, H8.out, H10.out⟩, rfl⟩⟩ rfl rfl rfl ?_; simp only [Act.put, List.setIfInBounds_toArray, List.set_cons_succ, List.set_cons_zero]) | (refine wpQuiet_load_by HL10.out ⟨_, ⟨⟨_, H5.out, H8.out, H10.out⟩, rfl⟩⟩ rfl rfl rfl ?_; simp only [Act.put, List.setIfInBounds_toArray, List.set_cons_succ, List.set_cons_zero]) | go_big_quiet_step (fail))
  refine wpQuiet_nil ?_
  refine eff_as (C' := (fun w' => ∃ s : In (fun W' => Blk W' g5 59 (p.cells m5).toArray ∧ Blk W' g8 65 (vwc ((0 : Nat) : Int) (p.v0.cells m8.m0) (p.v1.cells m8.m1) (.slice HA nh Hc) (p.tail m8)).toArray ∧ Blk W' g10 59 (p.cells m8).toArray), w' = s.W)) rfl ?_
  (refine eff_lit rfl rfl (fun K hK => ?_))
  have hr5 := F5_3.out.v0.F.reads
  have hr8 := F8_3.out.v0.F.reads
  rw [HF5.out, HNF.out] at hr5
  rw [HF8.out, HNF.out] at hr8
  have HOT := Lib.hid (objs_top FA GA nf Fc Gc p.v0.fld W_2 hr5 hr8 HNF.out (by have := HSM.out.F0; rw [HNF.out] at this; omega))
  clear hr5 hr8
  go_big_op
  refine (HOT.out).mono ?_
  rintro e W_4 ⟨rfl, hbW_4⟩
  have HBW_5 := Lib.hid (below_call HBW_3.out hbW_4 HBW_3.out.size)
  clear HBW_3
  have HBR_5 := Lib.hid (below_call HBR_3.out hbW_4 HBR_3.out.size)
  clear HBR_3
  have B5_5 := Lib.hid (B5_3.out.call hbW_4)
  clear B5_3
  have B8_5 := Lib.hid (B8_3.out.call hbW_4)
  clear B8_3
  have BX_5 := Lib.hid (BX_3.out.call hbW_4)
  clear BX_3
  have F5_5 := Lib.hid (F5_3.out.below hbW_4)
  clear F5_3
  have F8_5 := Lib.hid (F8_3.out.below hbW_4)
  clear F8_3
  clear hbW_4
  refine hK _ _ ⟨⟨_, ⟨B5_5.out, B8_5.out, BX_5.out⟩⟩, rfl⟩ ?_
  clear hK K
  try simp only [opsAt, List.getElem?_toArray, List.getElem?_cons_succ, List.getElem?_cons_zero]
  repeat (first | (refine wpQuiet_load_by HL5.out ⟨_, ⟨⟨_, H5.out, H8.out, H10.out⟩, rfl⟩⟩ rfl rfl rfl ?_; simp only [Act.put, List.setIfInBounds_toArray, List.set_cons_succ, List.set_cons_zero]) | (refine wpQuiet_load_by HL10.out ⟨_, ⟨⟨_, H5.out, H8.out, H10.out⟩, rfl⟩⟩ rfl rfl rfl ?_; simp only [Act.put, List.setIfInBounds_toArray, List.set_cons_succ, List.set_cons_zero]) | go_big_quiet_step (fail))
  refine wpQuiet_nil ?_
  refine effs_done ?_
  exact HKK.out _ _ _ _ _ _ _ _ _ _ _ _ _ _ _ _ _ _ _ _ _ _ _ _ _ _ _ _ _ _ _ _ _ _ _ _ _ _ _ _ _ _ _ HBR_5.out

set_option maxRecDepth 100000 in
set_option maxHeartbeats 3200000 in
theorem pb_hand1 (k : Nat) (hk : k = 1) (W : World) (p : Pu) (m5 m8 : PuM) (g5 g8 nh Hc : Nat) (HA : Option Addr) (h5 : Blk W g5 59 (p.cells m5).toArray) (h8 : Blk W g8 65 (vwc k (p.v0.cells m8.m0) (p.v1.cells m8.m1) (.slice HA nh Hc) (p.tail m8)).toArray) (hnh : p.v1.hand = nh) (Q : Exit → Act → World → Prop) (t0 t1 t2 t3 t4 t6 t10 t11 t12 t13 t14 t15 t16 t17 t18 t19 t20 t21 t22 t23 t24 t25 t26 t27 t28 t29 t30 t31 t32 t33 t34 t35 t36 t37 t38 t39 t40 t41 t42 t43 t44 t45 t46 t47 t48 t49 t50 t51 t52 t53 t54 t55 t56 t57 t58 t59 t60 t61 t62 t63 t64 t65 t66 t67 t68 t69 t70 t71 t72 t73 t74 t75 t76 t77 t78 t79 t80 t81 t82 t83 t84 t85 t86 t87 t88 t89 t90 t91 t92 t93 t94 t95 t96 t97 t98 t99 t100 t101 t102 t103 t104 t105 t106 t107 t108 t109 t110 t111 t112 t113 t114 t115 t116 t117 t118 t119 t120 t121 t122 t123 t124 t125 t126 t127 t128 t129 t130 : Value)
    (hQ : ∀ d v c a w, Q (.panic c) (Act.put a d v) w → Q (.panic c) a w)
    (hK : ∀ (u48 u49 u50 u51 u52 u53 u54 u55 u56 u57 u58 u59 : Value)  (W9 : World), Below W.heap.size W W9 → Q .normal ⟨#[t0, t1, t2, t3, t4, .pointer (some ⟨g5, 0, none⟩), t6, .int .i64 k, .pointer (some ⟨g8, 0, none⟩), .int .i64 0, t10, t11, t12, t13, t14, t15, t16, t17, t18, t19, t20, t21, t22, t23, t24, t25, t26, t27, t28, t29, t30, t31, t32, t33, t34, t35, t36, t37, t38, t39, t40, t41, t42, t43, t44, t45, t46, t47, u48, u49, u50, u51, u52, u53, u54, u55, u56, u57, u58, u59, .bool false, t61, t62, t63, t64, t65, t66, t67, t68, t69, t70, t71, t72, t73, t74, t75, t76, t77, t78, t79, t80, t81, t82, t83, t84, t85, t86, t87, t88, t89, t90, t91, t92, t93, t94, t95, t96, t97, t98, t99, t100, t101, t102, t103, t104, t105, t106, t107, t108, t109, t110, t111, t112, t113, t114, t115, t116, t117, t118, t119, t120, t121, t122, t123, t124, t125, t126, t127, t128, t129, t130], []⟩ W9) :
    Code.wp Try.prog (regOf Try.f6 11) Q ⟨#[t0, t1, t2, t3, t4, .pointer (some ⟨g5, 0, none⟩), t6, .int .i64 k, .pointer (some ⟨g8, 0, none⟩), .int .i64 0, t10, t11, t12, t13, t14, t15, t16, t17, t18, t19, t20, t21, t22, t23, t24, t25, t26, t27, t28, t29, t30, t31, t32, t33, t34, t35, t36, t37, t38, t39, t40, t41, t42, t43, t44, t45, t46, t47, t48, t49, t50, t51, t52, t53, t54, t55, t56, t57, t58, t59, t60, t61, t62, t63, t64, t65, t66, t67, t68, t69, t70, t71, t72, t73, t74, t75, t76, t77, t78, t79, t80, t81, t82, t83, t84, t85, t86, t87, t88, t89, t90, t91, t92, t93, t94, t95, t96, t97, t98, t99, t100, t101, t102, t103, t104, t105, t106, t107, t108, t109, t110, t111, t112, t113, t114, t115, t116, t117, t118, t119, t120, t121, t122, t123, t124, t125, t126, t127, t128, t129, t130], []⟩ W := by
  have HKK := Lib.hid hK
  clear hK
  conv => arg 2; whnf
  subst hk
  have HQ := Lib.hid hQ
  have H5 := Lib.hid h5
  have H8 := Lib.hid h8
  have h5l := h5.lt
  have h8l := h8.lt
  have hne_ : Nonempty (In (fun W' => Blk W' g5 59 (p.cells m5).toArray ∧ Blk W' g8 65 (vwc ((1 : Nat) : Int) (p.v0.cells m8.m0) (p.v1.cells m8.m1) (.slice HA nh Hc) (p.tail m8)).toArray)) := ⟨⟨W, h5, h8⟩⟩
  have x8 : ∀ s : In (fun W' => Blk W' g5 59 (p.cells m5).toArray ∧ Blk W' g8 65 (vwc ((1 : Nat) : Int) (p.v0.cells m8.m0) (p.v1.cells m8.m1) (.slice HA nh Hc) (p.tail m8)).toArray), s.W.cell? ⟨g8, 29, none⟩ = some (.slice HA nh Hc) := fun s => (s.h.2.at_ 29).trans rfl
  have x5 : ∀ s : In (fun W' => Blk W' g5 59 (p.cells m5).toArray ∧ Blk W' g8 65 (vwc ((1 : Nat) : Int) (p.v0.cells m8.m0) (p.v1.cells m8.m1) (.slice HA nh Hc) (p.tail m8)).toArray), s.W.cell? ⟨g5, 20, none⟩ = some (.int .i64 nh) := fun s => (s.h.1.at_ 20).trans (by rw [← hnh]; rfl)
  clear hQ h5 h8 hnh
  refine wp_region_sched (fun w' => ∃ s : In (fun W' => Blk W' g5 59 (p.cells m5).toArray ∧ Blk W' g8 65 (vwc ((1 : Nat) : Int) (p.v0.cells m8.m0) (p.v1.cells m8.m1) (.slice HA nh Hc) (p.tail m8)).toArray), w' = s.W) [0,1,2,3,4,5,6,7,8,9,10,11,12] (.done) (by kernel_rfl) (by kernel_rfl) HQ.out ⟨⟨_, ⟨H5.out.drew, H8.out.drew⟩⟩, rfl⟩ ?_
  refine quiet_as (C' := (fun w' => ∃ s : In (fun W' => Blk W' g5 59 (p.cells m5).toArray ∧ Blk W' g8 65 (vwc ((1 : Nat) : Int) (p.v0.cells m8.m0) (p.v1.cells m8.m1) (.slice HA nh Hc) (p.tail m8)).toArray), w' = s.W)) rfl ?_
  simp only [opsAt, List.getElem?_toArray, List.getElem?_cons_succ, List.getElem?_cons_zero]
  repeat (go_big_quiet_step (fail))
  refine wpQuiet_nil ?_
  obtain ⟨W_d, hwd⟩ : ∃ v, W.drew = v := ⟨_, rfl⟩
  have HBW_1 : Hid (Below W.heap.size W W_d) := Lib.hid (by rw [← hwd]; exact (Below.refl _ _).drew)
  have HBR_1 : Hid (Below W.heap.size W W_d) := Lib.hid (by rw [← hwd]; exact (Below.refl _ _).drew)
  rw [hwd]
  clear hwd
  refine effs_done ?_
  exact HKK.out _ _ _ _ _ _ _ _ _ _ _ _ _ HBR_1.out

set_option maxRecDepth 100000 in
set_option maxHeartbeats 3200000 in
theorem pb_check1 (k : Nat) (hk : k = 1) (W : World) (B : Nat) (p : Pu) (m5 m8 : PuM) (g5 g8 g10 nh Hc nf l0 l1 hh : Nat) (HA A11 : Option Addr) (n11 c11 : Nat) (hsm : PuSm p) (h5 : Blk W g5 59 (p.cells m5).toArray) (h8 : Blk W g8 65 (vwc k (p.v0.cells m8.m0) (p.v1.cells m8.m1) (.slice HA nh Hc) (p.tail m8)).toArray) (h10 : Blk W g10 59 (p.cells m8).toArray) (hO5 : PuO W B p m5) (hO8 : PuO W B p m8) (hl0 : p.v0.lib = l0) (hl1 : p.v1.lib = l1) (hhh : p.v0.hand = hh) (hb0 : l0 ≤ 500) (hb1 : l1 ≤ 500) (hb2 : hh ≤ 500) (hn11 : n11 = l0 + l1 + hh) (Q : Exit → Act → World → Prop) (t0 t1 t2 t3 t4 t6 t9 t13 t14 t15 t16 t17 t18 t19 t20 t21 t22 t23 t24 t25 t26 t27 t28 t29 t30 t31 t32 t33 t34 t35 t36 t37 t38 t39 t40 t41 t42 t43 t44 t45 t46 t47 t48 t49 t50 t51 t52 t53 t54 t55 t56 t57 t58 t59 t60 t61 t62 t63 t64 t65 t66 t67 t68 t69 t70 t71 t72 t73 t74 t75 t76 t77 t78 t79 t80 t81 t82 t83 t84 t85 t86 t87 t88 t89 t90 t91 t92 t93 t94 t95 t96 t97 t98 t99 t100 t101 t102 t103 t104 t105 t106 t107 t108 t109 t110 t111 t112 t113 t114 t115 t116 t117 t118 t119 t120 t121 t122 t123 t124 t125 t126 t127 t128 t129 t130 : Value)
    (hQ : ∀ d v c a w, Q (.panic c) (Act.put a d v) w → Q (.panic c) a w)
    (hK : ∀ (u88 u89 u90 u91 u92 u93 u94 u95 u96 u97 u98 u99 u100 u101 u102 u103 u104 u105 u106 u107 u108 u109 u110 u111 u112 u113 u114 u115 u116 u117 u118 u119 u120 u121 u122 u123 u124 u125 u126 u127 u128 u129 : Value)  (W9 : World), Below W.heap.size W W9 → Q .normal ⟨#[t0, t1, t2, t3, t4, .pointer (some ⟨g5, 0, none⟩), t6, .int .i64 k, .pointer (some ⟨g8, 0, none⟩), t9, .pointer (some ⟨g10, 0, none⟩), .slice A11 n11 c11, .int .i64 0, t13, t14, t15, t16, t17, t18, t19, t20, t21, t22, t23, t24, t25, t26, t27, t28, t29, t30, t31, t32, t33, t34, t35, t36, t37, t38, t39, t40, t41, t42, t43, t44, t45, t46, t47, t48, t49, t50, t51, t52, t53, t54, t55, t56, t57, t58, t59, t60, t61, t62, t63, t64, t65, t66, t67, t68, t69, t70, t71, t72, t73, t74, t75, t76, t77, t78, t79, t80, t81, t82, t83, t84, t85, t86, t87, u88, u89, u90, u91, u92, u93, u94, u95, u96, u97, u98, u99, u100, u101, u102, u103, u104, u105, u106, u107, u108, u109, u110, u111, u112, u113, u114, u115, u116, u117, u118, u119, u120, u121, u122, u123, u124, u125, u126, u127, u128, u129, .bool false], []⟩ W9) :
    Code.wp Try.prog (regOf Try.f6 15) Q ⟨#[t0, t1, t2, t3, t4, .pointer (some ⟨g5, 0, none⟩), t6, .int .i64 k, .pointer (some ⟨g8, 0, none⟩), t9, .pointer (some ⟨g10, 0, none⟩), .slice A11 n11 c11, .int .i64 0, t13, t14, t15, t16, t17, t18, t19, t20, t21, t22, t23, t24, t25, t26, t27, t28, t29, t30, t31, t32, t33, t34, t35, t36, t37, t38, t39, t40, t41, t42, t43, t44, t45, t46, t47, t48, t49, t50, t51, t52, t53, t54, t55, t56, t57, t58, t59, t60, t61, t62, t63, t64, t65, t66, t67, t68, t69, t70, t71, t72, t73, t74, t75, t76, t77, t78, t79, t80, t81, t82, t83, t84, t85, t86, t87, t88, t89, t90, t91, t92, t93, t94, t95, t96, t97, t98, t99, t100, t101, t102, t103, t104, t105, t106, t107, t108, t109, t110, t111, t112, t113, t114, t115, t116, t117, t118, t119, t120, t121, t122, t123, t124, t125, t126, t127, t128, t129, t130], []⟩ W := by
  have HKK := Lib.hid hK
  clear hK
  conv => arg 2; whnf
  subst hk
  have HQ := Lib.hid hQ
  have H5 := Lib.hid h5
  have H8 := Lib.hid h8
  have H10 := Lib.hid h10
  have HO5 := Lib.hid hO5
  have HO8 := Lib.hid hO8
  have HSM := Lib.hid hsm
  obtain ⟨⟨FA, Fc⟩, hF5⟩ : ∃ s, m5.m1.F = s := ⟨_, rfl⟩
  obtain ⟨⟨GA, Gc⟩, hF8⟩ : ∃ s, m8.m1.F = s := ⟨_, rfl⟩
  obtain ⟨nf, hnf⟩ : ∃ n, p.v1.fld.length = n := ⟨_, rfl⟩
  have HF5 := Lib.hid hF5
  have HF8 := Lib.hid hF8
  have HNF := Lib.hid hnf
  have h5l := h5.lt
  have h8l := h8.lt
  have h10l := h10.lt
  have hne_ : Nonempty (In (fun W' => Blk W' g5 59 (p.cells m5).toArray ∧ Blk W' g8 65 (vwc ((1 : Nat) : Int) (p.v0.cells m8.m0) (p.v1.cells m8.m1) (.slice HA nh Hc) (p.tail m8)).toArray ∧ Blk W' g10 59 (p.cells m8).toArray)) := ⟨⟨W, h5, h8, h10⟩⟩
  have x0 : ∀ s : In (fun W' => Blk W' g5 59 (p.cells m5).toArray ∧ Blk W' g8 65 (vwc ((1 : Nat) : Int) (p.v0.cells m8.m0) (p.v1.cells m8.m1) (.slice HA nh Hc) (p.tail m8)).toArray ∧ Blk W' g10 59 (p.cells m8).toArray), s.W.cell? ⟨g5, 5, none⟩ = some (.int .i64 l0) := fun s => (s.h.1.at_ 5).trans (by rw [← hl0]; rfl)
  have x1 : ∀ s : In (fun W' => Blk W' g5 59 (p.cells m5).toArray ∧ Blk W' g8 65 (vwc ((1 : Nat) : Int) (p.v0.cells m8.m0) (p.v1.cells m8.m1) (.slice HA nh Hc) (p.tail m8)).toArray ∧ Blk W' g10 59 (p.cells m8).toArray), s.W.cell? ⟨g5, 19, none⟩ = some (.int .i64 l1) := fun s => (s.h.1.at_ 19).trans (by rw [← hl1]; rfl)
  have x2 : ∀ s : In (fun W' => Blk W' g5 59 (p.cells m5).toArray ∧ Blk W' g8 65 (vwc ((1 : Nat) : Int) (p.v0.cells m8.m0) (p.v1.cells m8.m1) (.slice HA nh Hc) (p.tail m8)).toArray ∧ Blk W' g10 59 (p.cells m8).toArray), s.W.cell? ⟨g5, 6, none⟩ = some (.int .i64 hh) := fun s => (s.h.1.at_ 6).trans (by rw [← hhh]; rfl)
  have x3 : ∀ s : In (fun W' => Blk W' g5 59 (p.cells m5).toArray ∧ Blk W' g8 65 (vwc ((1 : Nat) : Int) (p.v0.cells m8.m0) (p.v1.cells m8.m1) (.slice HA nh Hc) (p.tail m8)).toArray ∧ Blk W' g10 59 (p.cells m8).toArray), s.W.cell? ⟨g5, 21, none⟩ = some (.slice FA nf Fc) := fun s => (s.h.1.at_ 21).trans (by show some (m5.m1.F.v p.v1.fld.length) = _; rw [hF5, hnf]; rfl)
  have x4 : ∀ s : In (fun W' => Blk W' g5 59 (p.cells m5).toArray ∧ Blk W' g8 65 (vwc ((1 : Nat) : Int) (p.v0.cells m8.m0) (p.v1.cells m8.m1) (.slice HA nh Hc) (p.tail m8)).toArray ∧ Blk W' g10 59 (p.cells m8).toArray), s.W.cell? ⟨g8, 22, none⟩ = some (.slice GA nf Gc) := fun s => (s.h.2.1.at_ 22).trans (by show some (m8.m1.F.v p.v1.fld.length) = _; rw [hF8, hnf]; rfl)
  have HL5 : Hid (∀ W', (∃ s : In (fun W' => Blk W' g5 59 (p.cells m5).toArray ∧ Blk W' g8 65 (vwc ((1 : Nat) : Int) (p.v0.cells m8.m0) (p.v1.cells m8.m1) (.slice HA nh Hc) (p.tail m8)).toArray ∧ Blk W' g10 59 (p.cells m8).toArray), W' = s.W) → (Instr.loadAt 59 (.pointer (some ⟨g5, 0, none⟩))).run Try.prog W' = .ok (.agg (p.cells m5).toArray) W') := Lib.hid (fun W' hW => by
    obtain ⟨s, rfl⟩ := hW
    exact s.h.1.mid (p.cells m5) _ (fun j v hj => by rw [Nat.zero_add]; simpa using hj) Try.underlying59 rfl (by rw [size_public]; rfl))
  have HL10 : Hid (∀ W', (∃ s : In (fun W' => Blk W' g5 59 (p.cells m5).toArray ∧ Blk W' g8 65 (vwc ((1 : Nat) : Int) (p.v0.cells m8.m0) (p.v1.cells m8.m1) (.slice HA nh Hc) (p.tail m8)).toArray ∧ Blk W' g10 59 (p.cells m8).toArray), W' = s.W) → (Instr.loadAt 59 (.pointer (some ⟨g10, 0, none⟩))).run Try.prog W' = .ok (.agg (p.cells m8).toArray) W') := Lib.hid (fun W' hW => by
    obtain ⟨s, rfl⟩ := hW
    exact s.h.2.2.mid (p.cells m8) _ (fun j v hj => by rw [Nat.zero_add]; simpa using hj) Try.underlying59 rfl (by rw [size_public]; rfl))
  subst hn11
  clear hQ h5 h8 h10 hO5 hO8 hsm hl0 hl1 hhh hF5 hF8 hnf
  refine wp_region_sched (fun w' => ∃ s : In (fun W' => Blk W' g5 59 (p.cells m5).toArray ∧ Blk W' g8 65 (vwc ((1 : Nat) : Int) (p.v0.cells m8.m0) (p.v1.cells m8.m1) (.slice HA nh Hc) (p.tail m8)).toArray ∧ Blk W' g10 59 (p.cells m8).toArray), w' = s.W) [0,1] (.one 2 [3,4,5,6,7,8,9,10,11,12,13,14,15,16,17,18,19,20,21,22,23,24,25,26,27,28,29,30,31,32,33,34,35,36,37,38,39] (.one 40 [41,42] .done)) (by kernel_rfl) (by kernel_rfl) HQ.out ⟨⟨_, ⟨H5.out.drew, H8.out.drew, H10.out.drew⟩⟩, rfl⟩ ?_
  refine quiet_as (C' := (fun w' => ∃ s : In (fun W' => Blk W' g5 59 (p.cells m5).toArray ∧ Blk W' g8 65 (vwc ((1 : Nat) : Int) (p.v0.cells m8.m0) (p.v1.cells m8.m1) (.slice HA nh Hc) (p.tail m8)).toArray ∧ Blk W' g10 59 (p.cells m8).toArray), w' = s.W)) rfl ?_
  simp only [opsAt, List.getElem?_toArray, List.getElem?_cons_succ, List.getElem?_cons_zero]
  repeat (first | (refine wpQuiet_load_by HL5.out ⟨_, ⟨⟨_, H5.out, H8.out, H10.out⟩, rfl⟩⟩ rfl rfl rfl ?_; simp only [Act.put, List.setIfInBounds_toArray, List.set_cons_succ, List.set_cons_zero]) | (refine wpQuiet_load_by HL10.out ⟨_, ⟨⟨_, H5.out, H8.out, H10.out⟩, rfl⟩⟩ rfl rfl rfl ?_; simp only [Act.put, List.setIfInBounds_toArray, List.set_cons_succ, List.set_cons_zero]) | go_big_quiet_step (fail))
  refine wpQuiet_nil ?_
  obtain ⟨W_d, hwd⟩ : ∃ v, W.drew = v := ⟨_, rfl⟩
  have HBW_1 : Hid (Below W.heap.size W W_d) := Lib.hid (by rw [← hwd]; exact (Below.refl _ _).drew)
  have HBR_1 : Hid (Below W.heap.size W W_d) := Lib.hid (by rw [← hwd]; exact (Below.refl _ _).drew)
  have B5_1 := Lib.hid ((H5.out).call (show Below W.heap.size W W_d by rw [← hwd]; exact (Below.refl _ _).drew))
  have B8_1 := Lib.hid ((H8.out).call (show Below W.heap.size W W_d by rw [← hwd]; exact (Below.refl _ _).drew))
  have BX_1 := Lib.hid ((H10.out).call (show Below W.heap.size W W_d by rw [← hwd]; exact (Below.refl _ _).drew))
  have F5_1 := Lib.hid ((HO5.out).below (show Below W.heap.size W W_d by rw [← hwd]; exact (Below.refl _ _).drew))
  have F8_1 := Lib.hid ((HO8.out).below (show Below W.heap.size W W_d by rw [← hwd]; exact (Below.refl _ _).drew))
  rw [hwd]
  clear hwd
  refine eff_as (C' := (fun w' => ∃ s : In (fun W' => Blk W' g5 59 (p.cells m5).toArray ∧ Blk W' g8 65 (vwc ((1 : Nat) : Int) (p.v0.cells m8.m0) (p.v1.cells m8.m1) (.slice HA nh Hc) (p.tail m8)).toArray ∧ Blk W' g10 59 (p.cells m8).toArray), w' = s.W)) rfl ?_
  (refine eff_lit rfl rfl (fun K hK => ?_))
  go_big_op
  refine (pueq_any p m5 m8 W_d F5_1.out.isR F8_1.out.isR HSM.out).mono ?_
  rintro e W_2 ⟨rfl, hbW_2⟩
  have HBW_3 := Lib.hid (below_call HBW_1.out hbW_2 HBW_1.out.size)
  clear HBW_1
  have HBR_3 := Lib.hid (below_call HBR_1.out hbW_2 HBR_1.out.size)
  clear HBR_1
  have B5_3 := Lib.hid (B5_1.out.call hbW_2)
  clear B5_1
  have B8_3 := Lib.hid (B8_1.out.call hbW_2)
  clear B8_1
  have BX_3 := Lib.hid (BX_1.out.call hbW_2)
  clear BX_1
  have F5_3 := Lib.hid (F5_1.out.below hbW_2)
  clear F5_1
  have F8_3 := Lib.hid (F8_1.out.below hbW_2)
  clear F8_1
  clear hbW_2
  refine hK _ _ ⟨⟨_, ⟨B5_3.out, B8_3.out, BX_3.out⟩⟩, rfl⟩ ?_
  clear hK K
  try simp only [opsAt, List.getElem?_toArray, List.getElem?_cons_succ, List.getElem?_cons_zero]
  repeat (first | (refine wpQuiet_load_by HL5.out ⟨_, ⟨⟨_, H5.out, H8.out, H10.out⟩, rfl⟩⟩ rfl rfl rfl ?_; simp only [Act.put, List.setIfInBounds_toArray, List.set_cons_succ, List.set_cons_zero]) | (refine wpQuiet_load_by HL10.out ⟨_, ⟨⟨_, H5.out, H8.out, H10.out⟩, rfl⟩⟩ rfl rfl rfl ?_; simp only [Act.put, List.setIfInBounds_toArray, List.set_cons_succ, List.set_cons_zero]) | go_big_quiet_step (fail))
  refine wpQuiet_nil ?_
  refine eff_as (C' := (fun w' => ∃ s : In (fun W' => Blk W' g5 59 (p.cells m5).toArray ∧ Blk W' g8 65 (vwc ((1 : Nat) : Int) (p.v0.cells m8.m0) (p.v1.cells m8.m1) (.slice HA nh Hc) (p.tail m8)).toArray ∧ Blk W' g10 59 (p.cells m8).toArray), w' = s.W)) rfl ?_
  (refine eff_lit rfl rfl (fun K hK => ?_))
  have hr5 := F5_3.out.v1.F.reads
  have hr8 := F8_3.out.v1.F.reads
  rw [HF5.out, HNF.out] at hr5
  rw [HF8.out, HNF.out] at hr8
  have HOT := Lib.hid (objs_top FA GA nf Fc Gc p.v1.fld W_2 hr5 hr8 HNF.out (by have := HSM.out.F1; rw [HNF.out] at this; omega))
  clear hr5 hr8
  go_big_op
  refine (HOT.out).mono ?_
  rintro e W_4 ⟨rfl, hbW_4⟩
  have HBW_5 := Lib.hid (below_call HBW_3.out hbW_4 HBW_3.out.size)
  clear HBW_3
  have HBR_5 := Lib.hid (below_call HBR_3.out hbW_4 HBR_3.out.size)
  clear HBR_3
  have B5_5 := Lib.hid (B5_3.out.call hbW_4)
  clear B5_3
  have B8_5 := Lib.hid (B8_3.out.call hbW_4)
  clear B8_3
  have BX_5 := Lib.hid (BX_3.out.call hbW_4)
  clear BX_3
  have F5_5 := Lib.hid (F5_3.out.below hbW_4)
  clear F5_3
  have F8_5 := Lib.hid (F8_3.out.below hbW_4)
  clear F8_3
  clear hbW_4
  refine hK _ _ ⟨⟨_, ⟨B5_5.out, B8_5.out, BX_5.out⟩⟩, rfl⟩ ?_
  clear hK K
  try simp only [opsAt, List.getElem?_toArray, List.getElem?_cons_succ, List.getElem?_cons_zero]
  repeat (first | (refine wpQuiet_load_by HL5.out ⟨_, ⟨⟨_, H5.out, H8.out, H10.out⟩, rfl⟩⟩ rfl rfl rfl ?_; simp only [Act.put, List.setIfInBounds_toArray, List.set_cons_succ, List.set_cons_zero]) | (refine wpQuiet_load_by HL10.out ⟨_, ⟨⟨_, H5.out, H8.out, H10.out⟩, rfl⟩⟩ rfl rfl rfl ?_; simp only [Act.put, List.setIfInBounds_toArray, List.set_cons_succ, List.set_cons_zero]) | go_big_quiet_step (fail))
  refine wpQuiet_nil ?_
  refine effs_done ?_
  exact HKK.out _ _ _ _ _ _ _ _ _ _ _ _ _ _ _ _ _ _ _ _ _ _ _ _ _ _ _ _ _ _ _ _ _ _ _ _ _ _ _ _ _ _ _ HBR_5.out

theorem built_publ (SC : List Value) (h : SC.length = 28) (A0 A1 A2 A3 : Option Addr) (n0 c0 n1 c1 n2 c2 n3 c3 : Nat) (i0 i1 i2 i3 i4 : Int) : Try.prog.built 59 [(0, .agg SC.toArray), (1, .slice A0 n0 c0), (2, .slice A1 n1 c1), (3, .slice A2 n2 c2), (4, .slice A3 n3 c3), (5, .int .i64 i0), (6, .int .i64 i1), (7, .int .i64 i2), (8, .int .i64 i3), (9, .int .i64 i4)] = some (SC ++ ([.slice A0 n0 c0, .slice A1 n1 c1, .slice A2 n2 c2, .slice A3 n3 c3, .int .i64 i0, .int .i64 i1, .int .i64 i2, .int .i64 i3, .int .i64 i4] : List Value)).toArray := by
  rcases SC with _ | ⟨v0, SC⟩
  · simp at h
  rcases SC with _ | ⟨v1, SC⟩
  · simp at h
  rcases SC with _ | ⟨v2, SC⟩
  · simp at h
  rcases SC with _ | ⟨v3, SC⟩
  · simp at h
  rcases SC with _ | ⟨v4, SC⟩
  · simp at h
  rcases SC with _ | ⟨v5, SC⟩
  · simp at h
  rcases SC with _ | ⟨v6, SC⟩
  · simp at h
  rcases SC with _ | ⟨v7, SC⟩
  · simp at h
  rcases SC with _ | ⟨v8, SC⟩
  · simp at h
  rcases SC with _ | ⟨v9, SC⟩
  · simp at h
  rcases SC with _ | ⟨v10, SC⟩
  · simp at h
  rcases SC with _ | ⟨v11, SC⟩
  · simp at h
  rcases SC with _ | ⟨v12, SC⟩
  · simp at h
  rcases SC with _ | ⟨v13, SC⟩
  · simp at h
  rcases SC with _ | ⟨v14, SC⟩
  · simp at h
  rcases SC with _ | ⟨v15, SC⟩
  · simp at h
  rcases SC with _ | ⟨v16, SC⟩
  · simp at h
  rcases SC with _ | ⟨v17, SC⟩
  · simp at h
  rcases SC with _ | ⟨v18, SC⟩
  · simp at h
  rcases SC with _ | ⟨v19, SC⟩
  · simp at h
  rcases SC with _ | ⟨v20, SC⟩
  · simp at h
  rcases SC with _ | ⟨v21, SC⟩
  · simp at h
  rcases SC with _ | ⟨v22, SC⟩
  · simp at h
  rcases SC with _ | ⟨v23, SC⟩
  · simp at h
  rcases SC with _ | ⟨v24, SC⟩
  · simp at h
  rcases SC with _ | ⟨v25, SC⟩
  · simp at h
  rcases SC with _ | ⟨v26, SC⟩
  · simp at h
  rcases SC with _ | ⟨v27, SC⟩
  · simp at h
  rcases SC with _ | ⟨x, SC⟩
  · exact built_public v0 v1 v2 v3 v4 v5 v6 v7 v8 v9 v10 v11 v12 v13 v14 v15 v16 v17 v18 v19 v20 v21 v22 v23 v24 v25 v26 v27 A0 A1 A2 A3 n0 c0 n1 c1 n2 c2 n3 c3 i0 i1 i2 i3 i4
  · simp at h
set_option maxRecDepth 100000 in
set_option maxHeartbeats 3200000 in
theorem pb_seen (W : World) (k : Nat) (p : Pu) (m8 : PuM) (g8 nh Hc : Nat) (HA : Option Addr) (h8 : Blk W g8 65 (vwc k (p.v0.cells m8.m0) (p.v1.cells m8.m1) (.slice HA nh Hc) (p.tail m8)).toArray) (Q : Exit → Act → World → Prop) (t0 t1 t2 t3 t4 t5 t6 t7 t9 t10 t11 t12 t13 t14 t15 t16 t17 t18 t19 t20 t21 t22 t23 t24 t25 t26 t27 t28 t29 t30 t31 t32 t33 t34 t35 t36 t37 t38 t39 t40 t41 t42 t43 t44 t45 t46 t47 t48 t49 t50 t51 t52 t53 t54 t55 t56 t57 t58 t59 t60 t61 t62 t63 t64 t65 t66 t67 t68 t69 t70 t71 t72 t73 t74 t75 t76 t77 t78 t79 t80 t81 t82 t83 t84 t85 t86 t87 t88 t89 t90 t91 t92 t93 t94 t95 t96 t97 t98 t99 t100 t101 t102 t103 t104 t105 t106 t107 t108 t109 t110 t111 t112 t113 t114 t115 t116 t117 t118 t119 t120 t121 t122 t123 t124 t125 t126 t127 t128 t129 t130 : Value)
    (hQ : ∀ d v c a w, Q (.panic c) (Act.put a d v) w → Q (.panic c) a w)
    (hK : ∀ (u61 u62 u63 u64 u65 u66 u67 u68 u69 u70 u71 u72 u73 u74 u75 u76 u77 u78 u79 u80 u81 : Value) (g10 : Nat) (W9 : World), W.heap.size = g10 ∧ Blk W9 g10 59 (p.cells m8).toArray ∧ Below W.heap.size W W9 → Q .normal ⟨#[t0, t1, t2, t3, t4, t5, t6, t7, .pointer (some ⟨g8, 0, none⟩), t9, .pointer (some ⟨g10, 0, none⟩), t11, t12, t13, t14, t15, t16, t17, t18, t19, t20, t21, t22, t23, t24, t25, t26, t27, t28, t29, t30, t31, t32, t33, t34, t35, t36, t37, t38, t39, t40, t41, t42, t43, t44, t45, t46, t47, t48, t49, t50, t51, t52, t53, t54, t55, t56, t57, t58, t59, t60, u61, u62, u63, u64, u65, u66, u67, u68, u69, u70, u71, u72, u73, u74, u75, u76, u77, u78, u79, u80, u81, t82, t83, t84, t85, t86, t87, t88, t89, t90, t91, t92, t93, t94, t95, t96, t97, t98, t99, t100, t101, t102, t103, t104, t105, t106, t107, t108, t109, t110, t111, t112, t113, t114, t115, t116, t117, t118, t119, t120, t121, t122, t123, t124, t125, t126, t127, t128, t129, t130], []⟩ W9) :
    Code.wp Try.prog (regOf Try.f6 13) Q ⟨#[t0, t1, t2, t3, t4, t5, t6, t7, .pointer (some ⟨g8, 0, none⟩), t9, t10, t11, t12, t13, t14, t15, t16, t17, t18, t19, t20, t21, t22, t23, t24, t25, t26, t27, t28, t29, t30, t31, t32, t33, t34, t35, t36, t37, t38, t39, t40, t41, t42, t43, t44, t45, t46, t47, t48, t49, t50, t51, t52, t53, t54, t55, t56, t57, t58, t59, t60, t61, t62, t63, t64, t65, t66, t67, t68, t69, t70, t71, t72, t73, t74, t75, t76, t77, t78, t79, t80, t81, t82, t83, t84, t85, t86, t87, t88, t89, t90, t91, t92, t93, t94, t95, t96, t97, t98, t99, t100, t101, t102, t103, t104, t105, t106, t107, t108, t109, t110, t111, t112, t113, t114, t115, t116, t117, t118, t119, t120, t121, t122, t123, t124, t125, t126, t127, t128, t129, t130], []⟩ W := by
  have HKK := Lib.hid hK
  clear hK
  conv => arg 2; whnf
  have HQ := Lib.hid hQ
  have hl8 := h8.lt
  have HPC : Hid (p.cells m8 = (p.v0.cells m8.m0 ++ p.v1.cells m8.m1) ++ p.tail m8) := Lib.hid rfl
  have hlen : (p.v0.cells m8.m0 ++ p.v1.cells m8.m1).length = 28 := rfl
  have hone : ∀ v ∈ p.cells m8, v.oneCell' = true := one_pu p m8
  have hld : (Instr.loadAt 57 (.pointer (some ⟨g8, 1, none⟩))).run Try.prog W = .ok (.agg (p.v0.cells m8.m0 ++ p.v1.cells m8.m1).toArray) W := h8.mid (p.v0.cells m8.m0 ++ p.v1.cells m8.m1) _ (fun j v hj => by
    have hj2 := (List.getElem?_eq_some_iff.1 hj).1
    simp only [vwc, List.getElem?_toArray, Nat.add_comm 1 j, List.getElem?_cons_succ]
    rw [← List.append_assoc, List.getElem?_append_left hj2]
    exact hj) Try.underlying57 rfl (by rw [size_vseats]; rfl)
  obtain ⟨⟨SA, Sc⟩, eS⟩ : ∃ s, m8.S = s := ⟨_, rfl⟩
  obtain ⟨nS, hnS⟩ : ∃ n, p.stk.length = n := ⟨_, rfl⟩
  have y30 : W.cell? ⟨g8, 30, none⟩ = some (.slice SA nS Sc) := (h8.at_ 30).trans (by show some (m8.S.v p.stk.length) = _; rw [eS, hnS]; rfl)
  obtain ⟨⟨QA, Qc⟩, eQ⟩ : ∃ s, m8.Q = s := ⟨_, rfl⟩
  obtain ⟨nQ, hnQ⟩ : ∃ n, p.que.length = n := ⟨_, rfl⟩
  have y31 : W.cell? ⟨g8, 31, none⟩ = some (.slice QA nQ Qc) := (h8.at_ 31).trans (by show some (m8.Q.v p.que.length) = _; rw [eQ, hnQ]; rfl)
  obtain ⟨⟨ATA, ATc⟩, eAT⟩ : ∃ s, m8.AT = s := ⟨_, rfl⟩
  obtain ⟨nAT, hnAT⟩ : ∃ n, p.att.length = n := ⟨_, rfl⟩
  have y32 : W.cell? ⟨g8, 32, none⟩ = some (.slice ATA nAT ATc) := (h8.at_ 32).trans (by show some (m8.AT.v p.att.length) = _; rw [eAT, hnAT]; rfl)
  obtain ⟨⟨BKA, BKc⟩, eBK⟩ : ∃ s, m8.BK = s := ⟨_, rfl⟩
  obtain ⟨nBK, hnBK⟩ : ∃ n, p.blk.length = n := ⟨_, rfl⟩
  have y33 : W.cell? ⟨g8, 33, none⟩ = some (.slice BKA nBK BKc) := (h8.at_ 33).trans (by show some (m8.BK.v p.blk.length) = _; rw [eBK, hnBK]; rfl)
  obtain ⟨iturn, hiturn⟩ : ∃ i, p.turn = i := ⟨_, rfl⟩
  have y34 : W.cell? ⟨g8, 34, none⟩ = some (.int .i64 iturn) := (h8.at_ 34).trans (by rw [← hiturn]; rfl)
  obtain ⟨iactv, hiactv⟩ : ∃ i, p.actv = i := ⟨_, rfl⟩
  have y35 : W.cell? ⟨g8, 35, none⟩ = some (.int .i64 iactv) := (h8.at_ 35).trans (by rw [← hiactv]; rfl)
  obtain ⟨iphs, hiphs⟩ : ∃ i, p.phs = i := ⟨_, rfl⟩
  have y36 : W.cell? ⟨g8, 36, none⟩ = some (.int .i64 iphs) := (h8.at_ 36).trans (by rw [← hiphs]; rfl)
  obtain ⟨ihold, hihold⟩ : ∃ i, p.hold = i := ⟨_, rfl⟩
  have y37 : W.cell? ⟨g8, 37, none⟩ = some (.int .i64 ihold) := (h8.at_ 37).trans (by rw [← hihold]; rfl)
  obtain ⟨ipas, hipas⟩ : ∃ i, p.pas = i := ⟨_, rfl⟩
  have y38 : W.cell? ⟨g8, 38, none⟩ = some (.int .i64 ipas) := (h8.at_ 38).trans (by rw [← hipas]; rfl)
  have htl : p.tail m8 = [Value.slice SA nS Sc, Value.slice QA nQ Qc, Value.slice ATA nAT ATc, Value.slice BKA nBK BKc, Value.int .i64 iturn, Value.int .i64 iactv, Value.int .i64 iphs, Value.int .i64 ihold, Value.int .i64 ipas] := by unfold Pu.tail; rw [eS, hnS, eQ, hnQ, eAT, hnAT, eBK, hnBK, hiturn, hiactv, hiphs, hihold, hipas]; rfl
  have hpc := HPC.out
  rw [htl] at hpc
  obtain ⟨SC, hSC⟩ : ∃ l, p.v0.cells m8.m0 ++ p.v1.cells m8.m1 = l := ⟨_, rfl⟩
  rw [hSC] at hpc hlen hld
  rw [hpc] at hone
  have HLD := Lib.hid hld
  have HBU := Lib.hid (built_publ SC hlen SA QA ATA BKA nS Sc nQ Qc nAT ATc nBK BKc iturn iactv iphs ihold ipas)
  obtain ⟨w6, hw6⟩ : ∃ w6, W.alloc (.cells #[.int .i64 0, .int .i64 0, .int .i64 0, .int .i64 0, .int .i64 0, .int .i64 0, .int .i64 0, .slice none 0 0, .slice none 0 0, .bool false, .bool false, .bool false, .int .i64 0, .int .i64 0, .int .i64 0, .int .i64 0, .int .i64 0, .int .i64 0, .int .i64 0, .int .i64 0, .int .i64 0, .slice none 0 0, .slice none 0 0, .bool false, .bool false, .bool false, .int .i64 0, .int .i64 0, .slice none 0 0, .slice none 0 0, .slice none 0 0, .slice none 0 0, .int .i64 0, .int .i64 0, .int .i64 0, .int .i64 0, .int .i64 0] 59) = w6 := ⟨_, rfl⟩
  obtain ⟨g10, hg10⟩ : ∃ g, W.heap.size = g := ⟨_, rfl⟩
  have hb6 : Below W.heap.size W w6 := by rw [← hw6]; exact (Below.refl _ _).alloc (Nat.le_refl _) _
  have hk6 : Blk w6 g10 59 #[.int .i64 0, .int .i64 0, .int .i64 0, .int .i64 0, .int .i64 0, .int .i64 0, .int .i64 0, .slice none 0 0, .slice none 0 0, .bool false, .bool false, .bool false, .int .i64 0, .int .i64 0, .int .i64 0, .int .i64 0, .int .i64 0, .int .i64 0, .int .i64 0, .int .i64 0, .int .i64 0, .slice none 0 0, .slice none 0 0, .bool false, .bool false, .bool false, .int .i64 0, .int .i64 0, .slice none 0 0, .slice none 0 0, .slice none 0 0, .slice none 0 0, .int .i64 0, .int .i64 0, .int .i64 0, .int .i64 0, .int .i64 0] := by rw [← hw6]; exact Blk.mk_ _ _ _ _ hg10
  obtain ⟨W9, hst, hk9, hg9⟩ := hk6.storeAll (ty := 59) (SC ++ ([Value.slice SA nS Sc, Value.slice QA nQ Qc, Value.slice ATA nAT ATc, Value.slice BKA nBK BKc, Value.int .i64 iturn, Value.int .i64 iactv, Value.int .i64 iphs, Value.int .i64 ihold, Value.int .i64 ipas] : List Value)) (by rw [List.length_append, hlen]; rfl) (by rw [size_public, List.length_append, hlen]; rfl) hone
  have HST := Lib.hid hst
  have HEND : Hid (W.heap.size = g10 ∧ Blk W9 g10 59 (p.cells m8).toArray ∧ Below W.heap.size W W9) := Lib.hid ⟨hg10, by rw [hpc]; exact hk9, hb6.grown hg9 hb6.size (fun q hq => by injection hq with hq; omega)⟩
  clear hQ h8 hlen hone hld hSC hpc htl hb6 hk6 hst hk9 hg9 eS hnS eQ hnQ eAT hnAT eBK hnBK hiturn hiactv hiphs hihold hipas
  go_wp2_with (first
    | (refine wpList_load_by HLD.out rfl rfl rfl ?_; simp only [Act.put, List.setIfInBounds_toArray, List.set_cons_succ, List.set_cons_zero])
    | (refine wpList_op_by rfl (run_of_build (parts := #[(0, .tmp 62), (1, .tmp 64), (2, .tmp 66), (3, .tmp 68), (4, .tmp 70), (5, .tmp 72), (6, .tmp 74), (7, .tmp 76), (8, .tmp 78), (9, .tmp 80)]) (parts' := #[(0, .agg SC.toArray), (1, .slice SA nS Sc), (2, .slice QA nQ Qc), (3, .slice ATA nAT ATc), (4, .slice BKA nBK BKc), (5, .int .i64 iturn), (6, .int .i64 iactv), (7, .int .i64 iphs), (8, .int .i64 ihold), (9, .int .i64 ipas)]) rfl (by first | rfl | simp [Act.eval]) HBU.out) ?_; simp only [Act.put, List.setIfInBounds_toArray, List.set_cons_succ, List.set_cons_zero])
    | (refine wpList_store_by HST.out rfl rfl rfl rfl ?_; simp only [Act.put, List.setIfInBounds_toArray, List.set_cons_succ, List.set_cons_zero])
    | fail)
  exact HKK.out _ _ _ _ _ _ _ _ _ _ _ _ _ _ _ _ _ _ _ _ _ g10 W9 HEND.out

end Go.Proofs.Ytagpphelgghbpaa
