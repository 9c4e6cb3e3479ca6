/-
  BoundJudges: its last region, walked alone.
-/
import Derived.Test.YtleckpoppmecdaaBoundJudgesA
set_option linter.unusedSimpArgs false
set_option linter.unusedVariables false
namespace Go.Proofs.Ytleckpoppmecdaa.boundJudges
open Go.Joins Go.ChangeShapes Go.WideShapes Go.ChangeAt Go.RowKit

def findR (n : Nat) : Code → Option Code
  | .region m ops b => if m = n then some (.region m ops b) else Option.none
  | .loop c => findR n c
  | .seq a b => match findR n a with
    | some c => some c
    | Option.none => findR n b
  | .block _ c => findR n c
  | .scope c => findR n c
  | .cond _ a b => match findR n a with
    | some c => some c
    | Option.none => findR n b
  | _ => Option.none
noncomputable def lastCode : Code := (Try.f4.body.bind (findR 17)).getD .skip

set_option maxRecDepth 100000 in
set_option maxHeartbeats 2400000 in
theorem exit17 (c : Cfg) (w wr : World) (lA : Option Addr) (j lc : Nat) (ds : List DidR) (HNO : Hid (okB c = true)) (hD : DidsAt wr lA j ds) (hj4 : Hid (j ≤ 4096)) (HEX : Hid (BoxAt c w wr)) (K : Act → World → Prop) (Q : Exit → Act → World → Prop)
    (t0 t1 t2 t4 t5 t6 t8 t9 t10 t11 t12 t13 t14 t15 t16 t17 t18 t19 t20 t21 t22 t23 t24 t25 t26 t27 t28 t29 t30 t31 t32 t33 t34 t35 t36 t37 t38 t39 t40 t41 t42 t43 t44 t45 t46 t47 t48 t49 t50 t51 t52 t53 t54 t55 t56 t57 t58 t59 t60 t61 t62 t63 t64 t65 t66 t67 t68 t69 t70 t71 t72 t73 t74 t75 t76 t77 t78 t79 t80 t81 t82 t83 t84 t85 t86 t87 t88 t89 t90 t91 t92 t93 t94 t95 t96 t97 t98 t99 t100 t101 t102 t103 t104 t105 t106 t107 t108 t109 t110 t111 t112 t113 t114 t115 t116 : Value)
    (hK : ∀ (a : Act) (W : World), a.tmps.getD 6 undef = .bool true → a.defers = [] → Below w.heap.size w W → K a W) :
    Code.wp Try.prog lastCode (Exit.then K Q) ⟨#[t0, t1, t2, .pointer (some ⟨w.heap.size, 0, none⟩), t4, t5, t6, .slice lA j lc, t8, t9, t10, t11, t12, t13, t14, t15, t16, t17, t18, t19, t20, t21, t22, t23, t24, t25, t26, t27, t28, t29, t30, t31, t32, t33, t34, t35, t36, t37, t38, t39, t40, t41, t42, t43, t44, t45, t46, t47, t48, t49, t50, t51, t52, t53, t54, t55, t56, t57, t58, t59, t60, t61, t62, t63, t64, t65, t66, t67, t68, t69, t70, t71, t72, t73, t74, t75, t76, t77, t78, t79, t80, t81, t82, t83, t84, t85, t86, t87, t88, t89, t90, t91, t92, t93, t94, t95, t96, t97, t98, t99, t100, t101, t102, t103, t104, t105, t106, t107, t108, t109, t110, t111, t112, t113, t114, t115, t116], []⟩ wr := by
  have hDD := Lib.hid hD
  clear hD
  have HKK := Lib.hid hK
  clear hK
  conv => arg 2; whnf
  have HK : Hid (∀ W W' : World, (W.cell? ⟨w.heap.size, 0, none⟩ = some (.int .i64 c.l) ∧ W.cell? ⟨w.heap.size, 1, none⟩ = some (.int .i64 c.m) ∧ W.cell? ⟨w.heap.size, 2, none⟩ = some (.int .i64 c.a) ∧ W.cell? ⟨w.heap.size, 3, none⟩ = some (.int .i64 c.o) ∧ W.cell? ⟨w.heap.size, 4, none⟩ = some (.int .i64 c.t) ∧ W.cell? ⟨w.heap.size, 5, none⟩ = some (.int .i64 c.c) ∧ W.cell? ⟨w.heap.size, 6, none⟩ = some (.int .u64 c.rope) ∧ W.cell? ⟨w.heap.size, 7, none⟩ = some (.int .u64 c.bank) ∧ W.cell? ⟨w.heap.size, 8, none⟩ = some (.int .u64 c.bonus) ∧ W.cell? ⟨w.heap.size, 9, none⟩ = some (.int .u64 c.most) ∧ W.cell? ⟨w.heap.size, 10, none⟩ = some (.int .i64 c.str) ∧ W.cell? ⟨w.heap.size, 11, none⟩ = some (.int .u64 c.gr) ∧ W.cell? ⟨w.heap.size, 12, none⟩ = some (.string c.s0) ∧ W.cell? ⟨w.heap.size, 13, none⟩ = some (.string c.s1) ∧ W.cell? ⟨w.heap.size, 14, none⟩ = some (.int .i64 c.mi) ∧ W.cell? ⟨w.heap.size, 15, none⟩ = some (.int .i64 c.ke) ∧ w.heap.size + 1 ≤ W.heap.size ∧ Below w.heap.size w W) → Below W.heap.size W W' → (W'.cell? ⟨w.heap.size, 0, none⟩ = some (.int .i64 c.l) ∧ W'.cell? ⟨w.heap.size, 1, none⟩ = some (.int .i64 c.m) ∧ W'.cell? ⟨w.heap.size, 2, none⟩ = some (.int .i64 c.a) ∧ W'.cell? ⟨w.heap.size, 3, none⟩ = some (.int .i64 c.o) ∧ W'.cell? ⟨w.heap.size, 4, none⟩ = some (.int .i64 c.t) ∧ W'.cell? ⟨w.heap.size, 5, none⟩ = some (.int .i64 c.c) ∧ W'.cell? ⟨w.heap.size, 6, none⟩ = some (.int .u64 c.rope) ∧ W'.cell? ⟨w.heap.size, 7, none⟩ = some (.int .u64 c.bank) ∧ W'.cell? ⟨w.heap.size, 8, none⟩ = some (.int .u64 c.bonus) ∧ W'.cell? ⟨w.heap.size, 9, none⟩ = some (.int .u64 c.most) ∧ W'.cell? ⟨w.heap.size, 10, none⟩ = some (.int .i64 c.str) ∧ W'.cell? ⟨w.heap.size, 11, none⟩ = some (.int .u64 c.gr) ∧ W'.cell? ⟨w.heap.size, 12, none⟩ = some (.string c.s0) ∧ W'.cell? ⟨w.heap.size, 13, none⟩ = some (.string c.s1) ∧ W'.cell? ⟨w.heap.size, 14, none⟩ = some (.int .i64 c.mi) ∧ W'.cell? ⟨w.heap.size, 15, none⟩ = some (.int .i64 c.ke) ∧ w.heap.size + 1 ≤ W'.heap.size ∧ Below w.heap.size w W')) := by
    intro W W' ⟨h0, h1, h2, h3, h4, h5, h6, h7, h8, h9, h10, h11, h12, h13, h14, h15, hz, hB⟩ hb
    have hz' := hb.size
    have c0 := keep_at hb (w.heap.size) (by omega)
    exact ⟨(c0 _).trans h0, (c0 _).trans h1, (c0 _).trans h2, (c0 _).trans h3, (c0 _).trans h4, (c0 _).trans h5, (c0 _).trans h6, (c0 _).trans h7, (c0 _).trans h8, (c0 _).trans h9, (c0 _).trans h10, (c0 _).trans h11, (c0 _).trans h12, (c0 _).trans h13, (c0 _).trans h14, (c0 _).trans h15, by omega, below_call hB hb (by omega)⟩
  have HKS : Hid (∀ W W' : World, (DidsAt W lA j ds ∧ (W.cell? ⟨w.heap.size, 0, none⟩ = some (.int .i64 c.l) ∧ W.cell? ⟨w.heap.size, 1, none⟩ = some (.int .i64 c.m) ∧ W.cell? ⟨w.heap.size, 2, none⟩ = some (.int .i64 c.a) ∧ W.cell? ⟨w.heap.size, 3, none⟩ = some (.int .i64 c.o) ∧ W.cell? ⟨w.heap.size, 4, none⟩ = some (.int .i64 c.t) ∧ W.cell? ⟨w.heap.size, 5, none⟩ = some (.int .i64 c.c) ∧ W.cell? ⟨w.heap.size, 6, none⟩ = some (.int .u64 c.rope) ∧ W.cell? ⟨w.heap.size, 7, none⟩ = some (.int .u64 c.bank) ∧ W.cell? ⟨w.heap.size, 8, none⟩ = some (.int .u64 c.bonus) ∧ W.cell? ⟨w.heap.size, 9, none⟩ = some (.int .u64 c.most) ∧ W.cell? ⟨w.heap.size, 10, none⟩ = some (.int .i64 c.str) ∧ W.cell? ⟨w.heap.size, 11, none⟩ = some (.int .u64 c.gr) ∧ W.cell? ⟨w.heap.size, 12, none⟩ = some (.string c.s0) ∧ W.cell? ⟨w.heap.size, 13, none⟩ = some (.string c.s1) ∧ W.cell? ⟨w.heap.size, 14, none⟩ = some (.int .i64 c.mi) ∧ W.cell? ⟨w.heap.size, 15, none⟩ = some (.int .i64 c.ke) ∧ w.heap.size + 1 ≤ W.heap.size ∧ Below w.heap.size w W)) → Below W.heap.size W W' → (DidsAt W' lA j ds ∧ (W'.cell? ⟨w.heap.size, 0, none⟩ = some (.int .i64 c.l) ∧ W'.cell? ⟨w.heap.size, 1, none⟩ = some (.int .i64 c.m) ∧ W'.cell? ⟨w.heap.size, 2, none⟩ = some (.int .i64 c.a) ∧ W'.cell? ⟨w.heap.size, 3, none⟩ = some (.int .i64 c.o) ∧ W'.cell? ⟨w.heap.size, 4, none⟩ = some (.int .i64 c.t) ∧ W'.cell? ⟨w.heap.size, 5, none⟩ = some (.int .i64 c.c) ∧ W'.cell? ⟨w.heap.size, 6, none⟩ = some (.int .u64 c.rope) ∧ W'.cell? ⟨w.heap.size, 7, none⟩ = some (.int .u64 c.bank) ∧ W'.cell? ⟨w.heap.size, 8, none⟩ = some (.int .u64 c.bonus) ∧ W'.cell? ⟨w.heap.size, 9, none⟩ = some (.int .u64 c.most) ∧ W'.cell? ⟨w.heap.size, 10, none⟩ = some (.int .i64 c.str) ∧ W'.cell? ⟨w.heap.size, 11, none⟩ = some (.int .u64 c.gr) ∧ W'.cell? ⟨w.heap.size, 12, none⟩ = some (.string c.s0) ∧ W'.cell? ⟨w.heap.size, 13, none⟩ = some (.string c.s1) ∧ W'.cell? ⟨w.heap.size, 14, none⟩ = some (.int .i64 c.mi) ∧ W'.cell? ⟨w.heap.size, 15, none⟩ = some (.int .i64 c.ke) ∧ w.heap.size + 1 ≤ W'.heap.size ∧ Below w.heap.size w W'))) := fun W W' q hb => ⟨q.1.below hb, HK.out W W' q.2 hb⟩
  go_region_held3 (fun W => DidsAt W lA j ds ∧ (W.cell? ⟨w.heap.size, 0, none⟩ = some (.int .i64 c.l) ∧ W.cell? ⟨w.heap.size, 1, none⟩ = some (.int .i64 c.m) ∧ W.cell? ⟨w.heap.size, 2, none⟩ = some (.int .i64 c.a) ∧ W.cell? ⟨w.heap.size, 3, none⟩ = some (.int .i64 c.o) ∧ W.cell? ⟨w.heap.size, 4, none⟩ = some (.int .i64 c.t) ∧ W.cell? ⟨w.heap.size, 5, none⟩ = some (.int .i64 c.c) ∧ W.cell? ⟨w.heap.size, 6, none⟩ = some (.int .u64 c.rope) ∧ W.cell? ⟨w.heap.size, 7, none⟩ = some (.int .u64 c.bank) ∧ W.cell? ⟨w.heap.size, 8, none⟩ = some (.int .u64 c.bonus) ∧ W.cell? ⟨w.heap.size, 9, none⟩ = some (.int .u64 c.most) ∧ W.cell? ⟨w.heap.size, 10, none⟩ = some (.int .i64 c.str) ∧ W.cell? ⟨w.heap.size, 11, none⟩ = some (.int .u64 c.gr) ∧ W.cell? ⟨w.heap.size, 12, none⟩ = some (.string c.s0) ∧ W.cell? ⟨w.heap.size, 13, none⟩ = some (.string c.s1) ∧ W.cell? ⟨w.heap.size, 14, none⟩ = some (.int .i64 c.mi) ∧ W.cell? ⟨w.heap.size, 15, none⟩ = some (.int .i64 c.ke) ∧ w.heap.size + 1 ≤ W.heap.size ∧ Below w.heap.size w W))
    (first
      | assumption
      | (obtain ⟨g0, g1, g2, g3, g4, g5, g6, g7, g8, g9, g10, g11, g12, g13, g14, g15, gz, gB⟩ := HEX.out.cells; exact ⟨hDD.out, g0, g1, g2, g3, g4, g5, g6, g7, g8, g9, g10, g11, g12, g13, g14, g15, gz, gB.drew⟩)
      | exact HKS.out _ _ (by assumption) hb)
    (first
      | (go_at_call 14; refine (rjudge_any c _ _ _ ds _ HNO.out (And.left (by assumption)) (Nat.le_trans hj4.out (by decide))).mono ?_; rintro e w' ⟨rfl, hb⟩)
      | (go_at_call 13; refine (judges_ok c _ _ _ ds _ HNO.out (And.left (by assumption)) hj4.out).mono ?_; rintro e w' ⟨rfl, hb⟩)
      | (go_at_call 7; refine (known_any _).mono ?_; rintro e w' ⟨rfl, hb⟩))
  all_goals go_wp2
  all_goals exact HKK.out _ _ rfl rfl (by go_split_ands; assumption)
end Go.Proofs.Ytleckpoppmecdaa.boundJudges
