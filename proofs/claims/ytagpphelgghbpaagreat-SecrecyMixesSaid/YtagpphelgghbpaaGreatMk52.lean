/-
  Texts: Rvw, Rvv.
-/
import Derived.Test.YtagpphelgghbpaaGreatMk51
set_option linter.unusedSimpArgs false
set_option linter.unusedVariables false
namespace Go.Proofs.YtagpphelgghbpaaGreat
open Go.RowKit

theorem numOk_iff (b:Bd):numOk b = true ↔ ((¬ b.actv < 0 ∧ ¬ 1 < b.actv ∧ ¬ b.turn < 0 ∧ ¬ 1000 < b.turn ∧ ¬ b.phs < 0 ∧ ¬ 10 < b.phs ∧ ¬ b.hold < -1 ∧ ¬ 1 < b.hold ∧ ¬ b.pas < 0 ∧ ¬ 2 < b.pas) ∧ ¬ 500 < b.objs.length ∧ ¬ 200 < b.stk.length ∧ ¬ 200 < b.que.length):=by
 unfold numOk
 simp only [Bool.and_eq_true,inR_iff,decide_eq_true_eq]
 omega
set_option maxRecDepth 100000 in
set_option maxHeartbeats 3200000 in
theorem rv_r1 (W:World) (b:Bd) (g no nk nq:Nat) (OA KA QA:Option Addr) (Oc Kc Qc:Nat) (o0:W.cell? ⟨g,0,none⟩ = some (.slice OA no Oc)) (o29:W.cell? ⟨g,29,none⟩ = some (.slice KA nk Kc)) (o30:W.cell? ⟨g,30,none⟩ = some (.slice QA nq Qc)) (o33:W.cell? ⟨g,33,none⟩ = some (.int .i64 b.turn)) (o34:W.cell? ⟨g,34,none⟩ = some (.int .i64 b.actv)) (o35:W.cell? ⟨g,35,none⟩ = some (.int .i64 b.phs)) (o36:W.cell? ⟨g,36,none⟩ = some (.int .i64 b.hold)) (o37:W.cell? ⟨g,37,none⟩ = some (.int .i64 b.pas)) (hn:b.objs.length = no ∧ b.stk.length = nk ∧ b.que.length = nq) (Q:Exit → Act → World → Prop) (t0 t2 t3 t4 t5 t6 t7 t8 t9 t10 t11 t12 t13 t14 t15 t16 t17 t18 t19 t20 t21 t22 t23 t24 t25 t26 t27 t28 t29 t30 t31 t32 t33 t34 t35 t36 t37 t38 t39 t40 t41 t42 t43 t44 t45 t46 t47 t48 t49 t50 t51 t52 t53 t54 t55 t56 t57 t58 t59 t60 t61 t62 t63 t64 t65 t66 t67 t68 t69 t70 t71 t72 t73 t74 t75 t76 t77 t78 t79 t80 t81 t82 t83 t84 t85 t86 t87 t88 t89 t90 t91 t92 t93 t94 t95 t96 t97 t98 t99 t100 t101 t102 t103 t104 t105 t106 t107 t108 t109 t110 t111 t112 t113 t114 t115 t116:Value)
  (hQ:∀ d v c a w,Q (.panic c) (Act.put a d v) w → Q (.panic c) a w)
  (hK:∀ (u5 u6 u7 u8 u9 u10 u11 u12 u13 u14 u15 u16 u17 u18 u19 u20 u21 u22 u23 u24 u25 u26 u27 u28 u29 u30 u31 u32 u33 u34 u35 u36 u37 u38 u39 u40 u41 u42 u43 u44 u45 u46 u47 u48 u49 u50 u51 u52 u53 u54 u55 u56 u57 u58 u59 u60 u61 u62 u63 u64 u65 u66 u67 u68 u69:Value) (v:Bool) (W9:World),(v = false ↔ numOk b = true) ∧ W9 = W → Q .normal ⟨#[t0,.pointer (some ⟨g,0,none⟩),t2,t3,t4,u5,u6,u7,u8,u9,u10,u11,u12,u13,u14,u15,u16,u17,u18,u19,u20,u21,u22,u23,u24,u25,u26,u27,u28,u29,u30,u31,u32,u33,u34,u35,u36,u37,u38,u39,u40,u41,u42,u43,u44,u45,u46,u47,u48,u49,u50,u51,u52,u53,u54,u55,u56,u57,u58,u59,u60,u61,u62,u63,u64,u65,u66,u67,u68,u69,.bool v,t71,t72,t73,t74,t75,t76,t77,t78,t79,t80,t81,t82,t83,t84,t85,t86,t87,t88,t89,t90,t91,t92,t93,t94,t95,t96,t97,t98,t99,t100,t101,t102,t103,t104,t105,t106,t107,t108,t109,t110,t111,t112,t113,t114,t115,t116],[]⟩ W9) :
  Code.wp Tryz.prog (regOf Tryz.f11 1) Q ⟨#[t0,.pointer (some ⟨g,0,none⟩),t2,t3,t4,t5,t6,t7,t8,t9,t10,t11,t12,t13,t14,t15,t16,t17,t18,t19,t20,t21,t22,t23,t24,t25,t26,t27,t28,t29,t30,t31,t32,t33,t34,t35,t36,t37,t38,t39,t40,t41,t42,t43,t44,t45,t46,t47,t48,t49,t50,t51,t52,t53,t54,t55,t56,t57,t58,t59,t60,t61,t62,t63,t64,t65,t66,t67,t68,t69,t70,t71,t72,t73,t74,t75,t76,t77,t78,t79,t80,t81,t82,t83,t84,t85,t86,t87,t88,t89,t90,t91,t92,t93,t94,t95,t96,t97,t98,t99,t100,t101,t102,t103,t104,t105,t106,t107,t108,t109,t110,t111,t112,t113,t114,t115,t116],[]⟩ W:=by
 have HKK:=Lib.hid hK
 clear hK
 conv => arg 2;whnf
 have HN:=Lib.hid hn
 clear hn
 by_cases c1:b.actv < 0
 case pos =>
  have e1:decide (b.actv < 0) = true:=decide_eq_true c1
  have HBAD:Hid (¬ numOk b = true):=Lib.hid (fun hv => by have h1:=(numOk_iff b).1 hv;exact absurd c1 (h1.1.1))
  go_wp2_with fail
  exact HKK.out _ _ _ _ _ _ _ _ _ _ _ _ _ _ _ _ _ _ _ _ _ _ _ _ _ _ _ _ _ _ _ _ _ _ _ _ _ _ _ _ _ _ _ _ _ _ _ _ _ _ _ _ _ _ _ _ _ _ _ _ _ _ _ _ _ true _ ⟨⟨fun h => (by cases h),fun h => absurd h HBAD.out⟩,rfl⟩
 have d1:decide (b.actv < 0) = false:=decide_eq_false c1
 have C1:=Lib.hid c1
 clear c1
 by_cases c2:1 < b.actv
 case pos =>
  have e2:decide (1 < b.actv) = true:=decide_eq_true c2
  have HBAD:Hid (¬ numOk b = true):=Lib.hid (fun hv => by have h1:=(numOk_iff b).1 hv;exact absurd c2 (h1.1.2.1))
  go_wp2_with fail
  exact HKK.out _ _ _ _ _ _ _ _ _ _ _ _ _ _ _ _ _ _ _ _ _ _ _ _ _ _ _ _ _ _ _ _ _ _ _ _ _ _ _ _ _ _ _ _ _ _ _ _ _ _ _ _ _ _ _ _ _ _ _ _ _ _ _ _ _ true _ ⟨⟨fun h => (by cases h),fun h => absurd h HBAD.out⟩,rfl⟩
 have d2:decide (1 < b.actv) = false:=decide_eq_false c2
 have C2:=Lib.hid c2
 clear c2
 by_cases c3:b.turn < 0
 case pos =>
  have e3:decide (b.turn < 0) = true:=decide_eq_true c3
  have HBAD:Hid (¬ numOk b = true):=Lib.hid (fun hv => by have h1:=(numOk_iff b).1 hv;exact absurd c3 (h1.1.2.2.1))
  go_wp2_with fail
  exact HKK.out _ _ _ _ _ _ _ _ _ _ _ _ _ _ _ _ _ _ _ _ _ _ _ _ _ _ _ _ _ _ _ _ _ _ _ _ _ _ _ _ _ _ _ _ _ _ _ _ _ _ _ _ _ _ _ _ _ _ _ _ _ _ _ _ _ true _ ⟨⟨fun h => (by cases h),fun h => absurd h HBAD.out⟩,rfl⟩
 have d3:decide (b.turn < 0) = false:=decide_eq_false c3
 have C3:=Lib.hid c3
 clear c3
 by_cases c4:1000 < b.turn
 case pos =>
  have e4:decide (1000 < b.turn) = true:=decide_eq_true c4
  have HBAD:Hid (¬ numOk b = true):=Lib.hid (fun hv => by have h1:=(numOk_iff b).1 hv;exact absurd c4 (h1.1.2.2.2.1))
  go_wp2_with fail
  exact HKK.out _ _ _ _ _ _ _ _ _ _ _ _ _ _ _ _ _ _ _ _ _ _ _ _ _ _ _ _ _ _ _ _ _ _ _ _ _ _ _ _ _ _ _ _ _ _ _ _ _ _ _ _ _ _ _ _ _ _ _ _ _ _ _ _ _ true _ ⟨⟨fun h => (by cases h),fun h => absurd h HBAD.out⟩,rfl⟩
 have d4:decide (1000 < b.turn) = false:=decide_eq_false c4
 have C4:=Lib.hid c4
 clear c4
 by_cases c5:b.phs < 0
 case pos =>
  have e5:decide (b.phs < 0) = true:=decide_eq_true c5
  have HBAD:Hid (¬ numOk b = true):=Lib.hid (fun hv => by have h1:=(numOk_iff b).1 hv;exact absurd c5 (h1.1.2.2.2.2.1))
  go_wp2_with fail
  exact HKK.out _ _ _ _ _ _ _ _ _ _ _ _ _ _ _ _ _ _ _ _ _ _ _ _ _ _ _ _ _ _ _ _ _ _ _ _ _ _ _ _ _ _ _ _ _ _ _ _ _ _ _ _ _ _ _ _ _ _ _ _ _ _ _ _ _ true _ ⟨⟨fun h => (by cases h),fun h => absurd h HBAD.out⟩,rfl⟩
 have d5:decide (b.phs < 0) = false:=decide_eq_false c5
 have C5:=Lib.hid c5
 clear c5
 by_cases c6:10 < b.phs
 case pos =>
  have e6:decide (10 < b.phs) = true:=decide_eq_true c6
  have HBAD:Hid (¬ numOk b = true):=Lib.hid (fun hv => by have h1:=(numOk_iff b).1 hv;exact absurd c6 (h1.1.2.2.2.2.2.1))
  go_wp2_with fail
  exact HKK.out _ _ _ _ _ _ _ _ _ _ _ _ _ _ _ _ _ _ _ _ _ _ _ _ _ _ _ _ _ _ _ _ _ _ _ _ _ _ _ _ _ _ _ _ _ _ _ _ _ _ _ _ _ _ _ _ _ _ _ _ _ _ _ _ _ true _ ⟨⟨fun h => (by cases h),fun h => absurd h HBAD.out⟩,rfl⟩
 have d6:decide (10 < b.phs) = false:=decide_eq_false c6
 have C6:=Lib.hid c6
 clear c6
 by_cases c7:b.hold < -1
 case pos =>
  have e7:decide (b.hold < -1) = true:=decide_eq_true c7
  have HBAD:Hid (¬ numOk b = true):=Lib.hid (fun hv => by have h1:=(numOk_iff b).1 hv;exact absurd c7 (h1.1.2.2.2.2.2.2.1))
  go_wp2_with fail
  exact HKK.out _ _ _ _ _ _ _ _ _ _ _ _ _ _ _ _ _ _ _ _ _ _ _ _ _ _ _ _ _ _ _ _ _ _ _ _ _ _ _ _ _ _ _ _ _ _ _ _ _ _ _ _ _ _ _ _ _ _ _ _ _ _ _ _ _ true _ ⟨⟨fun h => (by cases h),fun h => absurd h HBAD.out⟩,rfl⟩
 have d7:decide (b.hold < -1) = false:=decide_eq_false c7
 have C7:=Lib.hid c7
 clear c7
 by_cases c8:1 < b.hold
 case pos =>
  have e8:decide (1 < b.hold) = true:=decide_eq_true c8
  have HBAD:Hid (¬ numOk b = true):=Lib.hid (fun hv => by have h1:=(numOk_iff b).1 hv;exact absurd c8 (h1.1.2.2.2.2.2.2.2.1))
  go_wp2_with fail
  exact HKK.out _ _ _ _ _ _ _ _ _ _ _ _ _ _ _ _ _ _ _ _ _ _ _ _ _ _ _ _ _ _ _ _ _ _ _ _ _ _ _ _ _ _ _ _ _ _ _ _ _ _ _ _ _ _ _ _ _ _ _ _ _ _ _ _ _ true _ ⟨⟨fun h => (by cases h),fun h => absurd h HBAD.out⟩,rfl⟩
 have d8:decide (1 < b.hold) = false:=decide_eq_false c8
 have C8:=Lib.hid c8
 clear c8
 by_cases c9:b.pas < 0
 case pos =>
  have e9:decide (b.pas < 0) = true:=decide_eq_true c9
  have HBAD:Hid (¬ numOk b = true):=Lib.hid (fun hv => by have h1:=(numOk_iff b).1 hv;exact absurd c9 (h1.1.2.2.2.2.2.2.2.2.1))
  go_wp2_with fail
  exact HKK.out _ _ _ _ _ _ _ _ _ _ _ _ _ _ _ _ _ _ _ _ _ _ _ _ _ _ _ _ _ _ _ _ _ _ _ _ _ _ _ _ _ _ _ _ _ _ _ _ _ _ _ _ _ _ _ _ _ _ _ _ _ _ _ _ _ true _ ⟨⟨fun h => (by cases h),fun h => absurd h HBAD.out⟩,rfl⟩
 have d9:decide (b.pas < 0) = false:=decide_eq_false c9
 have C9:=Lib.hid c9
 clear c9
 by_cases c10:2 < b.pas
 case pos =>
  have e10:decide (2 < b.pas) = true:=decide_eq_true c10
  have HBAD:Hid (¬ numOk b = true):=Lib.hid (fun hv => by have h1:=(numOk_iff b).1 hv;exact absurd c10 (h1.1.2.2.2.2.2.2.2.2.2))
  go_wp2_with fail
  exact HKK.out _ _ _ _ _ _ _ _ _ _ _ _ _ _ _ _ _ _ _ _ _ _ _ _ _ _ _ _ _ _ _ _ _ _ _ _ _ _ _ _ _ _ _ _ _ _ _ _ _ _ _ _ _ _ _ _ _ _ _ _ _ _ _ _ _ true _ ⟨⟨fun h => (by cases h),fun h => absurd h HBAD.out⟩,rfl⟩
 have d10:decide (2 < b.pas) = false:=decide_eq_false c10
 have C10:=Lib.hid c10
 clear c10
 by_cases c11:(500:Int) < no
 case pos =>
  have e11:decide ((500:Int) < no) = true:=decide_eq_true c11
  have e11b:decide (500 < no) = true:=decide_eq_true (by omega)
  have HBAD:Hid (¬ numOk b = true):=Lib.hid (fun hv => by have h1:=(numOk_iff b).1 hv;have h2:=HN.out;omega)
  go_wp2_with fail
  exact HKK.out _ _ _ _ _ _ _ _ _ _ _ _ _ _ _ _ _ _ _ _ _ _ _ _ _ _ _ _ _ _ _ _ _ _ _ _ _ _ _ _ _ _ _ _ _ _ _ _ _ _ _ _ _ _ _ _ _ _ _ _ _ _ _ _ _ true _ ⟨⟨fun h => (by cases h),fun h => absurd h HBAD.out⟩,rfl⟩
 have d11:decide ((500:Int) < no) = false:=decide_eq_false c11
 have d11b:decide (500 < no) = false:=decide_eq_false (by omega)
 have C11:=Lib.hid c11
 clear c11
 by_cases c12:(200:Int) < nk
 case pos =>
  have e12:decide ((200:Int) < nk) = true:=decide_eq_true c12
  have e12b:decide (200 < nk) = true:=decide_eq_true (by omega)
  have HBAD:Hid (¬ numOk b = true):=Lib.hid (fun hv => by have h1:=(numOk_iff b).1 hv;have h2:=HN.out;omega)
  go_wp2_with fail
  exact HKK.out _ _ _ _ _ _ _ _ _ _ _ _ _ _ _ _ _ _ _ _ _ _ _ _ _ _ _ _ _ _ _ _ _ _ _ _ _ _ _ _ _ _ _ _ _ _ _ _ _ _ _ _ _ _ _ _ _ _ _ _ _ _ _ _ _ true _ ⟨⟨fun h => (by cases h),fun h => absurd h HBAD.out⟩,rfl⟩
 have d12:decide ((200:Int) < nk) = false:=decide_eq_false c12
 have d12b:decide (200 < nk) = false:=decide_eq_false (by omega)
 have C12:=Lib.hid c12
 clear c12
 by_cases c13:(200:Int) < nq
 case pos =>
  have e13:decide ((200:Int) < nq) = true:=decide_eq_true c13
  have e13b:decide (200 < nq) = true:=decide_eq_true (by omega)
  have HBAD:Hid (¬ numOk b = true):=Lib.hid (fun hv => by have h1:=(numOk_iff b).1 hv;have h2:=HN.out;omega)
  go_wp2_with fail
  exact HKK.out _ _ _ _ _ _ _ _ _ _ _ _ _ _ _ _ _ _ _ _ _ _ _ _ _ _ _ _ _ _ _ _ _ _ _ _ _ _ _ _ _ _ _ _ _ _ _ _ _ _ _ _ _ _ _ _ _ _ _ _ _ _ _ _ _ true _ ⟨⟨fun h => (by cases h),fun h => absurd h HBAD.out⟩,rfl⟩
 have d13:decide ((200:Int) < nq) = false:=decide_eq_false c13
 have d13b:decide (200 < nq) = false:=decide_eq_false (by omega)
 have C13:=Lib.hid c13
 clear c13
 have HNUM:Hid (numOk b = true):=Lib.hid ((numOk_iff b).2 ⟨⟨C1.out,C2.out,C3.out,C4.out,C5.out,C6.out,C7.out,C8.out,C9.out,C10.out⟩,by have h1:=HN.out;have:=C11.out;have:=C12.out;have:=C13.out;omega⟩)
 go_wp2_with fail
 exact HKK.out _ _ _ _ _ _ _ _ _ _ _ _ _ _ _ _ _ _ _ _ _ _ _ _ _ _ _ _ _ _ _ _ _ _ _ _ _ _ _ _ _ _ _ _ _ _ _ _ _ _ _ _ _ _ _ _ _ _ _ _ _ _ _ _ _ false _ ⟨⟨fun _ => HNUM.out,fun _ => rfl⟩,rfl⟩

set_option maxRecDepth 100000 in
set_option maxHeartbeats 12800000 in
theorem rvalid_any (b:Bd) (m:BdM) (w:World) (h:BdR w b m) (hz:b.plc.length < 9223372036854775807) :
  Calls Tryz.prog 11 #[.agg (b.cells m).toArray] w (BoolEnd b.Valid w):=by
 have HR:=Lib.hid h
 obtain ⟨cs,hcs⟩:∃ cs,(b.cells m).toArray = cs:=⟨_,rfl⟩
 obtain ⟨⟨KA,Kc⟩,hK⟩:∃ s,m.S = s:=⟨_,rfl⟩
 obtain ⟨⟨QA,Qc⟩,hQ⟩:∃ s,m.Q = s:=⟨_,rfl⟩
 obtain ⟨⟨OA,Oc⟩,hO⟩:∃ s,m.O = s:=⟨_,rfl⟩
 obtain ⟨no,hno⟩:∃ n,b.objs.length = n:=⟨_,rfl⟩
 obtain ⟨nk,hnk⟩:∃ n,b.stk.length = n:=⟨_,rfl⟩
 obtain ⟨nq,hnq⟩:∃ n,b.que.length = n:=⟨_,rfl⟩
 have HN:=Lib.hid (And.intro hno (And.intro hnk hnq))
 have HNK:=Lib.hid hnk
 have HNQ:=Lib.hid hnq
 have HKS:Hid (m.S = ⟨KA,Kc⟩):=Lib.hid hK
 have HQS:Hid (m.Q = ⟨QA,Qc⟩):=Lib.hid hQ
 have hkk:nk ≤ 9223372036854775807:=by have:=h.S.ok;unfold Sl.ok at this;omega
 have hqq:nq ≤ 9223372036854775807:=by have:=h.Q.ok;unfold Sl.ok at this;omega
 have E29:Hid (cs[29]? = some (.slice KA nk Kc)):=Lib.hid (by
  rw [← hcs]
  show some (m.S.v b.stk.length) = _
  rw [hK,hnk]
  rfl)
 have E30:Hid (cs[30]? = some (.slice QA nq Qc)):=Lib.hid (by
  rw [← hcs]
  show some (m.Q.v b.que.length) = _
  rw [hQ,hnq]
  rfl)
 obtain ⟨w1,hw1⟩:∃ x,w.alloc (.cells cs 33) = x:=⟨_,rfl⟩
 have HI1:Hid (Blk w1 w.heap.size 33 cs ∧ Below w.heap.size w w1):=Lib.hid ⟨by rw [← hw1];exact Blk.mk_ w _ _ _ rfl,by rw [← hw1];exact (Below.refl _ _).alloc (Nat.le_refl _) _⟩
 have o0:w1.cell? ⟨w.heap.size,0,none⟩ = some (.slice OA no Oc):=(HI1.out.1.at_ 0).trans (by
  rw [← hcs]
  show some (m.O.v b.objs.length) = _
  rw [hO,hno]
  rfl)
 have o29:w1.cell? ⟨w.heap.size,29,none⟩ = some (.slice KA nk Kc):=(HI1.out.1.at_ 29).trans E29.out
 have o30:w1.cell? ⟨w.heap.size,30,none⟩ = some (.slice QA nq Qc):=(HI1.out.1.at_ 30).trans E30.out
 have o33:w1.cell? ⟨w.heap.size,33,none⟩ = some (.int .i64 b.turn):=(HI1.out.1.at_ 33).trans (by rw [← hcs];rfl)
 have o34:w1.cell? ⟨w.heap.size,34,none⟩ = some (.int .i64 b.actv):=(HI1.out.1.at_ 34).trans (by rw [← hcs];rfl)
 have o35:w1.cell? ⟨w.heap.size,35,none⟩ = some (.int .i64 b.phs):=(HI1.out.1.at_ 35).trans (by rw [← hcs];rfl)
 have o36:w1.cell? ⟨w.heap.size,36,none⟩ = some (.int .i64 b.hold):=(HI1.out.1.at_ 36).trans (by rw [← hcs];rfl)
 have o37:w1.cell? ⟨w.heap.size,37,none⟩ = some (.int .i64 b.pas):=(HI1.out.1.at_ 37).trans (by rw [← hcs];rfl)
 obtain ⟨av0,hav0⟩:∃ v,(Value.agg ((seN b 0).cells (smN m 0)).toArray) = v:=⟨_,rfl⟩
 obtain ⟨av1,hav1⟩:∃ v,(Value.agg ((seN b 1).cells (smN m 1)).toArray) = v:=⟨_,rfl⟩
 have HL0:Hid (∀ W,Blk W w.heap.size 33 cs → (Instr.loadAt 27 (.pointer (some ⟨w.heap.size,1,none⟩))).run Tryz.prog W = .ok av0 W):=Lib.hid (fun W hk => by
  rw [← hcs] at hk
  rw [← hav0]
  exact seat_load (p:=0) hk (by omega))
 have HL1:Hid (∀ W,Blk W w.heap.size 33 cs → (Instr.loadAt 27 (.pointer (some ⟨w.heap.size,15,none⟩))).run Tryz.prog W = .ok av1 W):=Lib.hid (fun W hk => by
  rw [← hcs] at hk
  rw [← hav1]
  exact seat_load (p:=1) hk (by omega))
 have HLB:Hid (∀ W,Blk W w.heap.size 33 cs → (Instr.loadAt 33 (.pointer (some ⟨w.heap.size,0,none⟩))).run Tryz.prog W = .ok (.agg cs) W):=Lib.hid (fun W hk => by
  rw [← hcs] at hk ⊢
  exact board_load hk)
 have HS0:Hid (∀ W,Calls Tryz.prog 32 #[av0] W fun e w' => e = .returned (.bool (seOk b.s0)) ∧ Below W.heap.size W w'):=Lib.hid (fun W => by rw [← hav0];exact rseat_any (seN b 0) (smN m 0) W)
 have HS1:Hid (∀ W,Calls Tryz.prog 32 #[av1] W fun e w' => e = .returned (.bool (seOk b.s1)) ∧ Below W.heap.size W w'):=Lib.hid (fun W => by rw [← hav1];exact rseat_any (seN b 1) (smN m 1) W)
 have HFD:Hid (∀ W,Below w.heap.size w W → (∀ x ∈ b.stk,-1 ≤ x.trg) → Calls Tryz.prog 33 #[.agg cs] W (BoolEnd (plcR b) W)):=Lib.hid (fun W hb hst => by rw [← hcs];exact found_any b m W (h.below hb) hz hst)
 have HFG:Hid (∀ W,Below w.heap.size w W → (b.actv = 0 ∨ b.actv = 1) → Calls Tryz.prog 34 #[.agg cs] W (BoolEnd (figR b) W)):=Lib.hid (fun W hb ha => by rw [← hcs];exact rfights_any b m W (h.below hb) ha)
 rw [hcs]
 clear h hz hcs hK hQ hO hno hnk hnq hav0 hav1
 go_enter Tryz.func11,Tryz.ntmps11
 iterate 13 go_step
 refine rv_r1 w1 b w.heap.size no nk nq OA KA QA Oc Kc Qc o0 o29 o30 o33 o34 o35 o36 o37 HN.out _ _ _ _ _ _ _ _ _ _ _ _ _ _ _ _ _ _ _ _ _ _ _ _ _ _ _ _ _ _ _ _ _ _ _ _ _ _ _ _ _ _ _ _ _ _ _ _ _ _ _ _ _ _ _ _ _ _ _ _ _ _ _ _ _ _ _ _ _ _ _ _ _ _ _ _ _ _ _ _ _ _ _ _ _ _ _ _ _ _ _ _ _ _ _ _ _ _ _ _ _ _ _ _ _ _ _ _ _ _ _ _ _ _ _ _ _ ?_ ?_
 ·exact fun d _ _ _ _ h => by cases d <;> exact h
 intro v5 v6 v7 v8 v9 v10 v11 v12 v13 v14 v15 v16 v17 v18 v19 v20 v21 v22 v23 v24 v25 v26 v27 v28 v29 v30 v31 v32 v33 v34 v35 v36 v37 v38 v39 v40 v41 v42 v43 v44 v45 v46 v47 v48 v49 v50 v51 v52 v53 v54 v55 v56 v57 v58 v59 v60 v61 v62 v63 v64 v65 v66 v67 v68 v69 v w_ hvv
 obtain ⟨hvv,rfl⟩:=hvv
 have HVV:=Lib.hid hvv
 clear hvv
 cases v with
 | true =>
  have HBAD:Hid (¬ b.Valid):=Lib.hid (fun hv => by have h1:=HVV.out.2 hv.1;cases h1)
  go_wp2_with fail
  go_ret
  exact ⟨false,rfl,⟨fun h => (by cases h),fun h => absurd h HBAD.out⟩,HI1.out.2⟩
 | false =>
 have HNUM:Hid (numOk b = true):=Lib.hid (HVV.out.1 rfl)
 go_wp2_with fail
 clear hw1 o0 o29 o30 o33 o34 o35 o36 o37
 go_loopw [3] (fun i W => ∃ k:Nat,k ≤ nk ∧ i = .int .i64 k ∧ Hid (∀ j x,j < k → b.stk[j]? = some x → itOk false x = true) ∧ Hid (Blk W w.heap.size 33 cs ∧ Below w.heap.size w W)) (fun i _ => nk - (intOf i).toNat)
 case atStart => exact ⟨0,Nat.zero_le _,rfl,Lib.hid (fun j x h => absurd h (by omega)),HI1⟩
 case round =>
  obtain ⟨k,hk,rfl,HE,HI⟩:=hrel
  clear HI1
  have c29:wr.cell? ⟨w.heap.size,29,none⟩ = some (.slice KA nk Kc):=(HI.out.1.at_ 29).trans E29.out
  by_cases hkn:k < nk
  ·have hkn':(k:Int) < nk:=by omega
   obtain ⟨x,hx⟩:=get_of (l:=b.stk) (k:=k) (by rw [HNK.out];exact hkn)
   have hS:=HR.out.S.below HI.out.2
   rw [HKS.out] at hS
   obtain ⟨t,hzp,-,htr,hto⟩:=hS.at_ hx
   have hrow:=hS.row
   rw [HNK.out] at hrow
   obtain ⟨ad,hA,-,d0,d1,d2,d3,d4⟩:=item_at hrow hzp hkn
   simp only at hA
   subst hA
   have HXG:=Lib.hid hx
   have HIT:=Lib.hid (ritem_any false x t wr htr (by unfold Sl.ok at hto;omega))
   have HKN:=Lib.hid hkn
   obtain ⟨v,hv⟩:∃ v,itOk false x = v:=⟨_,rfl⟩
   rw [hv] at HIT
   have HV:=Lib.hid hv
   clear hx hzp hrow hS htr hto hv
   go_wp2_with fail
   refine HIT.out.mono ?_
   rintro e w2 ⟨rfl,hb2⟩
   have HI2:Hid (Blk w2 w.heap.size 33 cs ∧ Below w.heap.size w w2):=Lib.hid ⟨HI.out.1.call hb2,below_call HI.out.2 hb2 HI.out.2.size⟩
   cases v with
   | false =>
    have HBAD:Hid (¬ b.Valid):=Lib.hid (fun hv => by have h1:=hv.2.2.2.1;rw [none_of HXG.out HV.out] at h1;cases h1)
    go_wp2_with fail
    go_ret
    exact ⟨false,rfl,⟨fun h => (by cases h),fun h => absurd h HBAD.out⟩,HI2.out.2⟩
   | true =>
    have HE1:Hid (∀ j x,j < k + 1 → b.stk[j]? = some x → itOk false x = true):=Lib.hid (fun j y hj hy => by
     rcases Nat.lt_or_ge j k with g | g
     ·exact HE.out j y g hy
     ·obtain rfl:j = k:=by omega
      rw [HXG.out] at hy
      rw [← Option.some.inj hy]
      exact HV.out)
    go_wp2_with fail
    go_roundw
    case rel => exact ⟨k + 1,HKN.out,by go_num,HE1,HI2⟩
    case measure => simp [intOf];have:=HKN.out;omega
  ·have hkd:decide ((k:Int) < nk) = false:=decide_eq_false (by omega)
   have hkd2:decide (k < nk) = false:=decide_eq_false hkn
   have HST:Hid (b.stk.all (itOk false) = true):=Lib.hid (all_of HNK.out ((show nk = k by omega) ▸ HE.out))
   clear hkn hk HE
   go_wp2_with fail
   go_loopw [4] (fun i W => ∃ k:Nat,k ≤ nq ∧ i = .int .i64 k ∧ Hid (∀ j x,j < k → b.que[j]? = some x → itOk true x = true) ∧ Hid (Blk W w.heap.size 33 cs ∧ Below w.heap.size w W)) (fun i _ => nq - (intOf i).toNat)
   case atStart => exact ⟨0,Nat.zero_le _,rfl,Lib.hid (fun j x h => absurd h (by omega)),HI⟩
   case round =>
    obtain ⟨q,hq,rfl,HE,HJ⟩:=hrel
    clear HI c29
    have c30:wr.cell? ⟨w.heap.size,30,none⟩ = some (.slice QA nq Qc):=(HJ.out.1.at_ 30).trans E30.out
    by_cases hqn:q < nq
    ·have hqn':(q:Int) < nq:=by omega
     obtain ⟨x,hx⟩:=get_of (l:=b.que) (k:=q) (by rw [HNQ.out];exact hqn)
     have hS:=HR.out.Q.below HJ.out.2
     rw [HQS.out] at hS
     obtain ⟨t,hzp,-,htr,hto⟩:=hS.at_ hx
     have hrow:=hS.row
     rw [HNQ.out] at hrow
     obtain ⟨ad,hA,-,d0,d1,d2,d3,d4⟩:=item_at hrow hzp hqn
     simp only at hA
     subst hA
     have HXG:=Lib.hid hx
     have HIT:=Lib.hid (ritem_any true x t wr htr (by unfold Sl.ok at hto;omega))
     have HKN:=Lib.hid hqn
     obtain ⟨v,hv⟩:∃ v,itOk true x = v:=⟨_,rfl⟩
     rw [hv] at HIT
     have HV:=Lib.hid hv
     clear hx hzp hrow hS htr hto hv
     go_wp2_with fail
     refine HIT.out.mono ?_
     rintro e w2 ⟨rfl,hb2⟩
     have HI2:Hid (Blk w2 w.heap.size 33 cs ∧ Below w.heap.size w w2):=Lib.hid ⟨HJ.out.1.call hb2,below_call HJ.out.2 hb2 HJ.out.2.size⟩
     cases v with
     | false =>
      have HBAD:Hid (¬ b.Valid):=Lib.hid (fun hv => by have h1:=hv.2.2.2.2.1;rw [none_of HXG.out HV.out] at h1;cases h1)
      go_wp2_with fail
      go_ret
      exact ⟨false,rfl,⟨fun h => (by cases h),fun h => absurd h HBAD.out⟩,HI2.out.2⟩
     | true =>
      have HE1:Hid (∀ j x,j < q + 1 → b.que[j]? = some x → itOk true x = true):=Lib.hid (fun j y hj hy => by
       rcases Nat.lt_or_ge j q with g | g
       ·exact HE.out j y g hy
       ·obtain rfl:j = q:=by omega
        rw [HXG.out] at hy
        rw [← Option.some.inj hy]
        exact HV.out)
      go_wp2_with fail
      go_roundw
      case rel => exact ⟨q + 1,HKN.out,by go_num,HE1,HI2⟩
      case measure => simp [intOf];have:=HKN.out;omega
    ·have hqd:decide ((q:Int) < nq) = false:=decide_eq_false (by omega)
     have hqd2:decide (q < nq) = false:=decide_eq_false hqn
     have HQT:Hid (b.que.all (itOk true) = true):=Lib.hid (all_of HNQ.out ((show nq = q by omega) ▸ HE.out))
     clear hqn hq HE
     obtain ⟨v0,hv0⟩:∃ v,seOk b.s0 = v:=⟨_,rfl⟩
     rw [hv0] at HS0
     have HV0:=Lib.hid hv0
     obtain ⟨v1,hv1⟩:∃ v,seOk b.s1 = v:=⟨_,rfl⟩
     rw [hv1] at HS1
     have HV1:=Lib.hid hv1
     clear hv0 hv1
     go_wp2_with (first
      | (refine wpList_load_by (HL0.out _ HJ.out.1) rfl rfl rfl ?_;simp only [Act.put,List.setIfInBounds_toArray,List.set_cons_succ,List.set_cons_zero])
      | (refine wpList_load_by (HL1.out _ HJ.out.1) rfl rfl rfl ?_;simp only [Act.put,List.setIfInBounds_toArray,List.set_cons_succ,List.set_cons_zero])
      | (refine wpList_load_by (HLB.out _ HJ.out.1) rfl rfl rfl ?_;simp only [Act.put,List.setIfInBounds_toArray,List.set_cons_succ,List.set_cons_zero])
      | fail)
     refine (HS0.out _).mono ?_
     rintro e w2 ⟨rfl,hb2⟩
     have HK2:Hid (Blk w2 w.heap.size 33 cs ∧ Below w.heap.size w w2):=Lib.hid ⟨HJ.out.1.call hb2,below_call HJ.out.2 hb2 HJ.out.2.size⟩
     clear hb2
     cases v0 with
     | false =>
      have HBAD:Hid (¬ b.Valid):=Lib.hid (fun hv => by have h1:=hv.2.1;rw [HV0.out] at h1;cases h1)
      go_wp2_with fail
      go_ret
      exact ⟨false,rfl,⟨fun h => (by cases h),fun h => absurd h HBAD.out⟩,HK2.out.2⟩
     | true =>
     go_wp2_with (first
      | (refine wpList_load_by (HL0.out _ HK2.out.1) rfl rfl rfl ?_;simp only [Act.put,List.setIfInBounds_toArray,List.set_cons_succ,List.set_cons_zero])
      | (refine wpList_load_by (HL1.out _ HK2.out.1) rfl rfl rfl ?_;simp only [Act.put,List.setIfInBounds_toArray,List.set_cons_succ,List.set_cons_zero])
      | (refine wpList_load_by (HLB.out _ HK2.out.1) rfl rfl rfl ?_;simp only [Act.put,List.setIfInBounds_toArray,List.set_cons_succ,List.set_cons_zero])
      | fail)
     refine (HS1.out _).mono ?_
     rintro e w3 ⟨rfl,hb3⟩
     have HK3:Hid (Blk w3 w.heap.size 33 cs ∧ Below w.heap.size w w3):=Lib.hid ⟨HK2.out.1.call hb3,below_call HK2.out.2 hb3 HK2.out.2.size⟩
     clear hb3
     cases v1 with
     | false =>
      have HBAD:Hid (¬ b.Valid):=Lib.hid (fun hv => by have h1:=hv.2.2.1;rw [HV1.out] at h1;cases h1)
      go_wp2_with fail
      go_ret
      exact ⟨false,rfl,⟨fun h => (by cases h),fun h => absurd h HBAD.out⟩,HK3.out.2⟩
     | true =>
     have HTR:Hid (∀ x ∈ b.stk,-1 ≤ x.trg):=Lib.hid (fun x hx => by
      have h1:=(List.all_eq_true.1 HST.out) x hx
      have h2:=((itOk_iff _ _).1 h1).1.1
      omega)
     go_wp2_with (first
      | (refine wpList_load_by (HL0.out _ HK3.out.1) rfl rfl rfl ?_;simp only [Act.put,List.setIfInBounds_toArray,List.set_cons_succ,List.set_cons_zero])
      | (refine wpList_load_by (HL1.out _ HK3.out.1) rfl rfl rfl ?_;simp only [Act.put,List.setIfInBounds_toArray,List.set_cons_succ,List.set_cons_zero])
      | (refine wpList_load_by (HLB.out _ HK3.out.1) rfl rfl rfl ?_;simp only [Act.put,List.setIfInBounds_toArray,List.set_cons_succ,List.set_cons_zero])
      | fail)
     refine (HFD.out _ HK3.out.2 HTR.out).mono ?_
     rintro e w4 ⟨v,rfl,hvp,hb4⟩
     have HK4:Hid (Blk w4 w.heap.size 33 cs ∧ Below w.heap.size w w4):=Lib.hid ⟨HK3.out.1.call hb4,below_call HK3.out.2 hb4 HK3.out.2.size⟩
     clear hb4
     have HVP:=Lib.hid hvp
     clear hvp
     cases v with
     | false =>
      have HBAD:Hid (¬ b.Valid):=Lib.hid (fun hv => by
       have h1:=HVP.out.2 ((plc_same b).1 hv.2.2.2.2.2.1)
       cases h1)
      go_wp2_with fail
      go_ret
      exact ⟨false,rfl,⟨fun h => (by cases h),fun h => absurd h HBAD.out⟩,HK4.out.2⟩
     | true =>
     have HAC:Hid (b.actv = 0 ∨ b.actv = 1):=Lib.hid (by
      have h1:=((numOk_iff b).1 HNUM.out).1
      omega)
     go_wp2_with (first
      | (refine wpList_load_by (HL0.out _ HK4.out.1) rfl rfl rfl ?_;simp only [Act.put,List.setIfInBounds_toArray,List.set_cons_succ,List.set_cons_zero])
      | (refine wpList_load_by (HL1.out _ HK4.out.1) rfl rfl rfl ?_;simp only [Act.put,List.setIfInBounds_toArray,List.set_cons_succ,List.set_cons_zero])
      | (refine wpList_load_by (HLB.out _ HK4.out.1) rfl rfl rfl ?_;simp only [Act.put,List.setIfInBounds_toArray,List.set_cons_succ,List.set_cons_zero])
      | fail)
     refine (HFG.out _ HK4.out.2 HAC.out).mono ?_
     rintro e w5 ⟨v,rfl,hvf,hb5⟩
     have HK5:Hid (Blk w5 w.heap.size 33 cs ∧ Below w.heap.size w w5):=Lib.hid ⟨HK4.out.1.call hb5,below_call HK4.out.2 hb5 HK4.out.2.size⟩
     clear hb5
     have HVF:=Lib.hid hvf
     clear hvf
     cases v with
     | false =>
      have HBAD:Hid (¬ b.Valid):=Lib.hid (fun hv => by
       have h1:=HVF.out.2 ((fig_same hv.2.2.2.2.2.1).1 hv.2.2.2.2.2.2)
       cases h1)
      go_wp2_with fail
      go_ret
      exact ⟨false,rfl,⟨fun h => (by cases h),fun h => absurd h HBAD.out⟩,HK5.out.2⟩
     | true =>
     have HOK:Hid b.Valid:=Lib.hid ((valid_ref b).2 ⟨HNUM.out,HV0.out,HV1.out,HST.out,HQT.out,HVP.out.1 (by first | rfl | trivial),HVF.out.1 (by first | rfl | trivial)⟩)
     go_wp2_with fail
     go_ret
     exact ⟨true,rfl,⟨fun _ => HOK.out,fun _ => rfl⟩,HK5.out.2⟩
end Go.Proofs.YtagpphelgghbpaaGreat
