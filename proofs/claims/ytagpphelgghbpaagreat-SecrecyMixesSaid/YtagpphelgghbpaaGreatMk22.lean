/-
  Texts: Vof.
-/
import Derived.Test.YtagpphelgghbpaaGreatMk21
set_option linter.unusedSimpArgs false
set_option linter.unusedVariables false
namespace Go.Proofs.YtagpphelgghbpaaGreat
open Go.RowKit

theorem player_any (k:Nat) (hk:k < 2) (w:World):Calls Tryz.prog 56 #[.int .i64 k] w fun e w' => e = .returned (.bool true) ∧ w = w':=by
 rcases (show k = 0 ∨ k = 1 by omega) with rfl | rfl
 ·exact player0 w
 ·exact player1 w
def fO (l:List Ob):Int → Option Ob:=fun i => l.find? fun o => decide (o.id = i)
theorem fO_obI {l:List Ob} {i:Int} (h:∃ o ∈ l,o.id = i):fO l i = some (obI l i):=by
 unfold fO obI
 cases hf:l.find? fun o => decide (o.id = i) with
 | some p => rfl
 | none =>
  obtain ⟨o,ho,e⟩:=h
  have:=List.find?_eq_none.1 hf o ho
  simp [e] at this
theorem fO_snoc {l:List Ob} (hs:∀ (i j:Nat) (x y:Ob),i < j → l[i]? = some x → l[j]? = some y → x.id < y.id) {k:Nat} {p:Ob} (hp:l[k]? = some p):putF (fO (l.take k)) p.id p = fO (l.take (k + 1)):=by
 funext y
 unfold putF fO
 rw [take_snoc hp,List.find?_append]
 by_cases e:y = p.id
 ·rw [if_pos e]
  have hn:(l.take k).find? (fun o => decide (o.id = y)) = none:=by
   rw [List.find?_eq_none]
   intro o ho
   obtain ⟨i,hi⟩:=List.getElem?_of_mem ho
   rw [List.getElem?_take] at hi
   split at hi
   ·rename_i hik
    have:=hs i k o p hik hi hp
    simp
    omega
   ·cases hi
  rw [hn]
  simp [e]
 ·rw [if_neg e]
  have:decide (p.id = y) = false:=by simp;exact fun h => e h.symm
  simp [this]
set_option maxRecDepth 100000 in
set_option maxHeartbeats 3200000 in
theorem vo_new (k:Nat) (hk:k < 2) (w W:World) (b:Bd) (m:BdM) (cs:Array Value) (gM gB nM:Nat) (f:Int → Option Ob) (hcs:(b.cells m).toArray = cs) (hR:BdR w b m) (hsm:BdSm b) (hf:∀ i,(∃ o ∈ b.objs,o.id = i) → f i = some (obI b.objs i)) (hV:VoC w cs gM gB nM f W) (Q:Exit → Act → World → Prop) (t0 t1 t4 t5 t6 t7 t8 t9 t10 t12 t13 t14 t15 t16 t17 t18 t19 t20 t21 t22 t23 t24 t25 t26 t27 t28 t29 t30 t31 t32 t33 t34 t35 t36 t37 t38 t39 t40 t41 t42 t43 t44 t45 t46 t47 t48 t49 t50 t51 t52 t53 t54 t55 t56 t57 t58 t59 t60 t61 t62 t63 t64 t65 t66 t67 t68 t69 t70 t71 t72 t73 t74 t75 t76 t77 t78 t79 t80 t81 t82 t83 t84 t85 t86 t87 t88 t89 t90 t91 t92 t93 t94 t95 t96 t97 t98 t99 t100 t101 t102 t103 t104 t105 t106 t107 t108 t109 t110 t111 t112 t113 t114 t115 t116 t117 t118 t119 t120 t121 t122 t123 t124 t125 t126 t127 t128 t129 t130 t131 t132 t133 t134 t135 t136 t137 t138 t139 t140 t141 t142 t143 t144 t145 t146 t147 t148 t149 t150 t151 t152 t153:Value)
  (hQ:∀ d v c a w,Q (.panic c) (Act.put a d v) w → Q (.panic c) a w)
  (hK:∀ (u54 u55 u56 u57 u58 u59 u60 u61 u62 u63 u64 u65 u66 u67 u68 u69 u70 u71 u72:Value) (g:Nat) (A:Option Addr) (c:Nat) (W9:World),Blk W9 g 98 (vwc k zvs zvs (.slice A (seN b k).hand.length c) [.slice none 0 0,.slice none 0 0,.slice none 0 0,.slice none 0 0,.int .i64 b.turn,.int .i64 b.actv,.int .i64 b.phs,.int .i64 b.hold,.int .i64 b.pas]).toArray ∧ XOwns W9 w.heap.size 46 12 A (seN b k).hand.length c (ocs ((seN b k).hand.map (obI b.objs))) ∧ VoC w cs gM gB nM f W9 ∧ w.heap.size + 2 < g ∧ gM ≠ g ∧ gB ≠ g → Q .normal ⟨#[t0,t1,.int .i64 k,.pointer (some ⟨w.heap.size,0,none⟩),t4,t5,t6,t7,t8,t9,t10,.func (.func 101) #[] #[.pointer (some ⟨gM,0,none⟩)],.pointer (some ⟨g,0,none⟩),t13,t14,t15,t16,t17,t18,t19,t20,t21,t22,t23,t24,t25,t26,t27,t28,t29,t30,t31,t32,t33,t34,t35,t36,t37,t38,t39,t40,t41,t42,t43,t44,t45,t46,t47,t48,t49,t50,t51,t52,t53,u54,u55,u56,u57,u58,u59,u60,u61,u62,u63,u64,u65,u66,u67,u68,u69,u70,u71,u72,t73,t74,t75,t76,t77,t78,t79,t80,t81,t82,t83,t84,t85,t86,t87,t88,t89,t90,t91,t92,t93,t94,t95,t96,t97,t98,t99,t100,t101,t102,t103,t104,t105,t106,t107,t108,t109,t110,t111,t112,t113,t114,t115,t116,t117,t118,t119,t120,t121,t122,t123,t124,t125,t126,t127,t128,t129,t130,t131,t132,t133,t134,t135,t136,t137,t138,t139,t140,t141,t142,t143,t144,t145,t146,t147,t148,t149,t150,t151,t152,t153],[]⟩ W9) :
  Code.wp Tryz.prog (regOf Tryz.f72 10) Q ⟨#[t0,t1,.int .i64 k,.pointer (some ⟨w.heap.size,0,none⟩),t4,t5,t6,t7,t8,t9,t10,.func (.func 101) #[] #[.pointer (some ⟨gM,0,none⟩)],t12,t13,t14,t15,t16,t17,t18,t19,t20,t21,t22,t23,t24,t25,t26,t27,t28,t29,t30,t31,t32,t33,t34,t35,t36,t37,t38,t39,t40,t41,t42,t43,t44,t45,t46,t47,t48,t49,t50,t51,t52,t53,t54,t55,t56,t57,t58,t59,t60,t61,t62,t63,t64,t65,t66,t67,t68,t69,t70,t71,t72,t73,t74,t75,t76,t77,t78,t79,t80,t81,t82,t83,t84,t85,t86,t87,t88,t89,t90,t91,t92,t93,t94,t95,t96,t97,t98,t99,t100,t101,t102,t103,t104,t105,t106,t107,t108,t109,t110,t111,t112,t113,t114,t115,t116,t117,t118,t119,t120,t121,t122,t123,t124,t125,t126,t127,t128,t129,t130,t131,t132,t133,t134,t135,t136,t137,t138,t139,t140,t141,t142,t143,t144,t145,t146,t147,t148,t149,t150,t151,t152,t153],[]⟩ W:=by
 have HKK:=Lib.hid hK
 clear hK
 conv => arg 2;whnf
 rcases (show k = 0 ∨ k = 1 by omega) with h0 | h0
 ·refine vo_new0 k h0 w W b m cs gM gB nM f hcs hR hsm hf hV Q t0 t1 t4 t5 t6 t7 t8 t9 t10 t12 t13 t14 t15 t16 t17 t18 t19 t20 t21 t22 t23 t24 t25 t26 t27 t28 t29 t30 t31 t32 t33 t34 t35 t36 t37 t38 t39 t40 t41 t42 t43 t44 t45 t46 t47 t48 t49 t50 t51 t52 t53 t54 t55 t56 t57 t58 t59 t60 t61 t62 t63 t64 t65 t66 t67 t68 t69 t70 t71 t72 t73 t74 t75 t76 t77 t78 t79 t80 t81 t82 t83 t84 t85 t86 t87 t88 t89 t90 t91 t92 t93 t94 t95 t96 t97 t98 t99 t100 t101 t102 t103 t104 t105 t106 t107 t108 t109 t110 t111 t112 t113 t114 t115 t116 t117 t118 t119 t120 t121 t122 t123 t124 t125 t126 t127 t128 t129 t130 t131 t132 t133 t134 t135 t136 t137 t138 t139 t140 t141 t142 t143 t144 t145 t146 t147 t148 t149 t150 t151 t152 t153 hQ ?_
  intro u54 u55 u56 u57 u58 u59 u60 u61 u62 u63 u64 u65 u66 u67 u68 u69 u70 u71 u72 g A c W9 h
  exact HKK.out u54 u55 u56 u57 u58 u59 u60 u61 u62 u63 u64 u65 u66 u67 u68 u69 u70 u71 u72 g A c W9 (by rw [show seN b k = b.s0 by rw [h0];rfl];exact h)
 ·refine vo_new1 k h0 w W b m cs gM gB nM f hcs hR hsm hf hV Q t0 t1 t4 t5 t6 t7 t8 t9 t10 t12 t13 t14 t15 t16 t17 t18 t19 t20 t21 t22 t23 t24 t25 t26 t27 t28 t29 t30 t31 t32 t33 t34 t35 t36 t37 t38 t39 t40 t41 t42 t43 t44 t45 t46 t47 t48 t49 t50 t51 t52 t53 t54 t55 t56 t57 t58 t59 t60 t61 t62 t63 t64 t65 t66 t67 t68 t69 t70 t71 t72 t73 t74 t75 t76 t77 t78 t79 t80 t81 t82 t83 t84 t85 t86 t87 t88 t89 t90 t91 t92 t93 t94 t95 t96 t97 t98 t99 t100 t101 t102 t103 t104 t105 t106 t107 t108 t109 t110 t111 t112 t113 t114 t115 t116 t117 t118 t119 t120 t121 t122 t123 t124 t125 t126 t127 t128 t129 t130 t131 t132 t133 t134 t135 t136 t137 t138 t139 t140 t141 t142 t143 t144 t145 t146 t147 t148 t149 t150 t151 t152 t153 hQ ?_
  intro u54 u55 u56 u57 u58 u59 u60 u61 u62 u63 u64 u65 u66 u67 u68 u69 u70 u71 u72 g A c W9 h
  exact HKK.out u54 u55 u56 u57 u58 u59 u60 u61 u62 u63 u64 u65 u66 u67 u68 u69 u70 u71 u72 g A c W9 (by rw [show seN b k = b.s1 by rw [h0];rfl];exact h)
structure VoS (w:World) (b:Bd) (cs:Array Value) (gM gB nM:Nat) (f:Int → Option Ob) (g:Nat) (who:Int) (hv:Value) (tl:List Value) (HA:Option Addr) (Hc:Nat) (hd:List Ob) (j:Nat) (c0 c1:List Value) (W:World):Prop where
 C:VoC w cs gM gB nM f W
 G:Blk W g 98 (vwc who c0 c1 hv tl).toArray
 l0:c0.length = 14
 l1:c1.length = 14
 X:XOwns W w.heap.size 46 12 HA hd.length Hc (ocs hd)
 v0:1 ≤ j → ∃ x0,c0 = (puOf b).v0.cells x0 ∧ VsO W w.heap.size (puOf b).v0 x0
 v1:2 ≤ j → ∃ x1,c1 = (puOf b).v1.cells x1 ∧ VsO W w.heap.size (puOf b).v1 x1
 N:w.heap.size + 2 < g ∧ gM ≠ g ∧ gB ≠ g
theorem VoS.below {w:World} {b:Bd} {cs:Array Value} {gM gB nM:Nat} {f:Int → Option Ob} {g:Nat} {who:Int} {hv:Value} {tl:List Value} {HA:Option Addr} {Hc:Nat} {hd:List Ob} {j:Nat} {c0 c1:List Value} {W W':World} (h:VoS w b cs gM gB nM f g who hv tl HA Hc hd j c0 c1 W) (hb:Below W.heap.size W W'):VoS w b cs gM gB nM f g who hv tl HA Hc hd j c0 c1 W' :=
 ⟨h.C.below hb,h.G.call hb,h.l0,h.l1,h.X.below hb,fun h1 => (h.v0 h1).imp fun _ h => ⟨h.1,h.2.below hb⟩,fun h1 => (h.v1 h1).imp fun _ h => ⟨h.1,h.2.below hb⟩,h.N⟩
set_option maxRecDepth 100000 in
set_option maxHeartbeats 3200000 in
theorem vo_seat (j:Nat) (hj:j < 2) (w W:World) (b:Bd) (m:BdM) (cs:Array Value) (gM gB nM:Nat) (f:Int → Option Ob) (hcs:(b.cells m).toArray = cs) (hR:BdR w b m) (hsm:BdSm b) (hf:∀ i,(∃ o ∈ b.objs,o.id = i) → f i = some (obI b.objs i)) (g:Nat) (who:Int) (hv:Value) (tl:List Value) (HA:Option Addr) (Hc:Nat) (hd:List Ob) (c0 c1:List Value) (hS:VoS w b cs gM gB nM f g who hv tl HA Hc hd j c0 c1 W) (gS:Nat) (hne:gS ≠ g) (hSS:Blk W gS 27 ((seN b j).cells (smN m j)).toArray) (Q:Exit → Act → World → Prop) (t0 t1 t2 t4 t5 t6 t7 t8 t9 t10 t15 t16 t17 t18 t19 t20 t21 t22 t23 t24 t25 t26 t27 t28 t29 t30 t31 t32 t33 t34 t35 t36 t37 t38 t39 t40 t41 t42 t43 t44 t45 t46 t47 t48 t49 t50 t51 t52 t53 t54 t55 t56 t57 t58 t59 t60 t61 t62 t63 t64 t65 t66 t67 t68 t69 t70 t71 t72 t73 t74 t75 t76 t77 t78 t79 t80 t81 t82 t83 t84 t85 t86 t87 t88 t89 t90 t91 t92 t93 t94 t95 t96 t97 t98 t99 t100 t101 t102 t103 t104 t105 t106 t107 t108 t109 t110 t111 t112 t113 t114 t115 t116 t117 t118 t119 t120 t121 t122 t123 t124 t125 t126 t127 t128 t129 t130 t131 t132 t133 t134 t135 t136 t137 t138 t139 t140 t141 t142 t143 t144 t145 t146 t147 t148 t149 t150 t151 t152 t153:Value)
  (hQ:∀ d v c a w,Q (.panic c) (Act.put a d v) w → Q (.panic c) a w)
  (hK:∀ (u79 u80 u81 u82 u83 u84 u85 u86 u87 u88 u89 u90 u91 u92 u93 u94 u95 u96 u97 u98 u99 u100 u101 u102 u103 u104 u105 u106 u107 u108 u109 u110:Value) (c0' c1':List Value) (W9:World),VoS w b cs gM gB nM f g who hv tl HA Hc hd (j + 1) c0' c1' W9 → Q .normal ⟨#[t0,t1,t2,.pointer (some ⟨w.heap.size,0,none⟩),t4,t5,t6,t7,t8,t9,t10,.func (.func 101) #[] #[.pointer (some ⟨gM,0,none⟩)],.pointer (some ⟨g,0,none⟩),.int .i64 j,.pointer (some ⟨gS,0,none⟩),t15,t16,t17,t18,t19,t20,t21,t22,t23,t24,t25,t26,t27,t28,t29,t30,t31,t32,t33,t34,t35,t36,t37,t38,t39,t40,t41,t42,t43,t44,t45,t46,t47,t48,t49,t50,t51,t52,t53,t54,t55,t56,t57,t58,t59,t60,t61,t62,t63,t64,t65,t66,t67,t68,t69,t70,t71,t72,t73,t74,t75,t76,t77,t78,u79,u80,u81,u82,u83,u84,u85,u86,u87,u88,u89,u90,u91,u92,u93,u94,u95,u96,u97,u98,u99,u100,u101,u102,u103,u104,u105,u106,u107,u108,u109,u110,t111,t112,t113,t114,t115,t116,t117,t118,t119,t120,t121,t122,t123,t124,t125,t126,t127,t128,t129,t130,t131,t132,t133,t134,t135,t136,t137,t138,t139,t140,t141,t142,t143,t144,t145,t146,t147,t148,t149,t150,t151,t152,t153],[]⟩ W9) :
  Code.wp Tryz.prog (regOf Tryz.f72 14) Q ⟨#[t0,t1,t2,.pointer (some ⟨w.heap.size,0,none⟩),t4,t5,t6,t7,t8,t9,t10,.func (.func 101) #[] #[.pointer (some ⟨gM,0,none⟩)],.pointer (some ⟨g,0,none⟩),.int .i64 j,.pointer (some ⟨gS,0,none⟩),t15,t16,t17,t18,t19,t20,t21,t22,t23,t24,t25,t26,t27,t28,t29,t30,t31,t32,t33,t34,t35,t36,t37,t38,t39,t40,t41,t42,t43,t44,t45,t46,t47,t48,t49,t50,t51,t52,t53,t54,t55,t56,t57,t58,t59,t60,t61,t62,t63,t64,t65,t66,t67,t68,t69,t70,t71,t72,t73,t74,t75,t76,t77,t78,t79,t80,t81,t82,t83,t84,t85,t86,t87,t88,t89,t90,t91,t92,t93,t94,t95,t96,t97,t98,t99,t100,t101,t102,t103,t104,t105,t106,t107,t108,t109,t110,t111,t112,t113,t114,t115,t116,t117,t118,t119,t120,t121,t122,t123,t124,t125,t126,t127,t128,t129,t130,t131,t132,t133,t134,t135,t136,t137,t138,t139,t140,t141,t142,t143,t144,t145,t146,t147,t148,t149,t150,t151,t152,t153],[]⟩ W:=by
 have HKK:=Lib.hid hK
 clear hK
 conv => arg 2;whnf
 rcases (show j = 0 ∨ j = 1 by omega) with h0 | h0
 ·have hSS':=hSS
  rw [show seN b j = b.s0 by rw [h0];rfl,show smN m j = m.m0 by rw [h0];rfl] at hSS'
  refine vo_seat0 j h0 w W b m cs gM gB nM f hcs hR hsm hf hS.C g who c0 c1 tl hv hS.l0 hS.l1 hS.G hS.N gS hne hSS' HA Hc hd hS.X Q t0 t1 t2 t4 t5 t6 t7 t8 t9 t10 t15 t16 t17 t18 t19 t20 t21 t22 t23 t24 t25 t26 t27 t28 t29 t30 t31 t32 t33 t34 t35 t36 t37 t38 t39 t40 t41 t42 t43 t44 t45 t46 t47 t48 t49 t50 t51 t52 t53 t54 t55 t56 t57 t58 t59 t60 t61 t62 t63 t64 t65 t66 t67 t68 t69 t70 t71 t72 t73 t74 t75 t76 t77 t78 t79 t80 t81 t82 t83 t84 t85 t86 t87 t88 t89 t90 t91 t92 t93 t94 t95 t96 t97 t98 t99 t100 t101 t102 t103 t104 t105 t106 t107 t108 t109 t110 t111 t112 t113 t114 t115 t116 t117 t118 t119 t120 t121 t122 t123 t124 t125 t126 t127 t128 t129 t130 t131 t132 t133 t134 t135 t136 t137 t138 t139 t140 t141 t142 t143 t144 t145 t146 t147 t148 t149 t150 t151 t152 t153 hQ ?_
  intro u79 u80 u81 u82 u83 u84 u85 u86 u87 u88 u89 u90 u91 u92 u93 u94 u95 u96 u97 u98 u99 u100 u101 u102 u103 u104 u105 u106 u107 u108 u109 u110 v' W9 h
  exact HKK.out u79 u80 u81 u82 u83 u84 u85 u86 u87 u88 u89 u90 u91 u92 u93 u94 u95 u96 u97 u98 u99 u100 u101 u102 u103 u104 u105 u106 u107 u108 u109 u110 _ c1 W9 ⟨h.2.2.1,h.2.1,rfl,hS.l1,h.2.2.2,fun _ => ⟨v',rfl,h.1⟩,fun h => absurd h (by omega),hS.N⟩
 ·have hSS':=hSS
  rw [show seN b j = b.s1 by rw [h0];rfl,show smN m j = m.m1 by rw [h0];rfl] at hSS'
  obtain ⟨x0,e0,hx0⟩:=hS.v0 (by omega)
  refine vo_seat1 j h0 w W b m cs gM gB nM f hcs hR hsm hf hS.C g who c0 c1 tl hv hS.l0 hS.l1 hS.G hS.N gS hne hSS' HA Hc hd hS.X x0 hx0 Q t0 t1 t2 t4 t5 t6 t7 t8 t9 t10 t15 t16 t17 t18 t19 t20 t21 t22 t23 t24 t25 t26 t27 t28 t29 t30 t31 t32 t33 t34 t35 t36 t37 t38 t39 t40 t41 t42 t43 t44 t45 t46 t47 t48 t49 t50 t51 t52 t53 t54 t55 t56 t57 t58 t59 t60 t61 t62 t63 t64 t65 t66 t67 t68 t69 t70 t71 t72 t73 t74 t75 t76 t77 t78 t79 t80 t81 t82 t83 t84 t85 t86 t87 t88 t89 t90 t91 t92 t93 t94 t95 t96 t97 t98 t99 t100 t101 t102 t103 t104 t105 t106 t107 t108 t109 t110 t111 t112 t113 t114 t115 t116 t117 t118 t119 t120 t121 t122 t123 t124 t125 t126 t127 t128 t129 t130 t131 t132 t133 t134 t135 t136 t137 t138 t139 t140 t141 t142 t143 t144 t145 t146 t147 t148 t149 t150 t151 t152 t153 hQ ?_
  intro u79 u80 u81 u82 u83 u84 u85 u86 u87 u88 u89 u90 u91 u92 u93 u94 u95 u96 u97 u98 u99 u100 u101 u102 u103 u104 u105 u106 u107 u108 u109 u110 v' W9 h
  exact HKK.out u79 u80 u81 u82 u83 u84 u85 u86 u87 u88 u89 u90 u91 u92 u93 u94 u95 u96 u97 u98 u99 u100 u101 u102 u103 u104 u105 u106 u107 u108 u109 u110 c0 _ W9 ⟨h.2.2.1,h.2.1,hS.l0,rfl,h.2.2.2.1,fun _ => ⟨x0,e0,h.2.2.2.2⟩,fun _ => ⟨v',rfl,h.1⟩,hS.N⟩
def VofEnd (b:Bd) (k:Nat) (w:World) (e:Ending) (w':World):Prop:=∃ (pm:PuM) (HA:Option Addr) (Hc:Nat),e = .returned (.tuple #[.agg (vwf b k pm.m0 pm.m1 (.slice HA (seN b k).hand.length Hc) ((puOf b).tail pm)).toArray,.int .i64 0]) ∧ PuO w' w.heap.size (puOf b) pm ∧ XOwns w' w.heap.size 46 12 HA (seN b k).hand.length Hc (ocs ((seN b k).hand.map (obI b.objs))) ∧ Below w.heap.size w w'
set_option maxRecDepth 100000 in
set_option maxHeartbeats 6400000 in
theorem vof_any (b:Bd) (m:BdM) (w:World) (k:Nat) (hk:k < 2) (h:BdR w b m) (hz:b.plc.length < 9223372036854775807) (hv:b.Valid) :
  Calls Tryz.prog 72 #[.agg (b.cells m).toArray,.agg #[.int .i64 0,.int .i64 0,.slice none 0 0],.int .i64 k] w (VofEnd b k w):=by
 have HSM:=Lib.hid (bd_sm hv)
 have HV:=Lib.hid hv
 have HR:=Lib.hid h
 have HKK:=Lib.hid hk
 obtain ⟨cs,hcs⟩:∃ cs,(b.cells m).toArray = cs:=⟨_,rfl⟩
 have HCS:=Lib.hid hcs
 rw [hcs]
 obtain ⟨w2,hw2⟩:∃ w2,((w.alloc (.cells cs 33)).alloc (.cells #[.int .i64 0,.int .i64 0,.slice none 0 0] 92)).alloc (.cells zvw 98) = w2:=⟨_,rfl⟩
 have HB2:Hid (Below w.heap.size w w2):=Lib.hid (by rw [← hw2];exact (((Below.refl _ _).alloc (Nat.le_refl _) _).alloc (by simp) _).alloc (by simp;omega) _)
 have HBX2:Hid (Blk w2 w.heap.size 33 cs):=Lib.hid (by rw [← hw2];exact ((Blk.mk_ w _ _ _ rfl).alloc _).alloc _)
 have HPR2:Hid (Blk w2 (w.heap.size + 1) 92 #[.int .i64 0,.int .i64 0,.slice none 0 0]):=Lib.hid (by rw [← hw2];exact (Blk.mk_ _ _ _ _ (by simp)).alloc _)
 have HRS2:Hid (Blk w2 (w.heap.size + 2) 98 zvw):=Lib.hid (by rw [← hw2];exact Blk.mk_ _ _ _ _ (by simp))
 have HLB:Hid (∀ W,Blk W w.heap.size 33 cs → (Instr.loadAt 33 (.pointer (some ⟨w.heap.size,0,none⟩))).run Tryz.prog W = .ok (.agg cs) W):=Lib.hid (fun W hW => by
  rw [← hcs] at hW ⊢
  exact hW.mid (b.cells m) _ (fun j v hj => by rw [Nat.zero_add];simpa using hj) Tryz.underlying33 rfl size_board)
 have HVC:=Lib.hid (valid_any b m w2 (h.below (HB2.out.mono (Nat.le_refl _))) hz)
 rw [hcs] at HVC
 have HL2:=Lib.hid (HLB.out w2 HBX2.out)
 unfold zvw at hw2
 clear h hv hcs hz hk
 go_enter Tryz.func72,Tryz.ntmps72
 go_wp2_with (first
  | (go_at_call 56;refine (player_any k HKK.out w2).mono ?_;rintro e w_ ⟨rfl,rfl⟩)
  | (refine wpList_load_by HL2.out rfl rfl rfl ?_;simp only [Act.put,List.setIfInBounds_toArray,List.set_cons_succ,List.set_cons_zero])
  | fail)
 refine HVC.out.mono ?_
 rintro e w3 ⟨v,rfl,hvv,hb3⟩
 obtain rfl:v = true:=hvv.2 HV.out
 have HB3:=Lib.hid (below_call HB2.out hb3 HB2.out.size)
 have HBX3:=Lib.hid (HBX2.out.call hb3)
 have HPR3:=Lib.hid (HPR2.out.call hb3)
 have HRS3:=Lib.hid (HRS2.out.call hb3)
 have p0:=(HPR3.out.at_ 0).trans rfl
 have p1:=(HPR3.out.at_ 1).trans rfl
 clear hvv hb3 hw2 HL2 HVC HB2 HBX2 HPR2 HRS2
 go_wp2_with (first
  | (go_at_call 56;refine (player0 w3).mono ?_;rintro e w_ ⟨rfl,rfl⟩)
  | fail)
 rw [run_makeMap]
 obtain ⟨gB,hgB⟩:∃ x,w3.heap.size = x:=⟨_,rfl⟩
 have HEGB:=Lib.hid hgB
 obtain ⟨w5,hw5⟩:∃ w5,(w3.alloc (.map #[] 0)).alloc (.cells #[.map (some gB)] 155) = w5:=⟨_,rfl⟩
 have hb35:Below w3.heap.size w3 w5:=by rw [← hw5];exact ((Below.refl _ _).alloc (Nat.le_refl _) _).alloc (by simp) _
 have HVC5:Hid (VoC w cs (gB + 1) gB 0 (fO (b.objs.take 0)) w5):=Lib.hid ⟨HBX3.out.call hb35,HPR3.out.call hb35,HRS3.out.call hb35,by
  have h:=MapO.make w3
  rw [hgB] at h
  have h2:=h.below (w':=w5) (by rw [← hw5];exact (Below.refl _ _).alloc (Nat.le_refl _) _)
  exact h2,by rw [← hw5];exact Blk.mk_ _ _ _ _ (by simp [hgB]),by have:=HRS3.out.lt;omega,by have:=HRS3.out.lt;omega,below_call HB3.out hb35 HB3.out.size⟩
 obtain ⟨no,hno⟩:∃ n,b.objs.length = n:=⟨_,rfl⟩
 obtain ⟨⟨OA,Oc⟩,hmO⟩:∃ x,m.O = x:=⟨_,rfl⟩
 have E0:Hid (cs[0]? = some (.slice OA no Oc)):=Lib.hid (by rw [← HCS.out];show some (m.O.v b.objs.length) = _;rw [hmO,hno];rfl)
 have HROW:Hid (Reads w 12 OA no (ocs b.objs)):=Lib.hid (by have h:=HR.out.O;rw [hmO,hno] at h;exact h)
 have HNO:=Lib.hid hno
 have HN5:Hid (no ≤ 500):=Lib.hid (by rw [← hno];exact HSM.out.O)
 have hn5:=HN5.out
 have HSO:=Lib.hid (obs_ok HV.out.2.2.2.2.2.1).2
 have e0:=(HVC5.out.box.at_ 0).trans E0.out
 clear hb35 hno hmO HBX3 HPR3 HRS3 HB3 p0 p1 HLB
 go_wp2_with fail
 clear e0 hw5 hgB
 go_loopw [44] (fun i W => ∃ k nM:Nat,k ≤ no ∧ nM ≤ k ∧ i = .int .i64 k ∧ Hid (VoC w cs (gB + 1) gB nM (fO (b.objs.take k)) W)) (fun i _ => no - (intOf i).toNat)
 case atStart => exact ⟨0,0,Nat.zero_le _,Nat.le_refl _,rfl,HVC5⟩
 case round =>
  obtain ⟨j,nM,hj,hnM,rfl,HVC⟩:=hrel
  clear HVC5
  by_cases hjn:j < no
  ·have hjn':(j:Int) < no:=by omega
   obtain ⟨p,hp⟩:=get_of (l:=b.objs) (k:=j) (by rw [HNO.out];exact hjn)
   obtain ⟨ad,rfl,hadl,c0,c1,c2,c3,c4,c5,c6,c7,c8,c9,c10,c11⟩:=obj_at (HROW.out.below HVC.out.bel) hp hjn
   obtain ⟨w6,hw6⟩:∃ w6,wr.alloc (.cells #[.int .i64 p.id,.int .i64 p.card,.int .i64 p.own,.int .i64 p.pow,.int .i64 p.tou,.int .i64 p.dam,.int .i64 p.cnt,.int .i64 p.pp,.int .i64 p.pt,.bool p.tap,.bool p.sick,.bool p.doom] 46) = w6:=⟨_,rfl⟩
   have hb6:Below wr.heap.size wr w6:=by rw [← hw6];exact (Below.refl _ _).alloc (Nat.le_refl _) _
   have HVC6:=Lib.hid (HVC.out.below hb6)
   have hk6:Blk w6 wr.heap.size 46 #[.int .i64 p.id,.int .i64 p.card,.int .i64 p.own,.int .i64 p.pow,.int .i64 p.tou,.int .i64 p.dam,.int .i64 p.cnt,.int .i64 p.pp,.int .i64 p.pt,.bool p.tap,.bool p.sick,.bool p.doom]:=by rw [← hw6];exact Blk.mk_ _ _ _ _ rfl
   have d0:=(hk6.at_ 0).trans rfl
   have d1:=(hk6.at_ 1).trans rfl
   have d2:=(hk6.at_ 2).trans rfl
   have d3:=(hk6.at_ 3).trans rfl
   have d4:=(hk6.at_ 4).trans rfl
   have d5:=(hk6.at_ 5).trans rfl
   have d6:=(hk6.at_ 6).trans rfl
   have d7:=(hk6.at_ 7).trans rfl
   have d8:=(hk6.at_ 8).trans rfl
   have d9:=(hk6.at_ 9).trans rfl
   have d10:=(hk6.at_ 10).trans rfl
   have d11:=(hk6.at_ 11).trans rfl
   have cM:=(HVC6.out.mbx.at_ 0).trans rfl
   obtain ⟨w7,hrun,hm7,hg7⟩:=HVC6.out.map.put (x:=p.id) (o:=p) (HR.out.Ow p (List.mem_of_getElem? hp)).1 (by unfold maxLen;have:=HN5.out;omega)
   rw [fO_snoc HSO.out hp] at hm7
   have hV6:=HVC6.out
   have HVC7:Hid (VoC w cs (gB + 1) gB (if (fO (b.objs.take j) p.id).isSome then nM else nM + 1) (fO (b.objs.take (j + 1))) w7):=Lib.hid ⟨hV6.box.grown hg7 (fun e => by injection e with e;have:=hV6.hB;omega),hV6.prm.grown hg7 (fun e => by injection e with e;have:=hV6.hB;omega),hV6.res.grown hg7 (fun e => by injection e with e;have:=hV6.hB;omega),hm7,hV6.mbx.grown hg7 (fun e => by injection e with e;omega),hV6.hM,hV6.hB,hV6.bel.grown hg7 hV6.bel.size (fun q hq => by injection hq with hq;have:=hV6.hB;omega)⟩
   have HNM:Hid ((if (fO (b.objs.take j) p.id).isSome then nM else nM + 1) ≤ j + 1):=Lib.hid (by split <;> omega)
   simp only [Ob.cells] at hrun
   clear hp hadl hk6 hm7 hg7 hV6 hb6 HVC HVC6
   go_wp2_with fail
   go_roundw
   case rel => exact ⟨j + 1,_,by omega,HNM.out,by go_num,HVC7⟩
   case measure => simp [intOf];omega
  ·have hjn':decide ((j:Int) < no) = false:=by simp;omega
   have hf9:fO (b.objs.take j) = fO b.objs:=by rw [List.take_of_length_le (by rw [HNO.out];omega)]
   rw [hf9] at HVC
   have HF9:Hid (∀ i,(∃ o ∈ b.objs,o.id = i) → fO b.objs i = some (obI b.objs i)):=Lib.hid (fun i hi => fO_obI hi)
   clear hf9 hj hnM
   go_wp2_with fail
   refine vo_new k HKK.out w wr b m cs (gB + 1) gB nM (fO b.objs) HCS.out HR.out HSM.out HF9.out HVC.out _ _ _ _ _ _ _ _ _ _ _ _ _ _ _ _ _ _ _ _ _ _ _ _ _ _ _ _ _ _ _ _ _ _ _ _ _ _ _ _ _ _ _ _ _ _ _ _ _ _ _ _ _ _ _ _ _ _ _ _ _ _ _ _ _ _ _ _ _ _ _ _ _ _ _ _ _ _ _ _ _ _ _ _ _ _ _ _ _ _ _ _ _ _ _ _ _ _ _ _ _ _ _ _ _ _ _ _ _ _ _ _ _ _ _ _ _ _ _ _ _ _ _ _ _ _ _ _ _ _ _ _ _ _ _ _ _ _ _ _ _ _ _ _ _ _ _ _ _ _ _ _ ?_ ?_
   ·exact fun d _ _ _ _ h => by cases d <;> exact h
   intro v54 v55 v56 v57 v58 v59 v60 v61 v62 v63 v64 v65 v66 v67 v68 v69 v70 v71 v72 g HA Hc W1 h1
   obtain ⟨hv,hhv⟩:∃ x,Value.slice HA (seN b k).hand.length Hc = x:=⟨_,rfl⟩
   obtain ⟨tl,htl⟩:∃ x,[Value.slice none 0 0,.slice none 0 0,.slice none 0 0,.slice none 0 0,.int .i64 b.turn,.int .i64 b.actv,.int .i64 b.phs,.int .i64 b.hold,.int .i64 b.pas] = x:=⟨_,rfl⟩
   obtain ⟨hd,hhd⟩:∃ x,(seN b k).hand.map (obI b.objs) = x:=⟨_,rfl⟩
   have hdl:(seN b k).hand.length = hd.length:=by rw [← hhd,List.length_map]
   rw [hhv,htl,hhd,hdl] at h1
   have HF1:Hid (VoS w b cs (gB + 1) gB nM (fO b.objs) g k hv tl HA Hc hd 0 zvs zvs W1):=Lib.hid ⟨h1.2.2.1,h1.1,rfl,rfl,h1.2.1,fun h => absurd h (by omega),fun h => absurd h (by omega),h1.2.2.2⟩
   have HHV:=Lib.hid hhv
   have HTL:=Lib.hid htl
   have HHD:=Lib.hid hhd
   have HDL:=Lib.hid hdl
   obtain ⟨SV,hSV⟩:∃ v,(b.s0.cells m.m0 ++ b.s1.cells m.m1).toArray = v:=⟨_,rfl⟩
   have HL28:Hid ((Instr.loadAt 28 (.pointer (some ⟨w.heap.size,1,none⟩))).run Tryz.prog W1 = .ok (.agg SV) W1):=Lib.hid (by
    rw [← hSV]
    refine HF1.out.C.box.mid _ _ (fun j v hj => ?_) Tryz.underlying28 rfl size_seats
    rw [← HCS.out]
    show ((_ :: (b.s0.cells m.m0 ++ b.s1.cells m.m1 ++ _):List Value).toArray)[1 + j]? = _
    rw [List.getElem?_toArray,Nat.add_comm,List.getElem?_cons_succ,List.getElem?_append_left ((List.getElem?_eq_some_iff.1 hj).1)]
    exact hj)
   have HIX:Hid (∀ k:Nat,k < 2 → ∀ W,(Instr.index 28 (.agg SV) (.int .i64 k)).run Tryz.prog W = .ok (.agg ((seN b k).cells (smN m k)).toArray) W):=Lib.hid (fun k hk W => by
    rw [← hSV]
    refine Eq.trans (seats_idx b.s0 b.s1 m.m0 m.m1 hk W) ?_
    unfold seN smN
    split <;> rfl)
   clear h1 hhv htl hhd hdl hSV HVC
   go_wp2_with (first | (refine wpList_load_by HL28.out rfl rfl rfl ?_;simp only [Act.put,List.setIfInBounds_toArray,List.set_cons_succ,List.set_cons_zero]) | fail)
   clear HL28
   go_loopw [75] (fun i W => ∃ (j:Nat) (c0 c1:List Value),j ≤ 2 ∧ i = .int .i64 j ∧ Hid (VoS w b cs (gB + 1) gB nM (fO b.objs) g k hv tl HA Hc hd j c0 c1 W)) (fun i _ => 2 - (intOf i).toNat)
   case atStart => exact ⟨0,zvs,zvs,by omega,rfl,HF1⟩
   case round =>
    obtain ⟨j,c0,c1,hj,rfl,HF⟩:=hrel
    clear HF1
    by_cases hj2:j < 2
    ·have hj2':(j:Int) < 2:=by omega
     have HJ:=Lib.hid hj2
     have hix:=HIX.out j hj2
     obtain ⟨SC,hSC⟩:∃ v,((seN b j).cells (smN m j)).toArray = v:=⟨_,rfl⟩
     rw [hSC] at hix
     obtain ⟨gS,hgS⟩:∃ g,wr.heap.size = g:=⟨_,rfl⟩
     have hZ:=Blk.mk_ wr 27 #[.int .i64 0,.int .i64 0,.int .i64 0,.int .i64 0,.int .i64 0,.slice none 0 0,.slice none 0 0,.slice none 0 0,.slice none 0 0,.bool false,.bool false,.bool false,.int .i64 0,.int .i64 0] gS hgS
     obtain ⟨W6,hst,hB6,hg6⟩:=hZ.storeAll (ty:=27) ((seN b j).cells (smN m j)) rfl (by rw [size_seat];rfl) (one_se _ _)
     have hb6:Below wr.heap.size wr W6:=((Below.refl _ _).alloc (Nat.le_refl _) _).grown hg6 (by simp) (fun q hq => by injection hq with hq;omega)
     have HF6:=Lib.hid (HF.out.below hb6)
     have HNE:Hid (gS ≠ g):=Lib.hid (by have:=HF.out.G.lt;omega)
     rw [hSC] at hst hB6
     have HST:=Lib.hid hst
     have HS6:Hid (Blk W6 gS 27 ((seN b j).cells (smN m j)).toArray):=Lib.hid (by rw [hSC];exact hB6)
     clear hst hB6 hg6 hb6 hZ HF hSC
     go_wp2_with (first | (refine wpList_store_by HST.out rfl rfl rfl rfl ?_;simp only [Act.put,List.setIfInBounds_toArray,List.set_cons_succ,List.set_cons_zero]) | fail)
     refine vo_seat j HJ.out w W6 b m cs (gB + 1) gB nM (fO b.objs) HCS.out HR.out HSM.out HF9.out g k hv tl HA Hc hd c0 c1 HF6.out gS HNE.out HS6.out _ _ _ _ _ _ _ _ _ _ _ _ _ _ _ _ _ _ _ _ _ _ _ _ _ _ _ _ _ _ _ _ _ _ _ _ _ _ _ _ _ _ _ _ _ _ _ _ _ _ _ _ _ _ _ _ _ _ _ _ _ _ _ _ _ _ _ _ _ _ _ _ _ _ _ _ _ _ _ _ _ _ _ _ _ _ _ _ _ _ _ _ _ _ _ _ _ _ _ _ _ _ _ _ _ _ _ _ _ _ _ _ _ _ _ _ _ _ _ _ _ _ _ _ _ _ _ _ _ _ _ _ _ _ _ _ _ _ _ _ _ _ _ _ _ _ _ _ _ _ ?_ ?_
     ·exact fun d _ _ _ _ h => by cases d <;> exact h
     intro v79 v80 v81 v82 v83 v84 v85 v86 v87 v88 v89 v90 v91 v92 v93 v94 v95 v96 v97 v98 v99 v100 v101 v102 v103 v104 v105 v106 v107 v108 v109 v110 c0' c1' W9 hof9
     have HF9':=Lib.hid hof9
     clear hof9 hgS
     go_wp2_with fail
     go_roundw
     case rel => exact ⟨j + 1,c0',c1',by omega,by go_num,HF9'⟩
     case measure => simp [intOf];omega
    ·have hj2':decide ((j:Int) < 2) = false:=by simp;omega
     obtain ⟨x0,e0,hv0⟩:=HF.out.v0 (by omega)
     obtain ⟨x1,e1,hv1⟩:=HF.out.v1 (by omega)
     have HC:=Lib.hid HF.out.C
     have HX:Hid (VwX w b x0 x1 HA Hc hd wr):=Lib.hid ⟨hv0,hv1,HF.out.X⟩
     have HN:=Lib.hid HF.out.N
     have HG:Hid (Blk wr g 98 (vwf b k x0 x1 hv [Value.slice none 0 0,.slice none 0 0,.slice none 0 0,.slice none 0 0,.int .i64 b.turn,.int .i64 b.actv,.int .i64 b.phs,.int .i64 b.hold,.int .i64 b.pas]).toArray):=Lib.hid (by
      have h:=HF.out.G
      rw [e0,e1,← HTL.out] at h
      exact h)
     clear e0 hv0 e1 hv1 HF hj hj2
     go_wp2_with fail
     refine vo_its w wr b m cs (gB + 1) gB nM (fO b.objs) HCS.out HR.out HSM.out HC.out g k x0 x1 hv HA Hc hd HX.out HN.out HG.out _ _ _ _ _ _ _ _ _ _ _ _ _ _ _ _ _ _ _ _ _ _ _ _ _ _ _ _ _ _ _ _ _ _ _ _ _ _ _ _ _ _ _ _ _ _ _ _ _ _ _ _ _ _ _ _ _ _ _ _ _ _ _ _ _ _ _ _ _ _ _ _ _ _ _ _ _ _ _ _ _ _ _ _ _ _ _ _ _ _ _ _ _ _ _ _ _ _ _ _ _ _ _ _ _ _ _ _ _ _ _ _ _ _ _ _ _ _ _ _ _ _ _ _ _ _ _ _ _ _ _ _ _ _ _ _ _ _ _ _ _ _ _ _ _ _ _ _ _ _ _ _ _ ?_ ?_
     ·exact fun d _ _ _ _ h => by cases d <;> exact h
     intro v112 v113 v114 v115 v116 v117 v118 v119 sS sQ ST QT W2 h2
     have HC2:=Lib.hid h2.2.2.1
     have HX2:=Lib.hid h2.2.1
     have HG2:=Lib.hid h2.1
     have HS2:=Lib.hid h2.2.2.2.1
     have HQ2:=Lib.hid h2.2.2.2.2
     clear h2 HC HX HG
     go_wp2_with fail
     refine vo_cln w W2 b m cs (gB + 1) gB nM (fO b.objs) HCS.out HR.out HSM.out HC2.out g k x0 x1 hv HA Hc hd HX2.out HN.out sS sQ ST QT HS2.out HQ2.out HG2.out _ _ _ _ _ _ _ _ _ _ _ _ _ _ _ _ _ _ _ _ _ _ _ _ _ _ _ _ _ _ _ _ _ _ _ _ _ _ _ _ _ _ _ _ _ _ _ _ _ _ _ _ _ _ _ _ _ _ _ _ _ _ _ _ _ _ _ _ _ _ _ _ _ _ _ _ _ _ _ _ _ _ _ _ _ _ _ _ _ _ _ _ _ _ _ _ _ _ _ _ _ _ _ _ _ _ _ _ _ _ _ _ _ _ _ _ _ _ _ _ _ _ _ _ _ _ _ _ _ _ _ _ _ _ _ _ _ _ _ _ _ _ _ _ _ _ _ _ _ _ _ _ _ ?_ ?_
     ·exact fun d _ _ _ _ h => by cases d <;> exact h
     intro v120 v121 v122 v123 v124 v125 v126 v127 sA sK W3 h3
     obtain ⟨hG3,hX3,hC3,hA3,hK3,hS3,hQ3⟩:=h3
     have HPM:Hid (PuO W3 w.heap.size (puOf b) ⟨x0,x1,sS,sQ,ST,QT,sA,sK⟩):=Lib.hid ⟨hX3.v0,hX3.v1,hS3,hQ3,hA3,hK3⟩
     obtain ⟨VC,hVC⟩:∃ l,vwf b k x0 x1 hv [Value.slice sS.A b.stk.length sS.c,.slice sQ.A b.que.length sQ.c,.slice sA.A b.att.length sA.c,.slice sK.A b.blk.length sK.c,.int .i64 b.turn,.int .i64 b.actv,.int .i64 b.phs,.int .i64 b.hold,.int .i64 b.pas] = l:=⟨_,rfl⟩
     have hlen:VC.length = 43:=by rw [← hVC];rfl
     have hone:∀ u ∈ VC,u.oneCell' = true:=by
      rw [← hVC]
      intro u hu
      simp only [vwf,vwc,List.mem_cons,List.mem_append,List.not_mem_nil,or_false] at hu
      rcases hu with rfl | hu | hu | rfl | (rfl | rfl | rfl | rfl | rfl | rfl | rfl | rfl | rfl) | rfl | rfl | rfl | rfl
      all_goals first
       | rfl
       | exact one_vs _ _ u hu
       | (rw [← HHV.out];rfl)
     rw [hVC] at hG3
     have HLP:Hid ((Instr.loadAt 98 (.pointer (some ⟨g,0,none⟩))).run Tryz.prog W3 = .ok (.agg VC.toArray) W3):=Lib.hid (hG3.mid VC _ (fun j v hj => by rw [Nat.zero_add];simpa using hj) Tryz.underlying98 rfl (by rw [size_view,hlen]))
     obtain ⟨W8,hst,hB8,hg8⟩:=hC3.res.storeAll (ty:=98) VC (by rw [hlen];rfl) (by rw [size_view,hlen]) hone
     have HST:=Lib.hid hst
     have HB8:=Lib.hid hB8
     have HEND:Hid (PuO W8 w.heap.size (puOf b) ⟨x0,x1,sS,sQ,ST,QT,sA,sK⟩ ∧ XOwns W8 w.heap.size 46 12 HA hd.length Hc (ocs hd) ∧ Below w.heap.size w W8):=Lib.hid ⟨HPM.out.blk hC3.res hg8 off_view,hX3.H.blk_ hC3.res hg8 (by decide),hC3.bel.grown hg8 hC3.bel.size (fun q hq => by injection hq with hq;omega)⟩
     have p1:=(hC3.prm.at_ 1).trans rfl
     have HVE:=Lib.hid hVC
     have HLEN:=Lib.hid hlen
     clear hG3 hX3 hC3 hA3 hK3 hS3 hQ3 hVC hlen hone hst hB8 hg8 HC2 HX2 HG2 HS2 HQ2
     go_wp2_with (first | (refine wpList_load_by HLP.out rfl rfl rfl ?_;simp only [Act.put,List.setIfInBounds_toArray,List.set_cons_succ,List.set_cons_zero]) | (refine wpList_store_by HST.out rfl rfl rfl rfl ?_;simp only [Act.put,List.setIfInBounds_toArray,List.set_cons_succ,List.set_cons_zero]) | fail)
     refine bodyPost_ret (v:=.tuple #[.agg VC.toArray,.int .i64 0]) ((ret_cell2 (fn:=Tryz.f72) (p:=6) (q:=7) rfl rfl HB8.out Tryz.underlying98 rfl (by rw [size_view];simp [HLEN.out])).trans rfl) rfl ?_
     refine ⟨⟨x0,x1,sS,sQ,ST,QT,sA,sK⟩,HA,Hc,?_,HEND.out.1,?_,HEND.out.2.2⟩
     ·rw [← HVE.out,← HHV.out]
      rfl
     ·rw [HDL.out,HHD.out]
      exact HEND.out.2.1
end Go.Proofs.YtagpphelgghbpaaGreat
