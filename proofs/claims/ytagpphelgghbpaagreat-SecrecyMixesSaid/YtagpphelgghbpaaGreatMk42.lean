/-
  Texts: Rsa.
-/
import Derived.Test.YtagpphelgghbpaaGreatMk26
import Derived.Test.YtagpphelgghbpaaGreatMk41
set_option linter.unusedSimpArgs false
set_option linter.unusedVariables false
namespace Go.Proofs.YtagpphelgghbpaaGreat
open Go.RowKit

def zonL (s:Se) (m:SeM):List Value:=[m.L.v s.lib.length,m.H.v s.hand.length,m.F.v s.fld.length,m.G.v s.grv.length]
theorem zonV_eq (s:Se) (m:SeM):zonV s m = .agg (zonL s m).toArray:=rfl
theorem seat_load0 {W:World} {g:Nat} {c:List Value} (hl:c.length = 14) (h:Blk W g 27 c.toArray):(Instr.loadAt 27 (.pointer (some ⟨g,0,none⟩))).run Tryz.prog W = .ok (.agg c.toArray) W :=
 h.mid c _ (fun j v hj => by rw [Nat.zero_add];simpa using hj) Tryz.underlying27 rfl (by rw [size_seat,hl])
set_option maxRecDepth 100000 in
set_option maxHeartbeats 3200000 in
theorem rsa_r16 (W:World) (gX gY p:Nat) (ca cb:Array Value) (sa sb:List Value) (hX:Blk W gX 33 ca) (hY:Blk W gY 33 cb) (hla:sa.length = 14) (hlb:sb.length = 14) (hoa:∀ u ∈ sa,u.oneCell' = true) (hob:∀ u ∈ sb,u.oneCell' = true) (hp:(p:Int) < 2) (hsa:∀ W',Blk W' gX 33 ca → (Instr.loadAt 27 (.pointer (some ⟨gX,1 + p * 14,none⟩))).run Tryz.prog W' = .ok (.agg sa.toArray) W') (hsb:∀ W',Blk W' gY 33 cb → (Instr.loadAt 27 (.pointer (some ⟨gY,1 + p * 14,none⟩))).run Tryz.prog W' = .ok (.agg sb.toArray) W') (Q:Exit → Act → World → Prop) (t0 t1 t4 t5 t6 t8 t9 t10 t11 t12 t13 t14 t15 t16 t17 t18 t19 t20 t21 t22 t23 t24 t25 t26 t27 t28 t29 t30 t31 t32 t33 t34 t35 t36 t37 t38 t39 t40 t41 t42 t43 t44 t45 t46 t47 t48 t49 t50 t51 t52 t53 t54 t55 t56 t57 t58 t59 t60 t61 t62 t63 t64 t65 t66 t67 t68 t69 t70 t71 t72 t73 t74 t75 t76 t77 t78 t79 t80 t81 t82 t83 t84 t85 t86 t87 t88 t89 t90 t91 t92 t93 t94 t95 t96 t97 t98 t99 t100 t101 t102 t103 t104 t105 t106 t107 t108 t109 t110 t111 t112 t113 t114 t115 t116 t117 t118 t119 t120 t121 t122 t123 t124 t125 t126 t127 t128 t129 t130 t131 t132 t133 t134 t135 t136 t137 t138 t139 t140 t141 t142 t143 t144 t145 t146 t147 t148 t149 t150 t151 t152 t153 t154 t155 t156 t157 t158 t159 t160 t161 t162 t163 t164 t165 t166 t167 t168 t169 t170 t171 t172 t173 t174 t175 t176 t177 t178 t179 t180 t181 t182 t183 t184 t185 t186 t187 t188 t189 t190 t191 t192 t193 t194 t195 t196 t197 t198:Value)
  (hQ:∀ d v c a w,Q (.panic c) (Act.put a d v) w → Q (.panic c) a w)
  (hK:∀ (u128 u129 u130 u131 u132 u133 u134 u135:Value) (p8 p9:Nat) (W9:World),Blk W9 p8 27 sa.toArray ∧ Blk W9 p9 27 sb.toArray ∧ Below W.heap.size W W9 → Q .normal ⟨#[t0,t1,.pointer (some ⟨gX,0,none⟩),.pointer (some ⟨gY,0,none⟩),t4,t5,t6,.int .i64 p,.pointer (some ⟨p8,0,none⟩),.pointer (some ⟨p9,0,none⟩),t10,t11,t12,t13,t14,t15,t16,t17,t18,t19,t20,t21,t22,t23,t24,t25,t26,t27,t28,t29,t30,t31,t32,t33,t34,t35,t36,t37,t38,t39,t40,t41,t42,t43,t44,t45,t46,t47,t48,t49,t50,t51,t52,t53,t54,t55,t56,t57,t58,t59,t60,t61,t62,t63,t64,t65,t66,t67,t68,t69,t70,t71,t72,t73,t74,t75,t76,t77,t78,t79,t80,t81,t82,t83,t84,t85,t86,t87,t88,t89,t90,t91,t92,t93,t94,t95,t96,t97,t98,t99,t100,t101,t102,t103,t104,t105,t106,t107,t108,t109,t110,t111,t112,t113,t114,t115,t116,t117,t118,t119,t120,t121,t122,t123,t124,t125,t126,t127,u128,u129,u130,u131,u132,u133,u134,u135,t136,t137,t138,t139,t140,t141,t142,t143,t144,t145,t146,t147,t148,t149,t150,t151,t152,t153,t154,t155,t156,t157,t158,t159,t160,t161,t162,t163,t164,t165,t166,t167,t168,t169,t170,t171,t172,t173,t174,t175,t176,t177,t178,t179,t180,t181,t182,t183,t184,t185,t186,t187,t188,t189,t190,t191,t192,t193,t194,t195,t196,t197,t198],[]⟩ W9) :
  Code.wp Tryz.prog (regOf Tryz.f13 16) Q ⟨#[t0,t1,.pointer (some ⟨gX,0,none⟩),.pointer (some ⟨gY,0,none⟩),t4,t5,t6,.int .i64 p,t8,t9,t10,t11,t12,t13,t14,t15,t16,t17,t18,t19,t20,t21,t22,t23,t24,t25,t26,t27,t28,t29,t30,t31,t32,t33,t34,t35,t36,t37,t38,t39,t40,t41,t42,t43,t44,t45,t46,t47,t48,t49,t50,t51,t52,t53,t54,t55,t56,t57,t58,t59,t60,t61,t62,t63,t64,t65,t66,t67,t68,t69,t70,t71,t72,t73,t74,t75,t76,t77,t78,t79,t80,t81,t82,t83,t84,t85,t86,t87,t88,t89,t90,t91,t92,t93,t94,t95,t96,t97,t98,t99,t100,t101,t102,t103,t104,t105,t106,t107,t108,t109,t110,t111,t112,t113,t114,t115,t116,t117,t118,t119,t120,t121,t122,t123,t124,t125,t126,t127,t128,t129,t130,t131,t132,t133,t134,t135,t136,t137,t138,t139,t140,t141,t142,t143,t144,t145,t146,t147,t148,t149,t150,t151,t152,t153,t154,t155,t156,t157,t158,t159,t160,t161,t162,t163,t164,t165,t166,t167,t168,t169,t170,t171,t172,t173,t174,t175,t176,t177,t178,t179,t180,t181,t182,t183,t184,t185,t186,t187,t188,t189,t190,t191,t192,t193,t194,t195,t196,t197,t198],[]⟩ W:=by
 have HKK:=Lib.hid hK
 clear hK
 conv => arg 2;whnf
 have hp0:decide ((p:Int) < 0) = false:=decide_eq_false (by omega)
 have HL1:Hid (∀ W',(∃ s:In (fun W' => Blk W' gX 33 ca ∧ Blk W' gY 33 cb),W' = s.W) → (Instr.loadAt 27 (.pointer (some ⟨gX,1 + p * 14,none⟩))).run Tryz.prog W' = .ok (.agg sa.toArray) W'):=Lib.hid (fun W' hW => by
  obtain ⟨s,rfl⟩:=hW
  exact hsa _ s.h.1)
 have HL2:Hid (∀ W',(∃ s:In (fun W' => Blk W' gX 33 ca ∧ Blk W' gY 33 cb),W' = s.W) → (Instr.loadAt 27 (.pointer (some ⟨gY,1 + p * 14,none⟩))).run Tryz.prog W' = .ok (.agg sb.toArray) W'):=Lib.hid (fun W' hW => by
  obtain ⟨s,rfl⟩:=hW
  exact hsb _ s.h.2)
 have HP:=Lib.hid (And.intro hX hY)
 have HQ:=Lib.hid hQ
 have HSL:=Lib.hid (And.intro (And.intro hla hlb) (And.intro hoa hob))
 have hne_:Nonempty (In (fun W' => Blk W' gX 33 ca ∧ Blk W' gY 33 cb)):=⟨⟨W,hX,hY⟩⟩
 have hgx:=hX.lt
 have hgy:=hY.lt
 clear hX hY hla hlb hoa hob hsa hsb hQ
 refine wp_region_sched (fun w' => ∃ s:In (fun W' => Blk W' gX 33 ca ∧ Blk W' gY 33 cb),w' = s.W) [0,1,2,3,4,5,6,7] (.two 8 [] (.one 9 [] (.one 10 [] (.one 11 [] .done))) 9 [] (.one 8 [] (.one 10 [] (.one 11 [] .done)))) (by kernel_rfl) (by kernel_rfl) HQ.out ⟨⟨_,⟨HP.out.1.drew,HP.out.2.drew⟩⟩,rfl⟩ ?_
 refine quiet_as (C':=(fun w' => ∃ s:In (fun W' => Blk W' gX 33 ca ∧ Blk W' gY 33 cb),w' = s.W)) rfl ?_
 simp only [opsAt,List.getElem?_toArray,List.getElem?_cons_succ,List.getElem?_cons_zero]
 repeat (first | (first | (refine wpQuiet_load_by HL1.out ⟨_,⟨⟨_,HP.out⟩,rfl⟩⟩ rfl rfl rfl ?_;simp only [Act.put,List.setIfInBounds_toArray,List.set_cons_succ,List.set_cons_zero]) | (refine wpQuiet_load_by HL2.out ⟨_,⟨⟨_,HP.out⟩,rfl⟩⟩ rfl rfl rfl ?_;simp only [Act.put,List.setIfInBounds_toArray,List.set_cons_succ,List.set_cons_zero])) | go_big_quiet_step (fail))
 refine wpQuiet_nil ?_
 obtain ⟨W_d,hwd⟩:∃ v,W.drew = v:=⟨_,rfl⟩
 have HBW_1:Hid (Below W.heap.size W W_d):=Lib.hid (by rw [← hwd];exact (Below.refl _ _).drew)
 have HBR_1:Hid (Below W.heap.size W W_d):=Lib.hid (by rw [← hwd];exact (Below.refl _ _).drew)
 have P1_1:=Lib.hid ((HP.out.1).call (show Below W.heap.size W W_d by rw [← hwd];exact (Below.refl _ _).drew))
 have P2_1:=Lib.hid ((HP.out.2).call (show Below W.heap.size W W_d by rw [← hwd];exact (Below.refl _ _).drew))
 rw [hwd]
 clear hwd
 refine ⟨?_,?_⟩
 ·refine eff_as (C':=(fun w' => ∃ s:In (fun W' => Blk W' gX 33 ca ∧ Blk W' gY 33 cb),w' = s.W)) rfl ?_
  (refine eff_lit rfl rfl (fun K hK => ?_))
  go_big_op
  obtain ⟨W_2,hvW_2⟩:∃ v,(W_d.alloc (.cells #[Value.int .i64 0,.int .i64 0,.int .i64 0,.int .i64 0,.int .i64 0,.slice none 0 0,.slice none 0 0,.slice none 0 0,.slice none 0 0,.bool false,.bool false,.bool false,.int .i64 0,.int .i64 0] 27)) = v:=⟨_,rfl⟩
  have hbW_2:Below W_d.heap.size W_d W_2:=by rw [← hvW_2];exact (Below.refl _ _).alloc (Nat.le_refl _) _
  obtain ⟨p8,hgp8⟩:∃ v,W_d.heap.size = v:=⟨_,rfl⟩
  have hkW_2:Blk W_2 p8 27 #[Value.int .i64 0,.int .i64 0,.int .i64 0,.int .i64 0,.int .i64 0,.slice none 0 0,.slice none 0 0,.slice none 0 0,.slice none 0 0,.bool false,.bool false,.bool false,.int .i64 0,.int .i64 0]:=by rw [← hvW_2];exact Blk.mk_ _ _ _ _ hgp8
  have HNp8:Hid (W.heap.size ≤ p8 ∧ W.heap.size ≤ p8):=Lib.hid ⟨by rw [← hgp8];exact HBR_1.out.size,by rw [← hgp8];exact HBW_1.out.size⟩
  rw [hvW_2,hgp8]
  have B8_3:=Lib.hid (hkW_2)
  have HBW_3:=Lib.hid (below_call HBW_1.out hbW_2 HBW_1.out.size)
  clear HBW_1
  have HBR_3:=Lib.hid (below_call HBR_1.out hbW_2 HBR_1.out.size)
  clear HBR_1
  have P1_3:=Lib.hid (P1_1.out.call hbW_2)
  clear P1_1
  have P2_3:=Lib.hid (P2_1.out.call hbW_2)
  clear P2_1
  clear hkW_2 hvW_2 hgp8 hbW_2
  refine hK _ _ ⟨⟨_,⟨P1_3.out,P2_3.out⟩⟩,rfl⟩ ?_
  clear hK K
  try simp only [opsAt,List.getElem?_toArray,List.getElem?_cons_succ,List.getElem?_cons_zero]
  refine wpQuiet_nil ?_
  refine eff_as (C':=(fun w' => ∃ s:In (fun W' => Blk W' gX 33 ca ∧ Blk W' gY 33 cb),w' = s.W)) rfl ?_
  (refine eff_lit rfl rfl (fun K hK => ?_))
  go_big_op
  obtain ⟨W_4,hvW_4⟩:∃ v,(W_2.alloc (.cells #[Value.int .i64 0,.int .i64 0,.int .i64 0,.int .i64 0,.int .i64 0,.slice none 0 0,.slice none 0 0,.slice none 0 0,.slice none 0 0,.bool false,.bool false,.bool false,.int .i64 0,.int .i64 0] 27)) = v:=⟨_,rfl⟩
  have hbW_4:Below W_2.heap.size W_2 W_4:=by rw [← hvW_4];exact (Below.refl _ _).alloc (Nat.le_refl _) _
  obtain ⟨p9,hgp9⟩:∃ v,W_2.heap.size = v:=⟨_,rfl⟩
  have hkW_4:Blk W_4 p9 27 #[Value.int .i64 0,.int .i64 0,.int .i64 0,.int .i64 0,.int .i64 0,.slice none 0 0,.slice none 0 0,.slice none 0 0,.slice none 0 0,.bool false,.bool false,.bool false,.int .i64 0,.int .i64 0]:=by rw [← hvW_4];exact Blk.mk_ _ _ _ _ hgp9
  have HNp9:Hid (W.heap.size ≤ p9 ∧ W.heap.size ≤ p9):=Lib.hid ⟨by rw [← hgp9];exact HBR_3.out.size,by rw [← hgp9];exact HBW_3.out.size⟩
  have HNE9:Hid (p8 ≠ p9):=Lib.hid (by have h9:=B8_3.out.lt;omega)
  rw [hvW_4,hgp9]
  have B9_5:=Lib.hid (hkW_4)
  have HBW_5:=Lib.hid (below_call HBW_3.out hbW_4 HBW_3.out.size)
  clear HBW_3
  have HBR_5:=Lib.hid (below_call HBR_3.out hbW_4 HBR_3.out.size)
  clear HBR_3
  have P1_5:=Lib.hid (P1_3.out.call hbW_4)
  clear P1_3
  have P2_5:=Lib.hid (P2_3.out.call hbW_4)
  clear P2_3
  have B8_5:=Lib.hid (B8_3.out.call hbW_4)
  clear B8_3
  clear hkW_4 hvW_4 hgp9 hbW_4
  refine hK _ _ ⟨⟨_,⟨P1_5.out,P2_5.out⟩⟩,rfl⟩ ?_
  clear hK K
  try simp only [opsAt,List.getElem?_toArray,List.getElem?_cons_succ,List.getElem?_cons_zero]
  refine wpQuiet_nil ?_
  refine eff_as (C':=(fun w' => ∃ s:In (fun W' => Blk W' gX 33 ca ∧ Blk W' gY 33 cb),w' = s.W)) rfl ?_
  (refine eff_lit rfl rfl (fun K hK => ?_))
  obtain ⟨W_6,hrun,hk9,hg9⟩:=B8_5.out.storeAll (ty:=27) sa (by rw [HSL.out.1.1];rfl) (by rw [size_seat,HSL.out.1.1]) (HSL.out.2.1)
  refine wp_store_by hrun rfl rfl rfl ?_
  simp only [Act.put,List.setIfInBounds_toArray,List.set_cons_succ,List.set_cons_zero]
  clear hrun
  have hp9:=HNp8.out
  have hn9:=HNE9.out
  have HBW_7:=Lib.hid (HBW_5.out.grown hg9 HBW_5.out.size (fun q hq => by injection hq with hq;omega))
  clear HBW_5
  have HBR_7:=Lib.hid (HBR_5.out.grown hg9 HBR_5.out.size (fun q hq => by injection hq with hq;omega))
  clear HBR_5
  have P1_7:=Lib.hid (P1_5.out.grown hg9 (fun e => by injection e with e;omega))
  clear P1_5
  have P2_7:=Lib.hid (P2_5.out.grown hg9 (fun e => by injection e with e;omega))
  clear P2_5
  have B9_7:=Lib.hid (B9_5.out.grown hg9 (fun e => by injection e with e;omega))
  clear B9_5
  have B8_8:=Lib.hid hk9
  clear hk9 hg9 hp9 hn9 B8_5
  refine hK _ _ ⟨⟨_,⟨P1_7.out,P2_7.out⟩⟩,rfl⟩ ?_
  clear hK K
  try simp only [opsAt,List.getElem?_toArray,List.getElem?_cons_succ,List.getElem?_cons_zero]
  refine wpQuiet_nil ?_
  refine eff_as (C':=(fun w' => ∃ s:In (fun W' => Blk W' gX 33 ca ∧ Blk W' gY 33 cb),w' = s.W)) rfl ?_
  (refine eff_lit rfl rfl (fun K hK => ?_))
  obtain ⟨W_9,hrun,hk9,hg9⟩:=B9_7.out.storeAll (ty:=27) sb (by rw [HSL.out.1.2];rfl) (by rw [size_seat,HSL.out.1.2]) (HSL.out.2.2)
  refine wp_store_by hrun rfl rfl rfl ?_
  simp only [Act.put,List.setIfInBounds_toArray,List.set_cons_succ,List.set_cons_zero]
  clear hrun
  have hp9:=HNp9.out
  have hn9:=HNE9.out
  have HBW_10:=Lib.hid (HBW_7.out.grown hg9 HBW_7.out.size (fun q hq => by injection hq with hq;omega))
  clear HBW_7
  have HBR_10:=Lib.hid (HBR_7.out.grown hg9 HBR_7.out.size (fun q hq => by injection hq with hq;omega))
  clear HBR_7
  have P1_10:=Lib.hid (P1_7.out.grown hg9 (fun e => by injection e with e;omega))
  clear P1_7
  have P2_10:=Lib.hid (P2_7.out.grown hg9 (fun e => by injection e with e;omega))
  clear P2_7
  have B8_10:=Lib.hid (B8_8.out.grown hg9 (fun e => by injection e with e;omega))
  clear B8_8
  have B9_11:=Lib.hid hk9
  clear hk9 hg9 hp9 hn9 B9_7
  refine hK _ _ ⟨⟨_,⟨P1_10.out,P2_10.out⟩⟩,rfl⟩ ?_
  clear hK K
  try simp only [opsAt,List.getElem?_toArray,List.getElem?_cons_succ,List.getElem?_cons_zero]
  refine wpQuiet_nil ?_
  refine effs_done ?_
  exact HKK.out _ _ _ _ _ _ _ _ p8 p9 _ ⟨B8_10.out,B9_11.out,HBR_10.out⟩
 ·refine eff_as (C':=(fun w' => ∃ s:In (fun W' => Blk W' gX 33 ca ∧ Blk W' gY 33 cb),w' = s.W)) rfl ?_
  (refine eff_lit rfl rfl (fun K hK => ?_))
  go_big_op
  obtain ⟨W_12,hvW_12⟩:∃ v,(W_d.alloc (.cells #[Value.int .i64 0,.int .i64 0,.int .i64 0,.int .i64 0,.int .i64 0,.slice none 0 0,.slice none 0 0,.slice none 0 0,.slice none 0 0,.bool false,.bool false,.bool false,.int .i64 0,.int .i64 0] 27)) = v:=⟨_,rfl⟩
  have hbW_12:Below W_d.heap.size W_d W_12:=by rw [← hvW_12];exact (Below.refl _ _).alloc (Nat.le_refl _) _
  obtain ⟨p9,hgp9⟩:∃ v,W_d.heap.size = v:=⟨_,rfl⟩
  have hkW_12:Blk W_12 p9 27 #[Value.int .i64 0,.int .i64 0,.int .i64 0,.int .i64 0,.int .i64 0,.slice none 0 0,.slice none 0 0,.slice none 0 0,.slice none 0 0,.bool false,.bool false,.bool false,.int .i64 0,.int .i64 0]:=by rw [← hvW_12];exact Blk.mk_ _ _ _ _ hgp9
  have HNp9:Hid (W.heap.size ≤ p9 ∧ W.heap.size ≤ p9):=Lib.hid ⟨by rw [← hgp9];exact HBR_1.out.size,by rw [← hgp9];exact HBW_1.out.size⟩
  rw [hvW_12,hgp9]
  have B9_13:=Lib.hid (hkW_12)
  have HBW_13:=Lib.hid (below_call HBW_1.out hbW_12 HBW_1.out.size)
  clear HBW_1
  have HBR_13:=Lib.hid (below_call HBR_1.out hbW_12 HBR_1.out.size)
  clear HBR_1
  have P1_13:=Lib.hid (P1_1.out.call hbW_12)
  clear P1_1
  have P2_13:=Lib.hid (P2_1.out.call hbW_12)
  clear P2_1
  clear hkW_12 hvW_12 hgp9 hbW_12
  refine hK _ _ ⟨⟨_,⟨P1_13.out,P2_13.out⟩⟩,rfl⟩ ?_
  clear hK K
  try simp only [opsAt,List.getElem?_toArray,List.getElem?_cons_succ,List.getElem?_cons_zero]
  refine wpQuiet_nil ?_
  refine eff_as (C':=(fun w' => ∃ s:In (fun W' => Blk W' gX 33 ca ∧ Blk W' gY 33 cb),w' = s.W)) rfl ?_
  (refine eff_lit rfl rfl (fun K hK => ?_))
  go_big_op
  obtain ⟨W_14,hvW_14⟩:∃ v,(W_12.alloc (.cells #[Value.int .i64 0,.int .i64 0,.int .i64 0,.int .i64 0,.int .i64 0,.slice none 0 0,.slice none 0 0,.slice none 0 0,.slice none 0 0,.bool false,.bool false,.bool false,.int .i64 0,.int .i64 0] 27)) = v:=⟨_,rfl⟩
  have hbW_14:Below W_12.heap.size W_12 W_14:=by rw [← hvW_14];exact (Below.refl _ _).alloc (Nat.le_refl _) _
  obtain ⟨p8,hgp8⟩:∃ v,W_12.heap.size = v:=⟨_,rfl⟩
  have hkW_14:Blk W_14 p8 27 #[Value.int .i64 0,.int .i64 0,.int .i64 0,.int .i64 0,.int .i64 0,.slice none 0 0,.slice none 0 0,.slice none 0 0,.slice none 0 0,.bool false,.bool false,.bool false,.int .i64 0,.int .i64 0]:=by rw [← hvW_14];exact Blk.mk_ _ _ _ _ hgp8
  have HNp8:Hid (W.heap.size ≤ p8 ∧ W.heap.size ≤ p8):=Lib.hid ⟨by rw [← hgp8];exact HBR_13.out.size,by rw [← hgp8];exact HBW_13.out.size⟩
  have HNE9:Hid (p9 ≠ p8):=Lib.hid (by have h9:=B9_13.out.lt;omega)
  rw [hvW_14,hgp8]
  have B8_15:=Lib.hid (hkW_14)
  have HBW_15:=Lib.hid (below_call HBW_13.out hbW_14 HBW_13.out.size)
  clear HBW_13
  have HBR_15:=Lib.hid (below_call HBR_13.out hbW_14 HBR_13.out.size)
  clear HBR_13
  have P1_15:=Lib.hid (P1_13.out.call hbW_14)
  clear P1_13
  have P2_15:=Lib.hid (P2_13.out.call hbW_14)
  clear P2_13
  have B9_15:=Lib.hid (B9_13.out.call hbW_14)
  clear B9_13
  clear hkW_14 hvW_14 hgp8 hbW_14
  refine hK _ _ ⟨⟨_,⟨P1_15.out,P2_15.out⟩⟩,rfl⟩ ?_
  clear hK K
  try simp only [opsAt,List.getElem?_toArray,List.getElem?_cons_succ,List.getElem?_cons_zero]
  refine wpQuiet_nil ?_
  refine eff_as (C':=(fun w' => ∃ s:In (fun W' => Blk W' gX 33 ca ∧ Blk W' gY 33 cb),w' = s.W)) rfl ?_
  (refine eff_lit rfl rfl (fun K hK => ?_))
  obtain ⟨W_16,hrun,hk9,hg9⟩:=B8_15.out.storeAll (ty:=27) sa (by rw [HSL.out.1.1];rfl) (by rw [size_seat,HSL.out.1.1]) (HSL.out.2.1)
  refine wp_store_by hrun rfl rfl rfl ?_
  simp only [Act.put,List.setIfInBounds_toArray,List.set_cons_succ,List.set_cons_zero]
  clear hrun
  have hp9:=HNp8.out
  have hn9:=HNE9.out
  have HBW_17:=Lib.hid (HBW_15.out.grown hg9 HBW_15.out.size (fun q hq => by injection hq with hq;omega))
  clear HBW_15
  have HBR_17:=Lib.hid (HBR_15.out.grown hg9 HBR_15.out.size (fun q hq => by injection hq with hq;omega))
  clear HBR_15
  have P1_17:=Lib.hid (P1_15.out.grown hg9 (fun e => by injection e with e;omega))
  clear P1_15
  have P2_17:=Lib.hid (P2_15.out.grown hg9 (fun e => by injection e with e;omega))
  clear P2_15
  have B9_17:=Lib.hid (B9_15.out.grown hg9 (fun e => by injection e with e;omega))
  clear B9_15
  have B8_18:=Lib.hid hk9
  clear hk9 hg9 hp9 hn9 B8_15
  refine hK _ _ ⟨⟨_,⟨P1_17.out,P2_17.out⟩⟩,rfl⟩ ?_
  clear hK K
  try simp only [opsAt,List.getElem?_toArray,List.getElem?_cons_succ,List.getElem?_cons_zero]
  refine wpQuiet_nil ?_
  refine eff_as (C':=(fun w' => ∃ s:In (fun W' => Blk W' gX 33 ca ∧ Blk W' gY 33 cb),w' = s.W)) rfl ?_
  (refine eff_lit rfl rfl (fun K hK => ?_))
  obtain ⟨W_19,hrun,hk9,hg9⟩:=B9_17.out.storeAll (ty:=27) sb (by rw [HSL.out.1.2];rfl) (by rw [size_seat,HSL.out.1.2]) (HSL.out.2.2)
  refine wp_store_by hrun rfl rfl rfl ?_
  simp only [Act.put,List.setIfInBounds_toArray,List.set_cons_succ,List.set_cons_zero]
  clear hrun
  have hp9:=HNp9.out
  have hn9:=HNE9.out
  have HBW_20:=Lib.hid (HBW_17.out.grown hg9 HBW_17.out.size (fun q hq => by injection hq with hq;omega))
  clear HBW_17
  have HBR_20:=Lib.hid (HBR_17.out.grown hg9 HBR_17.out.size (fun q hq => by injection hq with hq;omega))
  clear HBR_17
  have P1_20:=Lib.hid (P1_17.out.grown hg9 (fun e => by injection e with e;omega))
  clear P1_17
  have P2_20:=Lib.hid (P2_17.out.grown hg9 (fun e => by injection e with e;omega))
  clear P2_17
  have B8_20:=Lib.hid (B8_18.out.grown hg9 (fun e => by injection e with e;omega))
  clear B8_18
  have B9_21:=Lib.hid hk9
  clear hk9 hg9 hp9 hn9 B9_17
  refine hK _ _ ⟨⟨_,⟨P1_20.out,P2_20.out⟩⟩,rfl⟩ ?_
  clear hK K
  try simp only [opsAt,List.getElem?_toArray,List.getElem?_cons_succ,List.getElem?_cons_zero]
  refine wpQuiet_nil ?_
  refine effs_done ?_
  exact HKK.out _ _ _ _ _ _ _ _ p8 p9 _ ⟨B8_20.out,B9_21.out,HBR_20.out⟩

set_option maxRecDepth 100000 in
set_option maxHeartbeats 3200000 in
theorem rsa_r19 (W:World) (gX gY:Nat) (sa sb za zb:List Value) (hX:Blk W gX 27 sa.toArray) (hY:Blk W gY 27 sb.toArray) (hla:sa.length = 14) (hlb:sb.length = 14) (hoa:za.length = 4 ∧ ∀ u ∈ za,u.oneCell' = true) (hob:zb.length = 4 ∧ ∀ u ∈ zb,u.oneCell' = true) (hca:∀ W',Calls Tryz.prog 38 #[.agg sa.toArray] W' fun e w' => e = .returned (.agg za.toArray) ∧ Below W'.heap.size W' w') (hcb:∀ W',Calls Tryz.prog 38 #[.agg sb.toArray] W' fun e w' => e = .returned (.agg zb.toArray) ∧ Below W'.heap.size W' w') (Q:Exit → Act → World → Prop) (t0 t1 t2 t3 t4 t5 t6 t7 t10 t11 t12 t13 t14 t15 t16 t17 t18 t19 t20 t21 t22 t23 t24 t25 t26 t27 t28 t29 t30 t31 t32 t33 t34 t35 t36 t37 t38 t39 t40 t41 t42 t43 t44 t45 t46 t47 t48 t49 t50 t51 t52 t53 t54 t55 t56 t57 t58 t59 t60 t61 t62 t63 t64 t65 t66 t67 t68 t69 t70 t71 t72 t73 t74 t75 t76 t77 t78 t79 t80 t81 t82 t83 t84 t85 t86 t87 t88 t89 t90 t91 t92 t93 t94 t95 t96 t97 t98 t99 t100 t101 t102 t103 t104 t105 t106 t107 t108 t109 t110 t111 t112 t113 t114 t115 t116 t117 t118 t119 t120 t121 t122 t123 t124 t125 t126 t127 t128 t129 t130 t131 t132 t133 t134 t135 t136 t137 t138 t139 t140 t141 t142 t143 t144 t145 t146 t147 t148 t149 t150 t151 t152 t153 t154 t155 t156 t157 t158 t159 t160 t161 t162 t163 t164 t165 t166 t167 t168 t169 t170 t171 t172 t173 t174 t175 t176 t177 t178 t179 t180 t181 t182 t183 t184 t185 t186 t187 t188 t189 t190 t191 t192 t193 t194 t195 t196 t197 t198:Value)
  (hQ:∀ d v c a w,Q (.panic c) (Act.put a d v) w → Q (.panic c) a w)
  (hK:∀ (u183 u184 u185 u186:Value) (pA pB:Nat) (W9:World),Blk W9 pA 85 za.toArray ∧ Blk W9 pB 85 zb.toArray ∧ Below W.heap.size W W9 → Q .normal ⟨#[t0,t1,t2,t3,t4,t5,t6,t7,.pointer (some ⟨gX,0,none⟩),.pointer (some ⟨gY,0,none⟩),.pointer (some ⟨pA,0,none⟩),.pointer (some ⟨pB,0,none⟩),t12,t13,t14,t15,t16,t17,t18,t19,t20,t21,t22,t23,t24,t25,t26,t27,t28,t29,t30,t31,t32,t33,t34,t35,t36,t37,t38,t39,t40,t41,t42,t43,t44,t45,t46,t47,t48,t49,t50,t51,t52,t53,t54,t55,t56,t57,t58,t59,t60,t61,t62,t63,t64,t65,t66,t67,t68,t69,t70,t71,t72,t73,t74,t75,t76,t77,t78,t79,t80,t81,t82,t83,t84,t85,t86,t87,t88,t89,t90,t91,t92,t93,t94,t95,t96,t97,t98,t99,t100,t101,t102,t103,t104,t105,t106,t107,t108,t109,t110,t111,t112,t113,t114,t115,t116,t117,t118,t119,t120,t121,t122,t123,t124,t125,t126,t127,t128,t129,t130,t131,t132,t133,t134,t135,t136,t137,t138,t139,t140,t141,t142,t143,t144,t145,t146,t147,t148,t149,t150,t151,t152,t153,t154,t155,t156,t157,t158,t159,t160,t161,t162,t163,t164,t165,t166,t167,t168,t169,t170,t171,t172,t173,t174,t175,t176,t177,t178,t179,t180,t181,t182,u183,u184,u185,u186,t187,t188,t189,t190,t191,t192,t193,t194,t195,t196,t197,t198],[]⟩ W9) :
  Code.wp Tryz.prog (regOf Tryz.f13 19) Q ⟨#[t0,t1,t2,t3,t4,t5,t6,t7,.pointer (some ⟨gX,0,none⟩),.pointer (some ⟨gY,0,none⟩),t10,t11,t12,t13,t14,t15,t16,t17,t18,t19,t20,t21,t22,t23,t24,t25,t26,t27,t28,t29,t30,t31,t32,t33,t34,t35,t36,t37,t38,t39,t40,t41,t42,t43,t44,t45,t46,t47,t48,t49,t50,t51,t52,t53,t54,t55,t56,t57,t58,t59,t60,t61,t62,t63,t64,t65,t66,t67,t68,t69,t70,t71,t72,t73,t74,t75,t76,t77,t78,t79,t80,t81,t82,t83,t84,t85,t86,t87,t88,t89,t90,t91,t92,t93,t94,t95,t96,t97,t98,t99,t100,t101,t102,t103,t104,t105,t106,t107,t108,t109,t110,t111,t112,t113,t114,t115,t116,t117,t118,t119,t120,t121,t122,t123,t124,t125,t126,t127,t128,t129,t130,t131,t132,t133,t134,t135,t136,t137,t138,t139,t140,t141,t142,t143,t144,t145,t146,t147,t148,t149,t150,t151,t152,t153,t154,t155,t156,t157,t158,t159,t160,t161,t162,t163,t164,t165,t166,t167,t168,t169,t170,t171,t172,t173,t174,t175,t176,t177,t178,t179,t180,t181,t182,t183,t184,t185,t186,t187,t188,t189,t190,t191,t192,t193,t194,t195,t196,t197,t198],[]⟩ W:=by
 have HKK:=Lib.hid hK
 clear hK
 conv => arg 2;whnf
 have HL1:Hid (∀ W',(∃ s:In (fun W' => Blk W' gX 27 sa.toArray ∧ Blk W' gY 27 sb.toArray),W' = s.W) → (Instr.loadAt 27 (.pointer (some ⟨gX,0,none⟩))).run Tryz.prog W' = .ok (.agg sa.toArray) W'):=Lib.hid (fun W' hW => by
  obtain ⟨s,rfl⟩:=hW
  exact seat_load0 hla s.h.1)
 have HL2:Hid (∀ W',(∃ s:In (fun W' => Blk W' gX 27 sa.toArray ∧ Blk W' gY 27 sb.toArray),W' = s.W) → (Instr.loadAt 27 (.pointer (some ⟨gY,0,none⟩))).run Tryz.prog W' = .ok (.agg sb.toArray) W'):=Lib.hid (fun W' hW => by
  obtain ⟨s,rfl⟩:=hW
  exact seat_load0 hlb s.h.2)
 have HP:=Lib.hid (And.intro hX hY)
 have HQ:=Lib.hid hQ
 have HCA:=Lib.hid hca
 have HCB:=Lib.hid hcb
 have HSL:=Lib.hid (And.intro (And.intro hoa.1 hob.1) (And.intro hoa.2 hob.2))
 have hne_:Nonempty (In (fun W' => Blk W' gX 27 sa.toArray ∧ Blk W' gY 27 sb.toArray)):=⟨⟨W,hX,hY⟩⟩
 have hgx:=hX.lt
 have hgy:=hY.lt
 clear hX hY hla hlb hoa hob hca hcb hQ
 refine wp_region_sched (fun w' => ∃ s:In (fun W' => Blk W' gX 27 sa.toArray ∧ Blk W' gY 27 sb.toArray),w' = s.W) [0,2] (.three 1 [] (.three 3 [] (.two 4 [] (.one 5 [] (.one 6 [] (.one 7 [] .done))) 5 [] (.one 4 [] (.one 6 [] (.one 7 [] .done)))) 4 [] (.two 3 [] (.one 5 [] (.one 6 [] (.one 7 [] .done))) 5 [] (.one 3 [] (.one 6 [] (.one 7 [] .done)))) 5 [] (.two 3 [] (.one 4 [] (.one 6 [] (.one 7 [] .done))) 4 [] (.one 3 [] (.one 6 [] (.one 7 [] .done))))) 4 [] (.two 1 [] (.two 3 [] (.one 5 [] (.one 6 [] (.one 7 [] .done))) 5 [] (.one 3 [] (.one 6 [] (.one 7 [] .done)))) 5 [] (.one 1 [] (.one 3 [] (.one 6 [] (.one 7 [] .done))))) 5 [] (.two 1 [] (.two 3 [] (.one 4 [] (.one 6 [] (.one 7 [] .done))) 4 [] (.one 3 [] (.one 6 [] (.one 7 [] .done)))) 4 [] (.one 1 [] (.one 3 [] (.one 6 [] (.one 7 [] .done)))))) (by kernel_rfl) (by kernel_rfl) HQ.out ⟨⟨_,⟨HP.out.1.drew,HP.out.2.drew⟩⟩,rfl⟩ ?_
 refine quiet_as (C':=(fun w' => ∃ s:In (fun W' => Blk W' gX 27 sa.toArray ∧ Blk W' gY 27 sb.toArray),w' = s.W)) rfl ?_
 simp only [opsAt,List.getElem?_toArray,List.getElem?_cons_succ,List.getElem?_cons_zero]
 repeat (first | (first | (refine wpQuiet_load_by HL1.out ⟨_,⟨⟨_,HP.out⟩,rfl⟩⟩ rfl rfl rfl ?_;simp only [Act.put,List.setIfInBounds_toArray,List.set_cons_succ,List.set_cons_zero]) | (refine wpQuiet_load_by HL2.out ⟨_,⟨⟨_,HP.out⟩,rfl⟩⟩ rfl rfl rfl ?_;simp only [Act.put,List.setIfInBounds_toArray,List.set_cons_succ,List.set_cons_zero])) | go_big_quiet_step (fail))
 refine wpQuiet_nil ?_
 obtain ⟨W_d,hwd⟩:∃ v,W.drew = v:=⟨_,rfl⟩
 have HBW_1:Hid (Below W.heap.size W W_d):=Lib.hid (by rw [← hwd];exact (Below.refl _ _).drew)
 have HBR_1:Hid (Below W.heap.size W W_d):=Lib.hid (by rw [← hwd];exact (Below.refl _ _).drew)
 have P1_1:=Lib.hid ((HP.out.1).call (show Below W.heap.size W W_d by rw [← hwd];exact (Below.refl _ _).drew))
 have P2_1:=Lib.hid ((HP.out.2).call (show Below W.heap.size W W_d by rw [← hwd];exact (Below.refl _ _).drew))
 rw [hwd]
 clear hwd
 refine ⟨?_,?_,?_⟩
 ·refine eff_as (C':=(fun w' => ∃ s:In (fun W' => Blk W' gX 27 sa.toArray ∧ Blk W' gY 27 sb.toArray),w' = s.W)) rfl ?_
  (refine eff_lit rfl rfl (fun K hK => ?_))
  go_big_op
  refine (HCA.out W_d).mono ?_
  rintro e W_2 ⟨rfl,hbW_2⟩
  have HBW_3:=Lib.hid (below_call HBW_1.out hbW_2 HBW_1.out.size)
  clear HBW_1
  have HBR_3:=Lib.hid (below_call HBR_1.out hbW_2 HBR_1.out.size)
  clear HBR_1
  have P1_3:=Lib.hid (P1_1.out.call hbW_2)
  clear P1_1
  have P2_3:=Lib.hid (P2_1.out.call hbW_2)
  clear P2_1
  clear hbW_2
  refine hK _ _ ⟨⟨_,⟨P1_3.out,P2_3.out⟩⟩,rfl⟩ ?_
  clear hK K
  try simp only [opsAt,List.getElem?_toArray,List.getElem?_cons_succ,List.getElem?_cons_zero]
  refine wpQuiet_nil ?_
  refine ⟨?_,?_,?_⟩
  ·refine eff_as (C':=(fun w' => ∃ s:In (fun W' => Blk W' gX 27 sa.toArray ∧ Blk W' gY 27 sb.toArray),w' = s.W)) rfl ?_
   (refine eff_lit rfl rfl (fun K hK => ?_))
   go_big_op
   refine (HCB.out W_2).mono ?_
   rintro e W_4 ⟨rfl,hbW_4⟩
   have HBW_5:=Lib.hid (below_call HBW_3.out hbW_4 HBW_3.out.size)
   clear HBW_3
   have HBR_5:=Lib.hid (below_call HBR_3.out hbW_4 HBR_3.out.size)
   clear HBR_3
   have P1_5:=Lib.hid (P1_3.out.call hbW_4)
   clear P1_3
   have P2_5:=Lib.hid (P2_3.out.call hbW_4)
   clear P2_3
   clear hbW_4
   refine hK _ _ ⟨⟨_,⟨P1_5.out,P2_5.out⟩⟩,rfl⟩ ?_
   clear hK K
   try simp only [opsAt,List.getElem?_toArray,List.getElem?_cons_succ,List.getElem?_cons_zero]
   refine wpQuiet_nil ?_
   refine ⟨?_,?_⟩
   ·refine eff_as (C':=(fun w' => ∃ s:In (fun W' => Blk W' gX 27 sa.toArray ∧ Blk W' gY 27 sb.toArray),w' = s.W)) rfl ?_
    (refine eff_lit rfl rfl (fun K hK => ?_))
    go_big_op
    obtain ⟨W_6,hvW_6⟩:∃ v,(W_4.alloc (.cells #[Value.slice none 0 0,.slice none 0 0,.slice none 0 0,.slice none 0 0] 85)) = v:=⟨_,rfl⟩
    have hbW_6:Below W_4.heap.size W_4 W_6:=by rw [← hvW_6];exact (Below.refl _ _).alloc (Nat.le_refl _) _
    obtain ⟨pA,hgpA⟩:∃ v,W_4.heap.size = v:=⟨_,rfl⟩
    have hkW_6:Blk W_6 pA 85 #[Value.slice none 0 0,.slice none 0 0,.slice none 0 0,.slice none 0 0]:=by rw [← hvW_6];exact Blk.mk_ _ _ _ _ hgpA
    have HNpA:Hid (W.heap.size ≤ pA ∧ W.heap.size ≤ pA):=Lib.hid ⟨by rw [← hgpA];exact HBR_5.out.size,by rw [← hgpA];exact HBW_5.out.size⟩
    rw [hvW_6,hgpA]
    have BA_7:=Lib.hid (hkW_6)
    have HBW_7:=Lib.hid (below_call HBW_5.out hbW_6 HBW_5.out.size)
    clear HBW_5
    have HBR_7:=Lib.hid (below_call HBR_5.out hbW_6 HBR_5.out.size)
    clear HBR_5
    have P1_7:=Lib.hid (P1_5.out.call hbW_6)
    clear P1_5
    have P2_7:=Lib.hid (P2_5.out.call hbW_6)
    clear P2_5
    clear hkW_6 hvW_6 hgpA hbW_6
    refine hK _ _ ⟨⟨_,⟨P1_7.out,P2_7.out⟩⟩,rfl⟩ ?_
    clear hK K
    try simp only [opsAt,List.getElem?_toArray,List.getElem?_cons_succ,List.getElem?_cons_zero]
    refine wpQuiet_nil ?_
    refine eff_as (C':=(fun w' => ∃ s:In (fun W' => Blk W' gX 27 sa.toArray ∧ Blk W' gY 27 sb.toArray),w' = s.W)) rfl ?_
    (refine eff_lit rfl rfl (fun K hK => ?_))
    go_big_op
    obtain ⟨W_8,hvW_8⟩:∃ v,(W_6.alloc (.cells #[Value.slice none 0 0,.slice none 0 0,.slice none 0 0,.slice none 0 0] 85)) = v:=⟨_,rfl⟩
    have hbW_8:Below W_6.heap.size W_6 W_8:=by rw [← hvW_8];exact (Below.refl _ _).alloc (Nat.le_refl _) _
    obtain ⟨pB,hgpB⟩:∃ v,W_6.heap.size = v:=⟨_,rfl⟩
    have hkW_8:Blk W_8 pB 85 #[Value.slice none 0 0,.slice none 0 0,.slice none 0 0,.slice none 0 0]:=by rw [← hvW_8];exact Blk.mk_ _ _ _ _ hgpB
    have HNpB:Hid (W.heap.size ≤ pB ∧ W.heap.size ≤ pB):=Lib.hid ⟨by rw [← hgpB];exact HBR_7.out.size,by rw [← hgpB];exact HBW_7.out.size⟩
    have HNE9:Hid (pA ≠ pB):=Lib.hid (by have h9:=BA_7.out.lt;omega)
    rw [hvW_8,hgpB]
    have BB_9:=Lib.hid (hkW_8)
    have HBW_9:=Lib.hid (below_call HBW_7.out hbW_8 HBW_7.out.size)
    clear HBW_7
    have HBR_9:=Lib.hid (below_call HBR_7.out hbW_8 HBR_7.out.size)
    clear HBR_7
    have P1_9:=Lib.hid (P1_7.out.call hbW_8)
    clear P1_7
    have P2_9:=Lib.hid (P2_7.out.call hbW_8)
    clear P2_7
    have BA_9:=Lib.hid (BA_7.out.call hbW_8)
    clear BA_7
    clear hkW_8 hvW_8 hgpB hbW_8
    refine hK _ _ ⟨⟨_,⟨P1_9.out,P2_9.out⟩⟩,rfl⟩ ?_
    clear hK K
    try simp only [opsAt,List.getElem?_toArray,List.getElem?_cons_succ,List.getElem?_cons_zero]
    refine wpQuiet_nil ?_
    refine eff_as (C':=(fun w' => ∃ s:In (fun W' => Blk W' gX 27 sa.toArray ∧ Blk W' gY 27 sb.toArray),w' = s.W)) rfl ?_
    (refine eff_lit rfl rfl (fun K hK => ?_))
    obtain ⟨W_10,hrun,hk9,hg9⟩:=BA_9.out.storeAll (ty:=85) za (by rw [HSL.out.1.1];rfl) (by rw [size_zon,HSL.out.1.1]) (HSL.out.2.1)
    refine wp_store_by hrun rfl rfl rfl ?_
    simp only [Act.put,List.setIfInBounds_toArray,List.set_cons_succ,List.set_cons_zero]
    clear hrun
    have hp9:=HNpA.out
    have hn9:=HNE9.out
    have HBW_11:=Lib.hid (HBW_9.out.grown hg9 HBW_9.out.size (fun q hq => by injection hq with hq;omega))
    clear HBW_9
    have HBR_11:=Lib.hid (HBR_9.out.grown hg9 HBR_9.out.size (fun q hq => by injection hq with hq;omega))
    clear HBR_9
    have P1_11:=Lib.hid (P1_9.out.grown hg9 (fun e => by injection e with e;omega))
    clear P1_9
    have P2_11:=Lib.hid (P2_9.out.grown hg9 (fun e => by injection e with e;omega))
    clear P2_9
    have BB_11:=Lib.hid (BB_9.out.grown hg9 (fun e => by injection e with e;omega))
    clear BB_9
    have BA_12:=Lib.hid hk9
    clear hk9 hg9 hp9 hn9 BA_9
    refine hK _ _ ⟨⟨_,⟨P1_11.out,P2_11.out⟩⟩,rfl⟩ ?_
    clear hK K
    try simp only [opsAt,List.getElem?_toArray,List.getElem?_cons_succ,List.getElem?_cons_zero]
    refine wpQuiet_nil ?_
    refine eff_as (C':=(fun w' => ∃ s:In (fun W' => Blk W' gX 27 sa.toArray ∧ Blk W' gY 27 sb.toArray),w' = s.W)) rfl ?_
    (refine eff_lit rfl rfl (fun K hK => ?_))
    obtain ⟨W_13,hrun,hk9,hg9⟩:=BB_11.out.storeAll (ty:=85) zb (by rw [HSL.out.1.2];rfl) (by rw [size_zon,HSL.out.1.2]) (HSL.out.2.2)
    refine wp_store_by hrun rfl rfl rfl ?_
    simp only [Act.put,List.setIfInBounds_toArray,List.set_cons_succ,List.set_cons_zero]
    clear hrun
    have hp9:=HNpB.out
    have hn9:=HNE9.out
    have HBW_14:=Lib.hid (HBW_11.out.grown hg9 HBW_11.out.size (fun q hq => by injection hq with hq;omega))
    clear HBW_11
    have HBR_14:=Lib.hid (HBR_11.out.grown hg9 HBR_11.out.size (fun q hq => by injection hq with hq;omega))
    clear HBR_11
    have P1_14:=Lib.hid (P1_11.out.grown hg9 (fun e => by injection e with e;omega))
    clear P1_11
    have P2_14:=Lib.hid (P2_11.out.grown hg9 (fun e => by injection e with e;omega))
    clear P2_11
    have BA_14:=Lib.hid (BA_12.out.grown hg9 (fun e => by injection e with e;omega))
    clear BA_12
    have BB_15:=Lib.hid hk9
    clear hk9 hg9 hp9 hn9 BB_11
    refine hK _ _ ⟨⟨_,⟨P1_14.out,P2_14.out⟩⟩,rfl⟩ ?_
    clear hK K
    try simp only [opsAt,List.getElem?_toArray,List.getElem?_cons_succ,List.getElem?_cons_zero]
    refine wpQuiet_nil ?_
    refine effs_done ?_
    exact HKK.out _ _ _ _ pA pB _ ⟨BA_14.out,BB_15.out,HBR_14.out⟩
   ·refine eff_as (C':=(fun w' => ∃ s:In (fun W' => Blk W' gX 27 sa.toArray ∧ Blk W' gY 27 sb.toArray),w' = s.W)) rfl ?_
    (refine eff_lit rfl rfl (fun K hK => ?_))
    go_big_op
    obtain ⟨W_16,hvW_16⟩:∃ v,(W_4.alloc (.cells #[Value.slice none 0 0,.slice none 0 0,.slice none 0 0,.slice none 0 0] 85)) = v:=⟨_,rfl⟩
    have hbW_16:Below W_4.heap.size W_4 W_16:=by rw [← hvW_16];exact (Below.refl _ _).alloc (Nat.le_refl _) _
    obtain ⟨pB,hgpB⟩:∃ v,W_4.heap.size = v:=⟨_,rfl⟩
    have hkW_16:Blk W_16 pB 85 #[Value.slice none 0 0,.slice none 0 0,.slice none 0 0,.slice none 0 0]:=by rw [← hvW_16];exact Blk.mk_ _ _ _ _ hgpB
    have HNpB:Hid (W.heap.size ≤ pB ∧ W.heap.size ≤ pB):=Lib.hid ⟨by rw [← hgpB];exact HBR_5.out.size,by rw [← hgpB];exact HBW_5.out.size⟩
    rw [hvW_16,hgpB]
    have BB_17:=Lib.hid (hkW_16)
    have HBW_17:=Lib.hid (below_call HBW_5.out hbW_16 HBW_5.out.size)
    clear HBW_5
    have HBR_17:=Lib.hid (below_call HBR_5.out hbW_16 HBR_5.out.size)
    clear HBR_5
    have P1_17:=Lib.hid (P1_5.out.call hbW_16)
    clear P1_5
    have P2_17:=Lib.hid (P2_5.out.call hbW_16)
    clear P2_5
    clear hkW_16 hvW_16 hgpB hbW_16
    refine hK _ _ ⟨⟨_,⟨P1_17.out,P2_17.out⟩⟩,rfl⟩ ?_
    clear hK K
    try simp only [opsAt,List.getElem?_toArray,List.getElem?_cons_succ,List.getElem?_cons_zero]
    refine wpQuiet_nil ?_
    refine eff_as (C':=(fun w' => ∃ s:In (fun W' => Blk W' gX 27 sa.toArray ∧ Blk W' gY 27 sb.toArray),w' = s.W)) rfl ?_
    (refine eff_lit rfl rfl (fun K hK => ?_))
    go_big_op
    obtain ⟨W_18,hvW_18⟩:∃ v,(W_16.alloc (.cells #[Value.slice none 0 0,.slice none 0 0,.slice none 0 0,.slice none 0 0] 85)) = v:=⟨_,rfl⟩
    have hbW_18:Below W_16.heap.size W_16 W_18:=by rw [← hvW_18];exact (Below.refl _ _).alloc (Nat.le_refl _) _
    obtain ⟨pA,hgpA⟩:∃ v,W_16.heap.size = v:=⟨_,rfl⟩
    have hkW_18:Blk W_18 pA 85 #[Value.slice none 0 0,.slice none 0 0,.slice none 0 0,.slice none 0 0]:=by rw [← hvW_18];exact Blk.mk_ _ _ _ _ hgpA
    have HNpA:Hid (W.heap.size ≤ pA ∧ W.heap.size ≤ pA):=Lib.hid ⟨by rw [← hgpA];exact HBR_17.out.size,by rw [← hgpA];exact HBW_17.out.size⟩
    have HNE9:Hid (pB ≠ pA):=Lib.hid (by have h9:=BB_17.out.lt;omega)
    rw [hvW_18,hgpA]
    have BA_19:=Lib.hid (hkW_18)
    have HBW_19:=Lib.hid (below_call HBW_17.out hbW_18 HBW_17.out.size)
    clear HBW_17
    have HBR_19:=Lib.hid (below_call HBR_17.out hbW_18 HBR_17.out.size)
    clear HBR_17
    have P1_19:=Lib.hid (P1_17.out.call hbW_18)
    clear P1_17
    have P2_19:=Lib.hid (P2_17.out.call hbW_18)
    clear P2_17
    have BB_19:=Lib.hid (BB_17.out.call hbW_18)
    clear BB_17
    clear hkW_18 hvW_18 hgpA hbW_18
    refine hK _ _ ⟨⟨_,⟨P1_19.out,P2_19.out⟩⟩,rfl⟩ ?_
    clear hK K
    try simp only [opsAt,List.getElem?_toArray,List.getElem?_cons_succ,List.getElem?_cons_zero]
    refine wpQuiet_nil ?_
    refine eff_as (C':=(fun w' => ∃ s:In (fun W' => Blk W' gX 27 sa.toArray ∧ Blk W' gY 27 sb.toArray),w' = s.W)) rfl ?_
    (refine eff_lit rfl rfl (fun K hK => ?_))
    obtain ⟨W_20,hrun,hk9,hg9⟩:=BA_19.out.storeAll (ty:=85) za (by rw [HSL.out.1.1];rfl) (by rw [size_zon,HSL.out.1.1]) (HSL.out.2.1)
    refine wp_store_by hrun rfl rfl rfl ?_
    simp only [Act.put,List.setIfInBounds_toArray,List.set_cons_succ,List.set_cons_zero]
    clear hrun
    have hp9:=HNpA.out
    have hn9:=HNE9.out
    have HBW_21:=Lib.hid (HBW_19.out.grown hg9 HBW_19.out.size (fun q hq => by injection hq with hq;omega))
    clear HBW_19
    have HBR_21:=Lib.hid (HBR_19.out.grown hg9 HBR_19.out.size (fun q hq => by injection hq with hq;omega))
    clear HBR_19
    have P1_21:=Lib.hid (P1_19.out.grown hg9 (fun e => by injection e with e;omega))
    clear P1_19
    have P2_21:=Lib.hid (P2_19.out.grown hg9 (fun e => by injection e with e;omega))
    clear P2_19
    have BB_21:=Lib.hid (BB_19.out.grown hg9 (fun e => by injection e with e;omega))
    clear BB_19
    have BA_22:=Lib.hid hk9
    clear hk9 hg9 hp9 hn9 BA_19
    refine hK _ _ ⟨⟨_,⟨P1_21.out,P2_21.out⟩⟩,rfl⟩ ?_
    clear hK K
    try simp only [opsAt,List.getElem?_toArray,List.getElem?_cons_succ,List.getElem?_cons_zero]
    refine wpQuiet_nil ?_
    refine eff_as (C':=(fun w' => ∃ s:In (fun W' => Blk W' gX 27 sa.toArray ∧ Blk W' gY 27 sb.toArray),w' = s.W)) rfl ?_
    (refine eff_lit rfl rfl (fun K hK => ?_))
    obtain ⟨W_23,hrun,hk9,hg9⟩:=BB_21.out.storeAll (ty:=85) zb (by rw [HSL.out.1.2];rfl) (by rw [size_zon,HSL.out.1.2]) (HSL.out.2.2)
    refine wp_store_by hrun rfl rfl rfl ?_
    simp only [Act.put,List.setIfInBounds_toArray,List.set_cons_succ,List.set_cons_zero]
    clear hrun
    have hp9:=HNpB.out
    have hn9:=HNE9.out
    have HBW_24:=Lib.hid (HBW_21.out.grown hg9 HBW_21.out.size (fun q hq => by injection hq with hq;omega))
    clear HBW_21
    have HBR_24:=Lib.hid (HBR_21.out.grown hg9 HBR_21.out.size (fun q hq => by injection hq with hq;omega))
    clear HBR_21
    have P1_24:=Lib.hid (P1_21.out.grown hg9 (fun e => by injection e with e;omega))
    clear P1_21
    have P2_24:=Lib.hid (P2_21.out.grown hg9 (fun e => by injection e with e;omega))
    clear P2_21
    have BA_24:=Lib.hid (BA_22.out.grown hg9 (fun e => by injection e with e;omega))
    clear BA_22
    have BB_25:=Lib.hid hk9
    clear hk9 hg9 hp9 hn9 BB_21
    refine hK _ _ ⟨⟨_,⟨P1_24.out,P2_24.out⟩⟩,rfl⟩ ?_
    clear hK K
    try simp only [opsAt,List.getElem?_toArray,List.getElem?_cons_succ,List.getElem?_cons_zero]
    refine wpQuiet_nil ?_
    refine effs_done ?_
    exact HKK.out _ _ _ _ pA pB _ ⟨BA_24.out,BB_25.out,HBR_24.out⟩
  ·refine eff_as (C':=(fun w' => ∃ s:In (fun W' => Blk W' gX 27 sa.toArray ∧ Blk W' gY 27 sb.toArray),w' = s.W)) rfl ?_
   (refine eff_lit rfl rfl (fun K hK => ?_))
   go_big_op
   obtain ⟨W_26,hvW_26⟩:∃ v,(W_2.alloc (.cells #[Value.slice none 0 0,.slice none 0 0,.slice none 0 0,.slice none 0 0] 85)) = v:=⟨_,rfl⟩
   have hbW_26:Below W_2.heap.size W_2 W_26:=by rw [← hvW_26];exact (Below.refl _ _).alloc (Nat.le_refl _) _
   obtain ⟨pA,hgpA⟩:∃ v,W_2.heap.size = v:=⟨_,rfl⟩
   have hkW_26:Blk W_26 pA 85 #[Value.slice none 0 0,.slice none 0 0,.slice none 0 0,.slice none 0 0]:=by rw [← hvW_26];exact Blk.mk_ _ _ _ _ hgpA
   have HNpA:Hid (W.heap.size ≤ pA ∧ W.heap.size ≤ pA):=Lib.hid ⟨by rw [← hgpA];exact HBR_3.out.size,by rw [← hgpA];exact HBW_3.out.size⟩
   rw [hvW_26,hgpA]
   have BA_27:=Lib.hid (hkW_26)
   have HBW_27:=Lib.hid (below_call HBW_3.out hbW_26 HBW_3.out.size)
   clear HBW_3
   have HBR_27:=Lib.hid (below_call HBR_3.out hbW_26 HBR_3.out.size)
   clear HBR_3
   have P1_27:=Lib.hid (P1_3.out.call hbW_26)
   clear P1_3
   have P2_27:=Lib.hid (P2_3.out.call hbW_26)
   clear P2_3
   clear hkW_26 hvW_26 hgpA hbW_26
   refine hK _ _ ⟨⟨_,⟨P1_27.out,P2_27.out⟩⟩,rfl⟩ ?_
   clear hK K
   try simp only [opsAt,List.getElem?_toArray,List.getElem?_cons_succ,List.getElem?_cons_zero]
   refine wpQuiet_nil ?_
   refine ⟨?_,?_⟩
   ·refine eff_as (C':=(fun w' => ∃ s:In (fun W' => Blk W' gX 27 sa.toArray ∧ Blk W' gY 27 sb.toArray),w' = s.W)) rfl ?_
    (refine eff_lit rfl rfl (fun K hK => ?_))
    go_big_op
    refine (HCB.out W_26).mono ?_
    rintro e W_28 ⟨rfl,hbW_28⟩
    have HBW_29:=Lib.hid (below_call HBW_27.out hbW_28 HBW_27.out.size)
    clear HBW_27
    have HBR_29:=Lib.hid (below_call HBR_27.out hbW_28 HBR_27.out.size)
    clear HBR_27
    have P1_29:=Lib.hid (P1_27.out.call hbW_28)
    clear P1_27
    have P2_29:=Lib.hid (P2_27.out.call hbW_28)
    clear P2_27
    have BA_29:=Lib.hid (BA_27.out.call hbW_28)
    clear BA_27
    clear hbW_28
    refine hK _ _ ⟨⟨_,⟨P1_29.out,P2_29.out⟩⟩,rfl⟩ ?_
    clear hK K
    try simp only [opsAt,List.getElem?_toArray,List.getElem?_cons_succ,List.getElem?_cons_zero]
    refine wpQuiet_nil ?_
    refine eff_as (C':=(fun w' => ∃ s:In (fun W' => Blk W' gX 27 sa.toArray ∧ Blk W' gY 27 sb.toArray),w' = s.W)) rfl ?_
    (refine eff_lit rfl rfl (fun K hK => ?_))
    go_big_op
    obtain ⟨W_30,hvW_30⟩:∃ v,(W_28.alloc (.cells #[Value.slice none 0 0,.slice none 0 0,.slice none 0 0,.slice none 0 0] 85)) = v:=⟨_,rfl⟩
    have hbW_30:Below W_28.heap.size W_28 W_30:=by rw [← hvW_30];exact (Below.refl _ _).alloc (Nat.le_refl _) _
    obtain ⟨pB,hgpB⟩:∃ v,W_28.heap.size = v:=⟨_,rfl⟩
    have hkW_30:Blk W_30 pB 85 #[Value.slice none 0 0,.slice none 0 0,.slice none 0 0,.slice none 0 0]:=by rw [← hvW_30];exact Blk.mk_ _ _ _ _ hgpB
    have HNpB:Hid (W.heap.size ≤ pB ∧ W.heap.size ≤ pB):=Lib.hid ⟨by rw [← hgpB];exact HBR_29.out.size,by rw [← hgpB];exact HBW_29.out.size⟩
    have HNE9:Hid (pA ≠ pB):=Lib.hid (by have h9:=BA_29.out.lt;omega)
    rw [hvW_30,hgpB]
    have BB_31:=Lib.hid (hkW_30)
    have HBW_31:=Lib.hid (below_call HBW_29.out hbW_30 HBW_29.out.size)
    clear HBW_29
    have HBR_31:=Lib.hid (below_call HBR_29.out hbW_30 HBR_29.out.size)
    clear HBR_29
    have P1_31:=Lib.hid (P1_29.out.call hbW_30)
    clear P1_29
    have P2_31:=Lib.hid (P2_29.out.call hbW_30)
    clear P2_29
    have BA_31:=Lib.hid (BA_29.out.call hbW_30)
    clear BA_29
    clear hkW_30 hvW_30 hgpB hbW_30
    refine hK _ _ ⟨⟨_,⟨P1_31.out,P2_31.out⟩⟩,rfl⟩ ?_
    clear hK K
    try simp only [opsAt,List.getElem?_toArray,List.getElem?_cons_succ,List.getElem?_cons_zero]
    refine wpQuiet_nil ?_
    refine eff_as (C':=(fun w' => ∃ s:In (fun W' => Blk W' gX 27 sa.toArray ∧ Blk W' gY 27 sb.toArray),w' = s.W)) rfl ?_
    (refine eff_lit rfl rfl (fun K hK => ?_))
    obtain ⟨W_32,hrun,hk9,hg9⟩:=BA_31.out.storeAll (ty:=85) za (by rw [HSL.out.1.1];rfl) (by rw [size_zon,HSL.out.1.1]) (HSL.out.2.1)
    refine wp_store_by hrun rfl rfl rfl ?_
    simp only [Act.put,List.setIfInBounds_toArray,List.set_cons_succ,List.set_cons_zero]
    clear hrun
    have hp9:=HNpA.out
    have hn9:=HNE9.out
    have HBW_33:=Lib.hid (HBW_31.out.grown hg9 HBW_31.out.size (fun q hq => by injection hq with hq;omega))
    clear HBW_31
    have HBR_33:=Lib.hid (HBR_31.out.grown hg9 HBR_31.out.size (fun q hq => by injection hq with hq;omega))
    clear HBR_31
    have P1_33:=Lib.hid (P1_31.out.grown hg9 (fun e => by injection e with e;omega))
    clear P1_31
    have P2_33:=Lib.hid (P2_31.out.grown hg9 (fun e => by injection e with e;omega))
    clear P2_31
    have BB_33:=Lib.hid (BB_31.out.grown hg9 (fun e => by injection e with e;omega))
    clear BB_31
    have BA_34:=Lib.hid hk9
    clear hk9 hg9 hp9 hn9 BA_31
    refine hK _ _ ⟨⟨_,⟨P1_33.out,P2_33.out⟩⟩,rfl⟩ ?_
    clear hK K
    try simp only [opsAt,List.getElem?_toArray,List.getElem?_cons_succ,List.getElem?_cons_zero]
    refine wpQuiet_nil ?_
    refine eff_as (C':=(fun w' => ∃ s:In (fun W' => Blk W' gX 27 sa.toArray ∧ Blk W' gY 27 sb.toArray),w' = s.W)) rfl ?_
    (refine eff_lit rfl rfl (fun K hK => ?_))
    obtain ⟨W_35,hrun,hk9,hg9⟩:=BB_33.out.storeAll (ty:=85) zb (by rw [HSL.out.1.2];rfl) (by rw [size_zon,HSL.out.1.2]) (HSL.out.2.2)
    refine wp_store_by hrun rfl rfl rfl ?_
    simp only [Act.put,List.setIfInBounds_toArray,List.set_cons_succ,List.set_cons_zero]
    clear hrun
    have hp9:=HNpB.out
    have hn9:=HNE9.out
    have HBW_36:=Lib.hid (HBW_33.out.grown hg9 HBW_33.out.size (fun q hq => by injection hq with hq;omega))
    clear HBW_33
    have HBR_36:=Lib.hid (HBR_33.out.grown hg9 HBR_33.out.size (fun q hq => by injection hq with hq;omega))
    clear HBR_33
    have P1_36:=Lib.hid (P1_33.out.grown hg9 (fun e => by injection e with e;omega))
    clear P1_33
    have P2_36:=Lib.hid (P2_33.out.grown hg9 (fun e => by injection e with e;omega))
    clear P2_33
    have BA_36:=Lib.hid (BA_34.out.grown hg9 (fun e => by injection e with e;omega))
    clear BA_34
    have BB_37:=Lib.hid hk9
    clear hk9 hg9 hp9 hn9 BB_33
    refine hK _ _ ⟨⟨_,⟨P1_36.out,P2_36.out⟩⟩,rfl⟩ ?_
    clear hK K
    try simp only [opsAt,List.getElem?_toArray,List.getElem?_cons_succ,List.getElem?_cons_zero]
    refine wpQuiet_nil ?_
    refine effs_done ?_
    exact HKK.out _ _ _ _ pA pB _ ⟨BA_36.out,BB_37.out,HBR_36.out⟩
   ·refine eff_as (C':=(fun w' => ∃ s:In (fun W' => Blk W' gX 27 sa.toArray ∧ Blk W' gY 27 sb.toArray),w' = s.W)) rfl ?_
    (refine eff_lit rfl rfl (fun K hK => ?_))
    go_big_op
    obtain ⟨W_38,hvW_38⟩:∃ v,(W_26.alloc (.cells #[Value.slice none 0 0,.slice none 0 0,.slice none 0 0,.slice none 0 0] 85)) = v:=⟨_,rfl⟩
    have hbW_38:Below W_26.heap.size W_26 W_38:=by rw [← hvW_38];exact (Below.refl _ _).alloc (Nat.le_refl _) _
    obtain ⟨pB,hgpB⟩:∃ v,W_26.heap.size = v:=⟨_,rfl⟩
    have hkW_38:Blk W_38 pB 85 #[Value.slice none 0 0,.slice none 0 0,.slice none 0 0,.slice none 0 0]:=by rw [← hvW_38];exact Blk.mk_ _ _ _ _ hgpB
    have HNpB:Hid (W.heap.size ≤ pB ∧ W.heap.size ≤ pB):=Lib.hid ⟨by rw [← hgpB];exact HBR_27.out.size,by rw [← hgpB];exact HBW_27.out.size⟩
    have HNE9:Hid (pA ≠ pB):=Lib.hid (by have h9:=BA_27.out.lt;omega)
    rw [hvW_38,hgpB]
    have BB_39:=Lib.hid (hkW_38)
    have HBW_39:=Lib.hid (below_call HBW_27.out hbW_38 HBW_27.out.size)
    clear HBW_27
    have HBR_39:=Lib.hid (below_call HBR_27.out hbW_38 HBR_27.out.size)
    clear HBR_27
    have P1_39:=Lib.hid (P1_27.out.call hbW_38)
    clear P1_27
    have P2_39:=Lib.hid (P2_27.out.call hbW_38)
    clear P2_27
    have BA_39:=Lib.hid (BA_27.out.call hbW_38)
    clear BA_27
    clear hkW_38 hvW_38 hgpB hbW_38
    refine hK _ _ ⟨⟨_,⟨P1_39.out,P2_39.out⟩⟩,rfl⟩ ?_
    clear hK K
    try simp only [opsAt,List.getElem?_toArray,List.getElem?_cons_succ,List.getElem?_cons_zero]
    refine wpQuiet_nil ?_
    refine eff_as (C':=(fun w' => ∃ s:In (fun W' => Blk W' gX 27 sa.toArray ∧ Blk W' gY 27 sb.toArray),w' = s.W)) rfl ?_
    (refine eff_lit rfl rfl (fun K hK => ?_))
    go_big_op
    refine (HCB.out W_38).mono ?_
    rintro e W_40 ⟨rfl,hbW_40⟩
    have HBW_41:=Lib.hid (below_call HBW_39.out hbW_40 HBW_39.out.size)
    clear HBW_39
    have HBR_41:=Lib.hid (below_call HBR_39.out hbW_40 HBR_39.out.size)
    clear HBR_39
    have P1_41:=Lib.hid (P1_39.out.call hbW_40)
    clear P1_39
    have P2_41:=Lib.hid (P2_39.out.call hbW_40)
    clear P2_39
    have BA_41:=Lib.hid (BA_39.out.call hbW_40)
    clear BA_39
    have BB_41:=Lib.hid (BB_39.out.call hbW_40)
    clear BB_39
    clear hbW_40
    refine hK _ _ ⟨⟨_,⟨P1_41.out,P2_41.out⟩⟩,rfl⟩ ?_
    clear hK K
    try simp only [opsAt,List.getElem?_toArray,List.getElem?_cons_succ,List.getElem?_cons_zero]
    refine wpQuiet_nil ?_
    refine eff_as (C':=(fun w' => ∃ s:In (fun W' => Blk W' gX 27 sa.toArray ∧ Blk W' gY 27 sb.toArray),w' = s.W)) rfl ?_
    (refine eff_lit rfl rfl (fun K hK => ?_))
    obtain ⟨W_42,hrun,hk9,hg9⟩:=BA_41.out.storeAll (ty:=85) za (by rw [HSL.out.1.1];rfl) (by rw [size_zon,HSL.out.1.1]) (HSL.out.2.1)
    refine wp_store_by hrun rfl rfl rfl ?_
    simp only [Act.put,List.setIfInBounds_toArray,List.set_cons_succ,List.set_cons_zero]
    clear hrun
    have hp9:=HNpA.out
    have hn9:=HNE9.out
    have HBW_43:=Lib.hid (HBW_41.out.grown hg9 HBW_41.out.size (fun q hq => by injection hq with hq;omega))
    clear HBW_41
    have HBR_43:=Lib.hid (HBR_41.out.grown hg9 HBR_41.out.size (fun q hq => by injection hq with hq;omega))
    clear HBR_41
    have P1_43:=Lib.hid (P1_41.out.grown hg9 (fun e => by injection e with e;omega))
    clear P1_41
    have P2_43:=Lib.hid (P2_41.out.grown hg9 (fun e => by injection e with e;omega))
    clear P2_41
    have BB_43:=Lib.hid (BB_41.out.grown hg9 (fun e => by injection e with e;omega))
    clear BB_41
    have BA_44:=Lib.hid hk9
    clear hk9 hg9 hp9 hn9 BA_41
    refine hK _ _ ⟨⟨_,⟨P1_43.out,P2_43.out⟩⟩,rfl⟩ ?_
    clear hK K
    try simp only [opsAt,List.getElem?_toArray,List.getElem?_cons_succ,List.getElem?_cons_zero]
    refine wpQuiet_nil ?_
    refine eff_as (C':=(fun w' => ∃ s:In (fun W' => Blk W' gX 27 sa.toArray ∧ Blk W' gY 27 sb.toArray),w' = s.W)) rfl ?_
    (refine eff_lit rfl rfl (fun K hK => ?_))
    obtain ⟨W_45,hrun,hk9,hg9⟩:=BB_43.out.storeAll (ty:=85) zb (by rw [HSL.out.1.2];rfl) (by rw [size_zon,HSL.out.1.2]) (HSL.out.2.2)
    refine wp_store_by hrun rfl rfl rfl ?_
    simp only [Act.put,List.setIfInBounds_toArray,List.set_cons_succ,List.set_cons_zero]
    clear hrun
    have hp9:=HNpB.out
    have hn9:=HNE9.out
    have HBW_46:=Lib.hid (HBW_43.out.grown hg9 HBW_43.out.size (fun q hq => by injection hq with hq;omega))
    clear HBW_43
    have HBR_46:=Lib.hid (HBR_43.out.grown hg9 HBR_43.out.size (fun q hq => by injection hq with hq;omega))
    clear HBR_43
    have P1_46:=Lib.hid (P1_43.out.grown hg9 (fun e => by injection e with e;omega))
    clear P1_43
    have P2_46:=Lib.hid (P2_43.out.grown hg9 (fun e => by injection e with e;omega))
    clear P2_43
    have BA_46:=Lib.hid (BA_44.out.grown hg9 (fun e => by injection e with e;omega))
    clear BA_44
    have BB_47:=Lib.hid hk9
    clear hk9 hg9 hp9 hn9 BB_43
    refine hK _ _ ⟨⟨_,⟨P1_46.out,P2_46.out⟩⟩,rfl⟩ ?_
    clear hK K
    try simp only [opsAt,List.getElem?_toArray,List.getElem?_cons_succ,List.getElem?_cons_zero]
    refine wpQuiet_nil ?_
    refine effs_done ?_
    exact HKK.out _ _ _ _ pA pB _ ⟨BA_46.out,BB_47.out,HBR_46.out⟩
  ·refine eff_as (C':=(fun w' => ∃ s:In (fun W' => Blk W' gX 27 sa.toArray ∧ Blk W' gY 27 sb.toArray),w' = s.W)) rfl ?_
   (refine eff_lit rfl rfl (fun K hK => ?_))
   go_big_op
   obtain ⟨W_48,hvW_48⟩:∃ v,(W_2.alloc (.cells #[Value.slice none 0 0,.slice none 0 0,.slice none 0 0,.slice none 0 0] 85)) = v:=⟨_,rfl⟩
   have hbW_48:Below W_2.heap.size W_2 W_48:=by rw [← hvW_48];exact (Below.refl _ _).alloc (Nat.le_refl _) _
   obtain ⟨pB,hgpB⟩:∃ v,W_2.heap.size = v:=⟨_,rfl⟩
   have hkW_48:Blk W_48 pB 85 #[Value.slice none 0 0,.slice none 0 0,.slice none 0 0,.slice none 0 0]:=by rw [← hvW_48];exact Blk.mk_ _ _ _ _ hgpB
   have HNpB:Hid (W.heap.size ≤ pB ∧ W.heap.size ≤ pB):=Lib.hid ⟨by rw [← hgpB];exact HBR_3.out.size,by rw [← hgpB];exact HBW_3.out.size⟩
   rw [hvW_48,hgpB]
   have BB_49:=Lib.hid (hkW_48)
   have HBW_49:=Lib.hid (below_call HBW_3.out hbW_48 HBW_3.out.size)
   clear HBW_3
   have HBR_49:=Lib.hid (below_call HBR_3.out hbW_48 HBR_3.out.size)
   clear HBR_3
   have P1_49:=Lib.hid (P1_3.out.call hbW_48)
   clear P1_3
   have P2_49:=Lib.hid (P2_3.out.call hbW_48)
   clear P2_3
   clear hkW_48 hvW_48 hgpB hbW_48
   refine hK _ _ ⟨⟨_,⟨P1_49.out,P2_49.out⟩⟩,rfl⟩ ?_
   clear hK K
   try simp only [opsAt,List.getElem?_toArray,List.getElem?_cons_succ,List.getElem?_cons_zero]
   refine wpQuiet_nil ?_
   refine ⟨?_,?_⟩
   ·refine eff_as (C':=(fun w' => ∃ s:In (fun W' => Blk W' gX 27 sa.toArray ∧ Blk W' gY 27 sb.toArray),w' = s.W)) rfl ?_
    (refine eff_lit rfl rfl (fun K hK => ?_))
    go_big_op
    refine (HCB.out W_48).mono ?_
    rintro e W_50 ⟨rfl,hbW_50⟩
    have HBW_51:=Lib.hid (below_call HBW_49.out hbW_50 HBW_49.out.size)
    clear HBW_49
    have HBR_51:=Lib.hid (below_call HBR_49.out hbW_50 HBR_49.out.size)
    clear HBR_49
    have P1_51:=Lib.hid (P1_49.out.call hbW_50)
    clear P1_49
    have P2_51:=Lib.hid (P2_49.out.call hbW_50)
    clear P2_49
    have BB_51:=Lib.hid (BB_49.out.call hbW_50)
    clear BB_49
    clear hbW_50
    refine hK _ _ ⟨⟨_,⟨P1_51.out,P2_51.out⟩⟩,rfl⟩ ?_
    clear hK K
    try simp only [opsAt,List.getElem?_toArray,List.getElem?_cons_succ,List.getElem?_cons_zero]
    refine wpQuiet_nil ?_
    refine eff_as (C':=(fun w' => ∃ s:In (fun W' => Blk W' gX 27 sa.toArray ∧ Blk W' gY 27 sb.toArray),w' = s.W)) rfl ?_
    (refine eff_lit rfl rfl (fun K hK => ?_))
    go_big_op
    obtain ⟨W_52,hvW_52⟩:∃ v,(W_50.alloc (.cells #[Value.slice none 0 0,.slice none 0 0,.slice none 0 0,.slice none 0 0] 85)) = v:=⟨_,rfl⟩
    have hbW_52:Below W_50.heap.size W_50 W_52:=by rw [← hvW_52];exact (Below.refl _ _).alloc (Nat.le_refl _) _
    obtain ⟨pA,hgpA⟩:∃ v,W_50.heap.size = v:=⟨_,rfl⟩
    have hkW_52:Blk W_52 pA 85 #[Value.slice none 0 0,.slice none 0 0,.slice none 0 0,.slice none 0 0]:=by rw [← hvW_52];exact Blk.mk_ _ _ _ _ hgpA
    have HNpA:Hid (W.heap.size ≤ pA ∧ W.heap.size ≤ pA):=Lib.hid ⟨by rw [← hgpA];exact HBR_51.out.size,by rw [← hgpA];exact HBW_51.out.size⟩
    have HNE9:Hid (pB ≠ pA):=Lib.hid (by have h9:=BB_51.out.lt;omega)
    rw [hvW_52,hgpA]
    have BA_53:=Lib.hid (hkW_52)
    have HBW_53:=Lib.hid (below_call HBW_51.out hbW_52 HBW_51.out.size)
    clear HBW_51
    have HBR_53:=Lib.hid (below_call HBR_51.out hbW_52 HBR_51.out.size)
    clear HBR_51
    have P1_53:=Lib.hid (P1_51.out.call hbW_52)
    clear P1_51
    have P2_53:=Lib.hid (P2_51.out.call hbW_52)
    clear P2_51
    have BB_53:=Lib.hid (BB_51.out.call hbW_52)
    clear BB_51
    clear hkW_52 hvW_52 hgpA hbW_52
    refine hK _ _ ⟨⟨_,⟨P1_53.out,P2_53.out⟩⟩,rfl⟩ ?_
    clear hK K
    try simp only [opsAt,List.getElem?_toArray,List.getElem?_cons_succ,List.getElem?_cons_zero]
    refine wpQuiet_nil ?_
    refine eff_as (C':=(fun w' => ∃ s:In (fun W' => Blk W' gX 27 sa.toArray ∧ Blk W' gY 27 sb.toArray),w' = s.W)) rfl ?_
    (refine eff_lit rfl rfl (fun K hK => ?_))
    obtain ⟨W_54,hrun,hk9,hg9⟩:=BA_53.out.storeAll (ty:=85) za (by rw [HSL.out.1.1];rfl) (by rw [size_zon,HSL.out.1.1]) (HSL.out.2.1)
    refine wp_store_by hrun rfl rfl rfl ?_
    simp only [Act.put,List.setIfInBounds_toArray,List.set_cons_succ,List.set_cons_zero]
    clear hrun
    have hp9:=HNpA.out
    have hn9:=HNE9.out
    have HBW_55:=Lib.hid (HBW_53.out.grown hg9 HBW_53.out.size (fun q hq => by injection hq with hq;omega))
    clear HBW_53
    have HBR_55:=Lib.hid (HBR_53.out.grown hg9 HBR_53.out.size (fun q hq => by injection hq with hq;omega))
    clear HBR_53
    have P1_55:=Lib.hid (P1_53.out.grown hg9 (fun e => by injection e with e;omega))
    clear P1_53
    have P2_55:=Lib.hid (P2_53.out.grown hg9 (fun e => by injection e with e;omega))
    clear P2_53
    have BB_55:=Lib.hid (BB_53.out.grown hg9 (fun e => by injection e with e;omega))
    clear BB_53
    have BA_56:=Lib.hid hk9
    clear hk9 hg9 hp9 hn9 BA_53
    refine hK _ _ ⟨⟨_,⟨P1_55.out,P2_55.out⟩⟩,rfl⟩ ?_
    clear hK K
    try simp only [opsAt,List.getElem?_toArray,List.getElem?_cons_succ,List.getElem?_cons_zero]
    refine wpQuiet_nil ?_
    refine eff_as (C':=(fun w' => ∃ s:In (fun W' => Blk W' gX 27 sa.toArray ∧ Blk W' gY 27 sb.toArray),w' = s.W)) rfl ?_
    (refine eff_lit rfl rfl (fun K hK => ?_))
    obtain ⟨W_57,hrun,hk9,hg9⟩:=BB_55.out.storeAll (ty:=85) zb (by rw [HSL.out.1.2];rfl) (by rw [size_zon,HSL.out.1.2]) (HSL.out.2.2)
    refine wp_store_by hrun rfl rfl rfl ?_
    simp only [Act.put,List.setIfInBounds_toArray,List.set_cons_succ,List.set_cons_zero]
    clear hrun
    have hp9:=HNpB.out
    have hn9:=HNE9.out
    have HBW_58:=Lib.hid (HBW_55.out.grown hg9 HBW_55.out.size (fun q hq => by injection hq with hq;omega))
    clear HBW_55
    have HBR_58:=Lib.hid (HBR_55.out.grown hg9 HBR_55.out.size (fun q hq => by injection hq with hq;omega))
    clear HBR_55
    have P1_58:=Lib.hid (P1_55.out.grown hg9 (fun e => by injection e with e;omega))
    clear P1_55
    have P2_58:=Lib.hid (P2_55.out.grown hg9 (fun e => by injection e with e;omega))
    clear P2_55
    have BA_58:=Lib.hid (BA_56.out.grown hg9 (fun e => by injection e with e;omega))
    clear BA_56
    have BB_59:=Lib.hid hk9
    clear hk9 hg9 hp9 hn9 BB_55
    refine hK _ _ ⟨⟨_,⟨P1_58.out,P2_58.out⟩⟩,rfl⟩ ?_
    clear hK K
    try simp only [opsAt,List.getElem?_toArray,List.getElem?_cons_succ,List.getElem?_cons_zero]
    refine wpQuiet_nil ?_
    refine effs_done ?_
    exact HKK.out _ _ _ _ pA pB _ ⟨BA_58.out,BB_59.out,HBR_58.out⟩
   ·refine eff_as (C':=(fun w' => ∃ s:In (fun W' => Blk W' gX 27 sa.toArray ∧ Blk W' gY 27 sb.toArray),w' = s.W)) rfl ?_
    (refine eff_lit rfl rfl (fun K hK => ?_))
    go_big_op
    obtain ⟨W_60,hvW_60⟩:∃ v,(W_48.alloc (.cells #[Value.slice none 0 0,.slice none 0 0,.slice none 0 0,.slice none 0 0] 85)) = v:=⟨_,rfl⟩
    have hbW_60:Below W_48.heap.size W_48 W_60:=by rw [← hvW_60];exact (Below.refl _ _).alloc (Nat.le_refl _) _
    obtain ⟨pA,hgpA⟩:∃ v,W_48.heap.size = v:=⟨_,rfl⟩
    have hkW_60:Blk W_60 pA 85 #[Value.slice none 0 0,.slice none 0 0,.slice none 0 0,.slice none 0 0]:=by rw [← hvW_60];exact Blk.mk_ _ _ _ _ hgpA
    have HNpA:Hid (W.heap.size ≤ pA ∧ W.heap.size ≤ pA):=Lib.hid ⟨by rw [← hgpA];exact HBR_49.out.size,by rw [← hgpA];exact HBW_49.out.size⟩
    have HNE9:Hid (pB ≠ pA):=Lib.hid (by have h9:=BB_49.out.lt;omega)
    rw [hvW_60,hgpA]
    have BA_61:=Lib.hid (hkW_60)
    have HBW_61:=Lib.hid (below_call HBW_49.out hbW_60 HBW_49.out.size)
    clear HBW_49
    have HBR_61:=Lib.hid (below_call HBR_49.out hbW_60 HBR_49.out.size)
    clear HBR_49
    have P1_61:=Lib.hid (P1_49.out.call hbW_60)
    clear P1_49
    have P2_61:=Lib.hid (P2_49.out.call hbW_60)
    clear P2_49
    have BB_61:=Lib.hid (BB_49.out.call hbW_60)
    clear BB_49
    clear hkW_60 hvW_60 hgpA hbW_60
    refine hK _ _ ⟨⟨_,⟨P1_61.out,P2_61.out⟩⟩,rfl⟩ ?_
    clear hK K
    try simp only [opsAt,List.getElem?_toArray,List.getElem?_cons_succ,List.getElem?_cons_zero]
    refine wpQuiet_nil ?_
    refine eff_as (C':=(fun w' => ∃ s:In (fun W' => Blk W' gX 27 sa.toArray ∧ Blk W' gY 27 sb.toArray),w' = s.W)) rfl ?_
    (refine eff_lit rfl rfl (fun K hK => ?_))
    go_big_op
    refine (HCB.out W_60).mono ?_
    rintro e W_62 ⟨rfl,hbW_62⟩
    have HBW_63:=Lib.hid (below_call HBW_61.out hbW_62 HBW_61.out.size)
    clear HBW_61
    have HBR_63:=Lib.hid (below_call HBR_61.out hbW_62 HBR_61.out.size)
    clear HBR_61
    have P1_63:=Lib.hid (P1_61.out.call hbW_62)
    clear P1_61
    have P2_63:=Lib.hid (P2_61.out.call hbW_62)
    clear P2_61
    have BB_63:=Lib.hid (BB_61.out.call hbW_62)
    clear BB_61
    have BA_63:=Lib.hid (BA_61.out.call hbW_62)
    clear BA_61
    clear hbW_62
    refine hK _ _ ⟨⟨_,⟨P1_63.out,P2_63.out⟩⟩,rfl⟩ ?_
    clear hK K
    try simp only [opsAt,List.getElem?_toArray,List.getElem?_cons_succ,List.getElem?_cons_zero]
    refine wpQuiet_nil ?_
    refine eff_as (C':=(fun w' => ∃ s:In (fun W' => Blk W' gX 27 sa.toArray ∧ Blk W' gY 27 sb.toArray),w' = s.W)) rfl ?_
    (refine eff_lit rfl rfl (fun K hK => ?_))
    obtain ⟨W_64,hrun,hk9,hg9⟩:=BA_63.out.storeAll (ty:=85) za (by rw [HSL.out.1.1];rfl) (by rw [size_zon,HSL.out.1.1]) (HSL.out.2.1)
    refine wp_store_by hrun rfl rfl rfl ?_
    simp only [Act.put,List.setIfInBounds_toArray,List.set_cons_succ,List.set_cons_zero]
    clear hrun
    have hp9:=HNpA.out
    have hn9:=HNE9.out
    have HBW_65:=Lib.hid (HBW_63.out.grown hg9 HBW_63.out.size (fun q hq => by injection hq with hq;omega))
    clear HBW_63
    have HBR_65:=Lib.hid (HBR_63.out.grown hg9 HBR_63.out.size (fun q hq => by injection hq with hq;omega))
    clear HBR_63
    have P1_65:=Lib.hid (P1_63.out.grown hg9 (fun e => by injection e with e;omega))
    clear P1_63
    have P2_65:=Lib.hid (P2_63.out.grown hg9 (fun e => by injection e with e;omega))
    clear P2_63
    have BB_65:=Lib.hid (BB_63.out.grown hg9 (fun e => by injection e with e;omega))
    clear BB_63
    have BA_66:=Lib.hid hk9
    clear hk9 hg9 hp9 hn9 BA_63
    refine hK _ _ ⟨⟨_,⟨P1_65.out,P2_65.out⟩⟩,rfl⟩ ?_
    clear hK K
    try simp only [opsAt,List.getElem?_toArray,List.getElem?_cons_succ,List.getElem?_cons_zero]
    refine wpQuiet_nil ?_
    refine eff_as (C':=(fun w' => ∃ s:In (fun W' => Blk W' gX 27 sa.toArray ∧ Blk W' gY 27 sb.toArray),w' = s.W)) rfl ?_
    (refine eff_lit rfl rfl (fun K hK => ?_))
    obtain ⟨W_67,hrun,hk9,hg9⟩:=BB_65.out.storeAll (ty:=85) zb (by rw [HSL.out.1.2];rfl) (by rw [size_zon,HSL.out.1.2]) (HSL.out.2.2)
    refine wp_store_by hrun rfl rfl rfl ?_
    simp only [Act.put,List.setIfInBounds_toArray,List.set_cons_succ,List.set_cons_zero]
    clear hrun
    have hp9:=HNpB.out
    have hn9:=HNE9.out
    have HBW_68:=Lib.hid (HBW_65.out.grown hg9 HBW_65.out.size (fun q hq => by injection hq with hq;omega))
    clear HBW_65
    have HBR_68:=Lib.hid (HBR_65.out.grown hg9 HBR_65.out.size (fun q hq => by injection hq with hq;omega))
    clear HBR_65
    have P1_68:=Lib.hid (P1_65.out.grown hg9 (fun e => by injection e with e;omega))
    clear P1_65
    have P2_68:=Lib.hid (P2_65.out.grown hg9 (fun e => by injection e with e;omega))
    clear P2_65
    have BA_68:=Lib.hid (BA_66.out.grown hg9 (fun e => by injection e with e;omega))
    clear BA_66
    have BB_69:=Lib.hid hk9
    clear hk9 hg9 hp9 hn9 BB_65
    refine hK _ _ ⟨⟨_,⟨P1_68.out,P2_68.out⟩⟩,rfl⟩ ?_
    clear hK K
    try simp only [opsAt,List.getElem?_toArray,List.getElem?_cons_succ,List.getElem?_cons_zero]
    refine wpQuiet_nil ?_
    refine effs_done ?_
    exact HKK.out _ _ _ _ pA pB _ ⟨BA_68.out,BB_69.out,HBR_68.out⟩
 ·refine eff_as (C':=(fun w' => ∃ s:In (fun W' => Blk W' gX 27 sa.toArray ∧ Blk W' gY 27 sb.toArray),w' = s.W)) rfl ?_
  (refine eff_lit rfl rfl (fun K hK => ?_))
  go_big_op
  obtain ⟨W_70,hvW_70⟩:∃ v,(W_d.alloc (.cells #[Value.slice none 0 0,.slice none 0 0,.slice none 0 0,.slice none 0 0] 85)) = v:=⟨_,rfl⟩
  have hbW_70:Below W_d.heap.size W_d W_70:=by rw [← hvW_70];exact (Below.refl _ _).alloc (Nat.le_refl _) _
  obtain ⟨pA,hgpA⟩:∃ v,W_d.heap.size = v:=⟨_,rfl⟩
  have hkW_70:Blk W_70 pA 85 #[Value.slice none 0 0,.slice none 0 0,.slice none 0 0,.slice none 0 0]:=by rw [← hvW_70];exact Blk.mk_ _ _ _ _ hgpA
  have HNpA:Hid (W.heap.size ≤ pA ∧ W.heap.size ≤ pA):=Lib.hid ⟨by rw [← hgpA];exact HBR_1.out.size,by rw [← hgpA];exact HBW_1.out.size⟩
  rw [hvW_70,hgpA]
  have BA_71:=Lib.hid (hkW_70)
  have HBW_71:=Lib.hid (below_call HBW_1.out hbW_70 HBW_1.out.size)
  clear HBW_1
  have HBR_71:=Lib.hid (below_call HBR_1.out hbW_70 HBR_1.out.size)
  clear HBR_1
  have P1_71:=Lib.hid (P1_1.out.call hbW_70)
  clear P1_1
  have P2_71:=Lib.hid (P2_1.out.call hbW_70)
  clear P2_1
  clear hkW_70 hvW_70 hgpA hbW_70
  refine hK _ _ ⟨⟨_,⟨P1_71.out,P2_71.out⟩⟩,rfl⟩ ?_
  clear hK K
  try simp only [opsAt,List.getElem?_toArray,List.getElem?_cons_succ,List.getElem?_cons_zero]
  refine wpQuiet_nil ?_
  refine ⟨?_,?_⟩
  ·refine eff_as (C':=(fun w' => ∃ s:In (fun W' => Blk W' gX 27 sa.toArray ∧ Blk W' gY 27 sb.toArray),w' = s.W)) rfl ?_
   (refine eff_lit rfl rfl (fun K hK => ?_))
   go_big_op
   refine (HCA.out W_70).mono ?_
   rintro e W_72 ⟨rfl,hbW_72⟩
   have HBW_73:=Lib.hid (below_call HBW_71.out hbW_72 HBW_71.out.size)
   clear HBW_71
   have HBR_73:=Lib.hid (below_call HBR_71.out hbW_72 HBR_71.out.size)
   clear HBR_71
   have P1_73:=Lib.hid (P1_71.out.call hbW_72)
   clear P1_71
   have P2_73:=Lib.hid (P2_71.out.call hbW_72)
   clear P2_71
   have BA_73:=Lib.hid (BA_71.out.call hbW_72)
   clear BA_71
   clear hbW_72
   refine hK _ _ ⟨⟨_,⟨P1_73.out,P2_73.out⟩⟩,rfl⟩ ?_
   clear hK K
   try simp only [opsAt,List.getElem?_toArray,List.getElem?_cons_succ,List.getElem?_cons_zero]
   refine wpQuiet_nil ?_
   refine ⟨?_,?_⟩
   ·refine eff_as (C':=(fun w' => ∃ s:In (fun W' => Blk W' gX 27 sa.toArray ∧ Blk W' gY 27 sb.toArray),w' = s.W)) rfl ?_
    (refine eff_lit rfl rfl (fun K hK => ?_))
    go_big_op
    refine (HCB.out W_72).mono ?_
    rintro e W_74 ⟨rfl,hbW_74⟩
    have HBW_75:=Lib.hid (below_call HBW_73.out hbW_74 HBW_73.out.size)
    clear HBW_73
    have HBR_75:=Lib.hid (below_call HBR_73.out hbW_74 HBR_73.out.size)
    clear HBR_73
    have P1_75:=Lib.hid (P1_73.out.call hbW_74)
    clear P1_73
    have P2_75:=Lib.hid (P2_73.out.call hbW_74)
    clear P2_73
    have BA_75:=Lib.hid (BA_73.out.call hbW_74)
    clear BA_73
    clear hbW_74
    refine hK _ _ ⟨⟨_,⟨P1_75.out,P2_75.out⟩⟩,rfl⟩ ?_
    clear hK K
    try simp only [opsAt,List.getElem?_toArray,List.getElem?_cons_succ,List.getElem?_cons_zero]
    refine wpQuiet_nil ?_
    refine eff_as (C':=(fun w' => ∃ s:In (fun W' => Blk W' gX 27 sa.toArray ∧ Blk W' gY 27 sb.toArray),w' = s.W)) rfl ?_
    (refine eff_lit rfl rfl (fun K hK => ?_))
    go_big_op
    obtain ⟨W_76,hvW_76⟩:∃ v,(W_74.alloc (.cells #[Value.slice none 0 0,.slice none 0 0,.slice none 0 0,.slice none 0 0] 85)) = v:=⟨_,rfl⟩
    have hbW_76:Below W_74.heap.size W_74 W_76:=by rw [← hvW_76];exact (Below.refl _ _).alloc (Nat.le_refl _) _
    obtain ⟨pB,hgpB⟩:∃ v,W_74.heap.size = v:=⟨_,rfl⟩
    have hkW_76:Blk W_76 pB 85 #[Value.slice none 0 0,.slice none 0 0,.slice none 0 0,.slice none 0 0]:=by rw [← hvW_76];exact Blk.mk_ _ _ _ _ hgpB
    have HNpB:Hid (W.heap.size ≤ pB ∧ W.heap.size ≤ pB):=Lib.hid ⟨by rw [← hgpB];exact HBR_75.out.size,by rw [← hgpB];exact HBW_75.out.size⟩
    have HNE9:Hid (pA ≠ pB):=Lib.hid (by have h9:=BA_75.out.lt;omega)
    rw [hvW_76,hgpB]
    have BB_77:=Lib.hid (hkW_76)
    have HBW_77:=Lib.hid (below_call HBW_75.out hbW_76 HBW_75.out.size)
    clear HBW_75
    have HBR_77:=Lib.hid (below_call HBR_75.out hbW_76 HBR_75.out.size)
    clear HBR_75
    have P1_77:=Lib.hid (P1_75.out.call hbW_76)
    clear P1_75
    have P2_77:=Lib.hid (P2_75.out.call hbW_76)
    clear P2_75
    have BA_77:=Lib.hid (BA_75.out.call hbW_76)
    clear BA_75
    clear hkW_76 hvW_76 hgpB hbW_76
    refine hK _ _ ⟨⟨_,⟨P1_77.out,P2_77.out⟩⟩,rfl⟩ ?_
    clear hK K
    try simp only [opsAt,List.getElem?_toArray,List.getElem?_cons_succ,List.getElem?_cons_zero]
    refine wpQuiet_nil ?_
    refine eff_as (C':=(fun w' => ∃ s:In (fun W' => Blk W' gX 27 sa.toArray ∧ Blk W' gY 27 sb.toArray),w' = s.W)) rfl ?_
    (refine eff_lit rfl rfl (fun K hK => ?_))
    obtain ⟨W_78,hrun,hk9,hg9⟩:=BA_77.out.storeAll (ty:=85) za (by rw [HSL.out.1.1];rfl) (by rw [size_zon,HSL.out.1.1]) (HSL.out.2.1)
    refine wp_store_by hrun rfl rfl rfl ?_
    simp only [Act.put,List.setIfInBounds_toArray,List.set_cons_succ,List.set_cons_zero]
    clear hrun
    have hp9:=HNpA.out
    have hn9:=HNE9.out
    have HBW_79:=Lib.hid (HBW_77.out.grown hg9 HBW_77.out.size (fun q hq => by injection hq with hq;omega))
    clear HBW_77
    have HBR_79:=Lib.hid (HBR_77.out.grown hg9 HBR_77.out.size (fun q hq => by injection hq with hq;omega))
    clear HBR_77
    have P1_79:=Lib.hid (P1_77.out.grown hg9 (fun e => by injection e with e;omega))
    clear P1_77
    have P2_79:=Lib.hid (P2_77.out.grown hg9 (fun e => by injection e with e;omega))
    clear P2_77
    have BB_79:=Lib.hid (BB_77.out.grown hg9 (fun e => by injection e with e;omega))
    clear BB_77
    have BA_80:=Lib.hid hk9
    clear hk9 hg9 hp9 hn9 BA_77
    refine hK _ _ ⟨⟨_,⟨P1_79.out,P2_79.out⟩⟩,rfl⟩ ?_
    clear hK K
    try simp only [opsAt,List.getElem?_toArray,List.getElem?_cons_succ,List.getElem?_cons_zero]
    refine wpQuiet_nil ?_
    refine eff_as (C':=(fun w' => ∃ s:In (fun W' => Blk W' gX 27 sa.toArray ∧ Blk W' gY 27 sb.toArray),w' = s.W)) rfl ?_
    (refine eff_lit rfl rfl (fun K hK => ?_))
    obtain ⟨W_81,hrun,hk9,hg9⟩:=BB_79.out.storeAll (ty:=85) zb (by rw [HSL.out.1.2];rfl) (by rw [size_zon,HSL.out.1.2]) (HSL.out.2.2)
    refine wp_store_by hrun rfl rfl rfl ?_
    simp only [Act.put,List.setIfInBounds_toArray,List.set_cons_succ,List.set_cons_zero]
    clear hrun
    have hp9:=HNpB.out
    have hn9:=HNE9.out
    have HBW_82:=Lib.hid (HBW_79.out.grown hg9 HBW_79.out.size (fun q hq => by injection hq with hq;omega))
    clear HBW_79
    have HBR_82:=Lib.hid (HBR_79.out.grown hg9 HBR_79.out.size (fun q hq => by injection hq with hq;omega))
    clear HBR_79
    have P1_82:=Lib.hid (P1_79.out.grown hg9 (fun e => by injection e with e;omega))
    clear P1_79
    have P2_82:=Lib.hid (P2_79.out.grown hg9 (fun e => by injection e with e;omega))
    clear P2_79
    have BA_82:=Lib.hid (BA_80.out.grown hg9 (fun e => by injection e with e;omega))
    clear BA_80
    have BB_83:=Lib.hid hk9
    clear hk9 hg9 hp9 hn9 BB_79
    refine hK _ _ ⟨⟨_,⟨P1_82.out,P2_82.out⟩⟩,rfl⟩ ?_
    clear hK K
    try simp only [opsAt,List.getElem?_toArray,List.getElem?_cons_succ,List.getElem?_cons_zero]
    refine wpQuiet_nil ?_
    refine effs_done ?_
    exact HKK.out _ _ _ _ pA pB _ ⟨BA_82.out,BB_83.out,HBR_82.out⟩
   ·refine eff_as (C':=(fun w' => ∃ s:In (fun W' => Blk W' gX 27 sa.toArray ∧ Blk W' gY 27 sb.toArray),w' = s.W)) rfl ?_
    (refine eff_lit rfl rfl (fun K hK => ?_))
    go_big_op
    obtain ⟨W_84,hvW_84⟩:∃ v,(W_72.alloc (.cells #[Value.slice none 0 0,.slice none 0 0,.slice none 0 0,.slice none 0 0] 85)) = v:=⟨_,rfl⟩
    have hbW_84:Below W_72.heap.size W_72 W_84:=by rw [← hvW_84];exact (Below.refl _ _).alloc (Nat.le_refl _) _
    obtain ⟨pB,hgpB⟩:∃ v,W_72.heap.size = v:=⟨_,rfl⟩
    have hkW_84:Blk W_84 pB 85 #[Value.slice none 0 0,.slice none 0 0,.slice none 0 0,.slice none 0 0]:=by rw [← hvW_84];exact Blk.mk_ _ _ _ _ hgpB
    have HNpB:Hid (W.heap.size ≤ pB ∧ W.heap.size ≤ pB):=Lib.hid ⟨by rw [← hgpB];exact HBR_73.out.size,by rw [← hgpB];exact HBW_73.out.size⟩
    have HNE9:Hid (pA ≠ pB):=Lib.hid (by have h9:=BA_73.out.lt;omega)
    rw [hvW_84,hgpB]
    have BB_85:=Lib.hid (hkW_84)
    have HBW_85:=Lib.hid (below_call HBW_73.out hbW_84 HBW_73.out.size)
    clear HBW_73
    have HBR_85:=Lib.hid (below_call HBR_73.out hbW_84 HBR_73.out.size)
    clear HBR_73
    have P1_85:=Lib.hid (P1_73.out.call hbW_84)
    clear P1_73
    have P2_85:=Lib.hid (P2_73.out.call hbW_84)
    clear P2_73
    have BA_85:=Lib.hid (BA_73.out.call hbW_84)
    clear BA_73
    clear hkW_84 hvW_84 hgpB hbW_84
    refine hK _ _ ⟨⟨_,⟨P1_85.out,P2_85.out⟩⟩,rfl⟩ ?_
    clear hK K
    try simp only [opsAt,List.getElem?_toArray,List.getElem?_cons_succ,List.getElem?_cons_zero]
    refine wpQuiet_nil ?_
    refine eff_as (C':=(fun w' => ∃ s:In (fun W' => Blk W' gX 27 sa.toArray ∧ Blk W' gY 27 sb.toArray),w' = s.W)) rfl ?_
    (refine eff_lit rfl rfl (fun K hK => ?_))
    go_big_op
    refine (HCB.out W_84).mono ?_
    rintro e W_86 ⟨rfl,hbW_86⟩
    have HBW_87:=Lib.hid (below_call HBW_85.out hbW_86 HBW_85.out.size)
    clear HBW_85
    have HBR_87:=Lib.hid (below_call HBR_85.out hbW_86 HBR_85.out.size)
    clear HBR_85
    have P1_87:=Lib.hid (P1_85.out.call hbW_86)
    clear P1_85
    have P2_87:=Lib.hid (P2_85.out.call hbW_86)
    clear P2_85
    have BA_87:=Lib.hid (BA_85.out.call hbW_86)
    clear BA_85
    have BB_87:=Lib.hid (BB_85.out.call hbW_86)
    clear BB_85
    clear hbW_86
    refine hK _ _ ⟨⟨_,⟨P1_87.out,P2_87.out⟩⟩,rfl⟩ ?_
    clear hK K
    try simp only [opsAt,List.getElem?_toArray,List.getElem?_cons_succ,List.getElem?_cons_zero]
    refine wpQuiet_nil ?_
    refine eff_as (C':=(fun w' => ∃ s:In (fun W' => Blk W' gX 27 sa.toArray ∧ Blk W' gY 27 sb.toArray),w' = s.W)) rfl ?_
    (refine eff_lit rfl rfl (fun K hK => ?_))
    obtain ⟨W_88,hrun,hk9,hg9⟩:=BA_87.out.storeAll (ty:=85) za (by rw [HSL.out.1.1];rfl) (by rw [size_zon,HSL.out.1.1]) (HSL.out.2.1)
    refine wp_store_by hrun rfl rfl rfl ?_
    simp only [Act.put,List.setIfInBounds_toArray,List.set_cons_succ,List.set_cons_zero]
    clear hrun
    have hp9:=HNpA.out
    have hn9:=HNE9.out
    have HBW_89:=Lib.hid (HBW_87.out.grown hg9 HBW_87.out.size (fun q hq => by injection hq with hq;omega))
    clear HBW_87
    have HBR_89:=Lib.hid (HBR_87.out.grown hg9 HBR_87.out.size (fun q hq => by injection hq with hq;omega))
    clear HBR_87
    have P1_89:=Lib.hid (P1_87.out.grown hg9 (fun e => by injection e with e;omega))
    clear P1_87
    have P2_89:=Lib.hid (P2_87.out.grown hg9 (fun e => by injection e with e;omega))
    clear P2_87
    have BB_89:=Lib.hid (BB_87.out.grown hg9 (fun e => by injection e with e;omega))
    clear BB_87
    have BA_90:=Lib.hid hk9
    clear hk9 hg9 hp9 hn9 BA_87
    refine hK _ _ ⟨⟨_,⟨P1_89.out,P2_89.out⟩⟩,rfl⟩ ?_
    clear hK K
    try simp only [opsAt,List.getElem?_toArray,List.getElem?_cons_succ,List.getElem?_cons_zero]
    refine wpQuiet_nil ?_
    refine eff_as (C':=(fun w' => ∃ s:In (fun W' => Blk W' gX 27 sa.toArray ∧ Blk W' gY 27 sb.toArray),w' = s.W)) rfl ?_
    (refine eff_lit rfl rfl (fun K hK => ?_))
    obtain ⟨W_91,hrun,hk9,hg9⟩:=BB_89.out.storeAll (ty:=85) zb (by rw [HSL.out.1.2];rfl) (by rw [size_zon,HSL.out.1.2]) (HSL.out.2.2)
    refine wp_store_by hrun rfl rfl rfl ?_
    simp only [Act.put,List.setIfInBounds_toArray,List.set_cons_succ,List.set_cons_zero]
    clear hrun
    have hp9:=HNpB.out
    have hn9:=HNE9.out
    have HBW_92:=Lib.hid (HBW_89.out.grown hg9 HBW_89.out.size (fun q hq => by injection hq with hq;omega))
    clear HBW_89
    have HBR_92:=Lib.hid (HBR_89.out.grown hg9 HBR_89.out.size (fun q hq => by injection hq with hq;omega))
    clear HBR_89
    have P1_92:=Lib.hid (P1_89.out.grown hg9 (fun e => by injection e with e;omega))
    clear P1_89
    have P2_92:=Lib.hid (P2_89.out.grown hg9 (fun e => by injection e with e;omega))
    clear P2_89
    have BA_92:=Lib.hid (BA_90.out.grown hg9 (fun e => by injection e with e;omega))
    clear BA_90
    have BB_93:=Lib.hid hk9
    clear hk9 hg9 hp9 hn9 BB_89
    refine hK _ _ ⟨⟨_,⟨P1_92.out,P2_92.out⟩⟩,rfl⟩ ?_
    clear hK K
    try simp only [opsAt,List.getElem?_toArray,List.getElem?_cons_succ,List.getElem?_cons_zero]
    refine wpQuiet_nil ?_
    refine effs_done ?_
    exact HKK.out _ _ _ _ pA pB _ ⟨BA_92.out,BB_93.out,HBR_92.out⟩
  ·refine eff_as (C':=(fun w' => ∃ s:In (fun W' => Blk W' gX 27 sa.toArray ∧ Blk W' gY 27 sb.toArray),w' = s.W)) rfl ?_
   (refine eff_lit rfl rfl (fun K hK => ?_))
   go_big_op
   obtain ⟨W_94,hvW_94⟩:∃ v,(W_70.alloc (.cells #[Value.slice none 0 0,.slice none 0 0,.slice none 0 0,.slice none 0 0] 85)) = v:=⟨_,rfl⟩
   have hbW_94:Below W_70.heap.size W_70 W_94:=by rw [← hvW_94];exact (Below.refl _ _).alloc (Nat.le_refl _) _
   obtain ⟨pB,hgpB⟩:∃ v,W_70.heap.size = v:=⟨_,rfl⟩
   have hkW_94:Blk W_94 pB 85 #[Value.slice none 0 0,.slice none 0 0,.slice none 0 0,.slice none 0 0]:=by rw [← hvW_94];exact Blk.mk_ _ _ _ _ hgpB
   have HNpB:Hid (W.heap.size ≤ pB ∧ W.heap.size ≤ pB):=Lib.hid ⟨by rw [← hgpB];exact HBR_71.out.size,by rw [← hgpB];exact HBW_71.out.size⟩
   have HNE9:Hid (pA ≠ pB):=Lib.hid (by have h9:=BA_71.out.lt;omega)
   rw [hvW_94,hgpB]
   have BB_95:=Lib.hid (hkW_94)
   have HBW_95:=Lib.hid (below_call HBW_71.out hbW_94 HBW_71.out.size)
   clear HBW_71
   have HBR_95:=Lib.hid (below_call HBR_71.out hbW_94 HBR_71.out.size)
   clear HBR_71
   have P1_95:=Lib.hid (P1_71.out.call hbW_94)
   clear P1_71
   have P2_95:=Lib.hid (P2_71.out.call hbW_94)
   clear P2_71
   have BA_95:=Lib.hid (BA_71.out.call hbW_94)
   clear BA_71
   clear hkW_94 hvW_94 hgpB hbW_94
   refine hK _ _ ⟨⟨_,⟨P1_95.out,P2_95.out⟩⟩,rfl⟩ ?_
   clear hK K
   try simp only [opsAt,List.getElem?_toArray,List.getElem?_cons_succ,List.getElem?_cons_zero]
   refine wpQuiet_nil ?_
   refine eff_as (C':=(fun w' => ∃ s:In (fun W' => Blk W' gX 27 sa.toArray ∧ Blk W' gY 27 sb.toArray),w' = s.W)) rfl ?_
   (refine eff_lit rfl rfl (fun K hK => ?_))
   go_big_op
   refine (HCA.out W_94).mono ?_
   rintro e W_96 ⟨rfl,hbW_96⟩
   have HBW_97:=Lib.hid (below_call HBW_95.out hbW_96 HBW_95.out.size)
   clear HBW_95
   have HBR_97:=Lib.hid (below_call HBR_95.out hbW_96 HBR_95.out.size)
   clear HBR_95
   have P1_97:=Lib.hid (P1_95.out.call hbW_96)
   clear P1_95
   have P2_97:=Lib.hid (P2_95.out.call hbW_96)
   clear P2_95
   have BA_97:=Lib.hid (BA_95.out.call hbW_96)
   clear BA_95
   have BB_97:=Lib.hid (BB_95.out.call hbW_96)
   clear BB_95
   clear hbW_96
   refine hK _ _ ⟨⟨_,⟨P1_97.out,P2_97.out⟩⟩,rfl⟩ ?_
   clear hK K
   try simp only [opsAt,List.getElem?_toArray,List.getElem?_cons_succ,List.getElem?_cons_zero]
   refine wpQuiet_nil ?_
   refine eff_as (C':=(fun w' => ∃ s:In (fun W' => Blk W' gX 27 sa.toArray ∧ Blk W' gY 27 sb.toArray),w' = s.W)) rfl ?_
   (refine eff_lit rfl rfl (fun K hK => ?_))
   go_big_op
   refine (HCB.out W_96).mono ?_
   rintro e W_98 ⟨rfl,hbW_98⟩
   have HBW_99:=Lib.hid (below_call HBW_97.out hbW_98 HBW_97.out.size)
   clear HBW_97
   have HBR_99:=Lib.hid (below_call HBR_97.out hbW_98 HBR_97.out.size)
   clear HBR_97
   have P1_99:=Lib.hid (P1_97.out.call hbW_98)
   clear P1_97
   have P2_99:=Lib.hid (P2_97.out.call hbW_98)
   clear P2_97
   have BA_99:=Lib.hid (BA_97.out.call hbW_98)
   clear BA_97
   have BB_99:=Lib.hid (BB_97.out.call hbW_98)
   clear BB_97
   clear hbW_98
   refine hK _ _ ⟨⟨_,⟨P1_99.out,P2_99.out⟩⟩,rfl⟩ ?_
   clear hK K
   try simp only [opsAt,List.getElem?_toArray,List.getElem?_cons_succ,List.getElem?_cons_zero]
   refine wpQuiet_nil ?_
   refine eff_as (C':=(fun w' => ∃ s:In (fun W' => Blk W' gX 27 sa.toArray ∧ Blk W' gY 27 sb.toArray),w' = s.W)) rfl ?_
   (refine eff_lit rfl rfl (fun K hK => ?_))
   obtain ⟨W_100,hrun,hk9,hg9⟩:=BA_99.out.storeAll (ty:=85) za (by rw [HSL.out.1.1];rfl) (by rw [size_zon,HSL.out.1.1]) (HSL.out.2.1)
   refine wp_store_by hrun rfl rfl rfl ?_
   simp only [Act.put,List.setIfInBounds_toArray,List.set_cons_succ,List.set_cons_zero]
   clear hrun
   have hp9:=HNpA.out
   have hn9:=HNE9.out
   have HBW_101:=Lib.hid (HBW_99.out.grown hg9 HBW_99.out.size (fun q hq => by injection hq with hq;omega))
   clear HBW_99
   have HBR_101:=Lib.hid (HBR_99.out.grown hg9 HBR_99.out.size (fun q hq => by injection hq with hq;omega))
   clear HBR_99
   have P1_101:=Lib.hid (P1_99.out.grown hg9 (fun e => by injection e with e;omega))
   clear P1_99
   have P2_101:=Lib.hid (P2_99.out.grown hg9 (fun e => by injection e with e;omega))
   clear P2_99
   have BB_101:=Lib.hid (BB_99.out.grown hg9 (fun e => by injection e with e;omega))
   clear BB_99
   have BA_102:=Lib.hid hk9
   clear hk9 hg9 hp9 hn9 BA_99
   refine hK _ _ ⟨⟨_,⟨P1_101.out,P2_101.out⟩⟩,rfl⟩ ?_
   clear hK K
   try simp only [opsAt,List.getElem?_toArray,List.getElem?_cons_succ,List.getElem?_cons_zero]
   refine wpQuiet_nil ?_
   refine eff_as (C':=(fun w' => ∃ s:In (fun W' => Blk W' gX 27 sa.toArray ∧ Blk W' gY 27 sb.toArray),w' = s.W)) rfl ?_
   (refine eff_lit rfl rfl (fun K hK => ?_))
   obtain ⟨W_103,hrun,hk9,hg9⟩:=BB_101.out.storeAll (ty:=85) zb (by rw [HSL.out.1.2];rfl) (by rw [size_zon,HSL.out.1.2]) (HSL.out.2.2)
   refine wp_store_by hrun rfl rfl rfl ?_
   simp only [Act.put,List.setIfInBounds_toArray,List.set_cons_succ,List.set_cons_zero]
   clear hrun
   have hp9:=HNpB.out
   have hn9:=HNE9.out
   have HBW_104:=Lib.hid (HBW_101.out.grown hg9 HBW_101.out.size (fun q hq => by injection hq with hq;omega))
   clear HBW_101
   have HBR_104:=Lib.hid (HBR_101.out.grown hg9 HBR_101.out.size (fun q hq => by injection hq with hq;omega))
   clear HBR_101
   have P1_104:=Lib.hid (P1_101.out.grown hg9 (fun e => by injection e with e;omega))
   clear P1_101
   have P2_104:=Lib.hid (P2_101.out.grown hg9 (fun e => by injection e with e;omega))
   clear P2_101
   have BA_104:=Lib.hid (BA_102.out.grown hg9 (fun e => by injection e with e;omega))
   clear BA_102
   have BB_105:=Lib.hid hk9
   clear hk9 hg9 hp9 hn9 BB_101
   refine hK _ _ ⟨⟨_,⟨P1_104.out,P2_104.out⟩⟩,rfl⟩ ?_
   clear hK K
   try simp only [opsAt,List.getElem?_toArray,List.getElem?_cons_succ,List.getElem?_cons_zero]
   refine wpQuiet_nil ?_
   refine effs_done ?_
   exact HKK.out _ _ _ _ pA pB _ ⟨BA_104.out,BB_105.out,HBR_104.out⟩
 ·refine eff_as (C':=(fun w' => ∃ s:In (fun W' => Blk W' gX 27 sa.toArray ∧ Blk W' gY 27 sb.toArray),w' = s.W)) rfl ?_
  (refine eff_lit rfl rfl (fun K hK => ?_))
  go_big_op
  obtain ⟨W_106,hvW_106⟩:∃ v,(W_d.alloc (.cells #[Value.slice none 0 0,.slice none 0 0,.slice none 0 0,.slice none 0 0] 85)) = v:=⟨_,rfl⟩
  have hbW_106:Below W_d.heap.size W_d W_106:=by rw [← hvW_106];exact (Below.refl _ _).alloc (Nat.le_refl _) _
  obtain ⟨pB,hgpB⟩:∃ v,W_d.heap.size = v:=⟨_,rfl⟩
  have hkW_106:Blk W_106 pB 85 #[Value.slice none 0 0,.slice none 0 0,.slice none 0 0,.slice none 0 0]:=by rw [← hvW_106];exact Blk.mk_ _ _ _ _ hgpB
  have HNpB:Hid (W.heap.size ≤ pB ∧ W.heap.size ≤ pB):=Lib.hid ⟨by rw [← hgpB];exact HBR_1.out.size,by rw [← hgpB];exact HBW_1.out.size⟩
  rw [hvW_106,hgpB]
  have BB_107:=Lib.hid (hkW_106)
  have HBW_107:=Lib.hid (below_call HBW_1.out hbW_106 HBW_1.out.size)
  clear HBW_1
  have HBR_107:=Lib.hid (below_call HBR_1.out hbW_106 HBR_1.out.size)
  clear HBR_1
  have P1_107:=Lib.hid (P1_1.out.call hbW_106)
  clear P1_1
  have P2_107:=Lib.hid (P2_1.out.call hbW_106)
  clear P2_1
  clear hkW_106 hvW_106 hgpB hbW_106
  refine hK _ _ ⟨⟨_,⟨P1_107.out,P2_107.out⟩⟩,rfl⟩ ?_
  clear hK K
  try simp only [opsAt,List.getElem?_toArray,List.getElem?_cons_succ,List.getElem?_cons_zero]
  refine wpQuiet_nil ?_
  refine ⟨?_,?_⟩
  ·refine eff_as (C':=(fun w' => ∃ s:In (fun W' => Blk W' gX 27 sa.toArray ∧ Blk W' gY 27 sb.toArray),w' = s.W)) rfl ?_
   (refine eff_lit rfl rfl (fun K hK => ?_))
   go_big_op
   refine (HCA.out W_106).mono ?_
   rintro e W_108 ⟨rfl,hbW_108⟩
   have HBW_109:=Lib.hid (below_call HBW_107.out hbW_108 HBW_107.out.size)
   clear HBW_107
   have HBR_109:=Lib.hid (below_call HBR_107.out hbW_108 HBR_107.out.size)
   clear HBR_107
   have P1_109:=Lib.hid (P1_107.out.call hbW_108)
   clear P1_107
   have P2_109:=Lib.hid (P2_107.out.call hbW_108)
   clear P2_107
   have BB_109:=Lib.hid (BB_107.out.call hbW_108)
   clear BB_107
   clear hbW_108
   refine hK _ _ ⟨⟨_,⟨P1_109.out,P2_109.out⟩⟩,rfl⟩ ?_
   clear hK K
   try simp only [opsAt,List.getElem?_toArray,List.getElem?_cons_succ,List.getElem?_cons_zero]
   refine wpQuiet_nil ?_
   refine ⟨?_,?_⟩
   ·refine eff_as (C':=(fun w' => ∃ s:In (fun W' => Blk W' gX 27 sa.toArray ∧ Blk W' gY 27 sb.toArray),w' = s.W)) rfl ?_
    (refine eff_lit rfl rfl (fun K hK => ?_))
    go_big_op
    refine (HCB.out W_108).mono ?_
    rintro e W_110 ⟨rfl,hbW_110⟩
    have HBW_111:=Lib.hid (below_call HBW_109.out hbW_110 HBW_109.out.size)
    clear HBW_109
    have HBR_111:=Lib.hid (below_call HBR_109.out hbW_110 HBR_109.out.size)
    clear HBR_109
    have P1_111:=Lib.hid (P1_109.out.call hbW_110)
    clear P1_109
    have P2_111:=Lib.hid (P2_109.out.call hbW_110)
    clear P2_109
    have BB_111:=Lib.hid (BB_109.out.call hbW_110)
    clear BB_109
    clear hbW_110
    refine hK _ _ ⟨⟨_,⟨P1_111.out,P2_111.out⟩⟩,rfl⟩ ?_
    clear hK K
    try simp only [opsAt,List.getElem?_toArray,List.getElem?_cons_succ,List.getElem?_cons_zero]
    refine wpQuiet_nil ?_
    refine eff_as (C':=(fun w' => ∃ s:In (fun W' => Blk W' gX 27 sa.toArray ∧ Blk W' gY 27 sb.toArray),w' = s.W)) rfl ?_
    (refine eff_lit rfl rfl (fun K hK => ?_))
    go_big_op
    obtain ⟨W_112,hvW_112⟩:∃ v,(W_110.alloc (.cells #[Value.slice none 0 0,.slice none 0 0,.slice none 0 0,.slice none 0 0] 85)) = v:=⟨_,rfl⟩
    have hbW_112:Below W_110.heap.size W_110 W_112:=by rw [← hvW_112];exact (Below.refl _ _).alloc (Nat.le_refl _) _
    obtain ⟨pA,hgpA⟩:∃ v,W_110.heap.size = v:=⟨_,rfl⟩
    have hkW_112:Blk W_112 pA 85 #[Value.slice none 0 0,.slice none 0 0,.slice none 0 0,.slice none 0 0]:=by rw [← hvW_112];exact Blk.mk_ _ _ _ _ hgpA
    have HNpA:Hid (W.heap.size ≤ pA ∧ W.heap.size ≤ pA):=Lib.hid ⟨by rw [← hgpA];exact HBR_111.out.size,by rw [← hgpA];exact HBW_111.out.size⟩
    have HNE9:Hid (pB ≠ pA):=Lib.hid (by have h9:=BB_111.out.lt;omega)
    rw [hvW_112,hgpA]
    have BA_113:=Lib.hid (hkW_112)
    have HBW_113:=Lib.hid (below_call HBW_111.out hbW_112 HBW_111.out.size)
    clear HBW_111
    have HBR_113:=Lib.hid (below_call HBR_111.out hbW_112 HBR_111.out.size)
    clear HBR_111
    have P1_113:=Lib.hid (P1_111.out.call hbW_112)
    clear P1_111
    have P2_113:=Lib.hid (P2_111.out.call hbW_112)
    clear P2_111
    have BB_113:=Lib.hid (BB_111.out.call hbW_112)
    clear BB_111
    clear hkW_112 hvW_112 hgpA hbW_112
    refine hK _ _ ⟨⟨_,⟨P1_113.out,P2_113.out⟩⟩,rfl⟩ ?_
    clear hK K
    try simp only [opsAt,List.getElem?_toArray,List.getElem?_cons_succ,List.getElem?_cons_zero]
    refine wpQuiet_nil ?_
    refine eff_as (C':=(fun w' => ∃ s:In (fun W' => Blk W' gX 27 sa.toArray ∧ Blk W' gY 27 sb.toArray),w' = s.W)) rfl ?_
    (refine eff_lit rfl rfl (fun K hK => ?_))
    obtain ⟨W_114,hrun,hk9,hg9⟩:=BA_113.out.storeAll (ty:=85) za (by rw [HSL.out.1.1];rfl) (by rw [size_zon,HSL.out.1.1]) (HSL.out.2.1)
    refine wp_store_by hrun rfl rfl rfl ?_
    simp only [Act.put,List.setIfInBounds_toArray,List.set_cons_succ,List.set_cons_zero]
    clear hrun
    have hp9:=HNpA.out
    have hn9:=HNE9.out
    have HBW_115:=Lib.hid (HBW_113.out.grown hg9 HBW_113.out.size (fun q hq => by injection hq with hq;omega))
    clear HBW_113
    have HBR_115:=Lib.hid (HBR_113.out.grown hg9 HBR_113.out.size (fun q hq => by injection hq with hq;omega))
    clear HBR_113
    have P1_115:=Lib.hid (P1_113.out.grown hg9 (fun e => by injection e with e;omega))
    clear P1_113
    have P2_115:=Lib.hid (P2_113.out.grown hg9 (fun e => by injection e with e;omega))
    clear P2_113
    have BB_115:=Lib.hid (BB_113.out.grown hg9 (fun e => by injection e with e;omega))
    clear BB_113
    have BA_116:=Lib.hid hk9
    clear hk9 hg9 hp9 hn9 BA_113
    refine hK _ _ ⟨⟨_,⟨P1_115.out,P2_115.out⟩⟩,rfl⟩ ?_
    clear hK K
    try simp only [opsAt,List.getElem?_toArray,List.getElem?_cons_succ,List.getElem?_cons_zero]
    refine wpQuiet_nil ?_
    refine eff_as (C':=(fun w' => ∃ s:In (fun W' => Blk W' gX 27 sa.toArray ∧ Blk W' gY 27 sb.toArray),w' = s.W)) rfl ?_
    (refine eff_lit rfl rfl (fun K hK => ?_))
    obtain ⟨W_117,hrun,hk9,hg9⟩:=BB_115.out.storeAll (ty:=85) zb (by rw [HSL.out.1.2];rfl) (by rw [size_zon,HSL.out.1.2]) (HSL.out.2.2)
    refine wp_store_by hrun rfl rfl rfl ?_
    simp only [Act.put,List.setIfInBounds_toArray,List.set_cons_succ,List.set_cons_zero]
    clear hrun
    have hp9:=HNpB.out
    have hn9:=HNE9.out
    have HBW_118:=Lib.hid (HBW_115.out.grown hg9 HBW_115.out.size (fun q hq => by injection hq with hq;omega))
    clear HBW_115
    have HBR_118:=Lib.hid (HBR_115.out.grown hg9 HBR_115.out.size (fun q hq => by injection hq with hq;omega))
    clear HBR_115
    have P1_118:=Lib.hid (P1_115.out.grown hg9 (fun e => by injection e with e;omega))
    clear P1_115
    have P2_118:=Lib.hid (P2_115.out.grown hg9 (fun e => by injection e with e;omega))
    clear P2_115
    have BA_118:=Lib.hid (BA_116.out.grown hg9 (fun e => by injection e with e;omega))
    clear BA_116
    have BB_119:=Lib.hid hk9
    clear hk9 hg9 hp9 hn9 BB_115
    refine hK _ _ ⟨⟨_,⟨P1_118.out,P2_118.out⟩⟩,rfl⟩ ?_
    clear hK K
    try simp only [opsAt,List.getElem?_toArray,List.getElem?_cons_succ,List.getElem?_cons_zero]
    refine wpQuiet_nil ?_
    refine effs_done ?_
    exact HKK.out _ _ _ _ pA pB _ ⟨BA_118.out,BB_119.out,HBR_118.out⟩
   ·refine eff_as (C':=(fun w' => ∃ s:In (fun W' => Blk W' gX 27 sa.toArray ∧ Blk W' gY 27 sb.toArray),w' = s.W)) rfl ?_
    (refine eff_lit rfl rfl (fun K hK => ?_))
    go_big_op
    obtain ⟨W_120,hvW_120⟩:∃ v,(W_108.alloc (.cells #[Value.slice none 0 0,.slice none 0 0,.slice none 0 0,.slice none 0 0] 85)) = v:=⟨_,rfl⟩
    have hbW_120:Below W_108.heap.size W_108 W_120:=by rw [← hvW_120];exact (Below.refl _ _).alloc (Nat.le_refl _) _
    obtain ⟨pA,hgpA⟩:∃ v,W_108.heap.size = v:=⟨_,rfl⟩
    have hkW_120:Blk W_120 pA 85 #[Value.slice none 0 0,.slice none 0 0,.slice none 0 0,.slice none 0 0]:=by rw [← hvW_120];exact Blk.mk_ _ _ _ _ hgpA
    have HNpA:Hid (W.heap.size ≤ pA ∧ W.heap.size ≤ pA):=Lib.hid ⟨by rw [← hgpA];exact HBR_109.out.size,by rw [← hgpA];exact HBW_109.out.size⟩
    have HNE9:Hid (pB ≠ pA):=Lib.hid (by have h9:=BB_109.out.lt;omega)
    rw [hvW_120,hgpA]
    have BA_121:=Lib.hid (hkW_120)
    have HBW_121:=Lib.hid (below_call HBW_109.out hbW_120 HBW_109.out.size)
    clear HBW_109
    have HBR_121:=Lib.hid (below_call HBR_109.out hbW_120 HBR_109.out.size)
    clear HBR_109
    have P1_121:=Lib.hid (P1_109.out.call hbW_120)
    clear P1_109
    have P2_121:=Lib.hid (P2_109.out.call hbW_120)
    clear P2_109
    have BB_121:=Lib.hid (BB_109.out.call hbW_120)
    clear BB_109
    clear hkW_120 hvW_120 hgpA hbW_120
    refine hK _ _ ⟨⟨_,⟨P1_121.out,P2_121.out⟩⟩,rfl⟩ ?_
    clear hK K
    try simp only [opsAt,List.getElem?_toArray,List.getElem?_cons_succ,List.getElem?_cons_zero]
    refine wpQuiet_nil ?_
    refine eff_as (C':=(fun w' => ∃ s:In (fun W' => Blk W' gX 27 sa.toArray ∧ Blk W' gY 27 sb.toArray),w' = s.W)) rfl ?_
    (refine eff_lit rfl rfl (fun K hK => ?_))
    go_big_op
    refine (HCB.out W_120).mono ?_
    rintro e W_122 ⟨rfl,hbW_122⟩
    have HBW_123:=Lib.hid (below_call HBW_121.out hbW_122 HBW_121.out.size)
    clear HBW_121
    have HBR_123:=Lib.hid (below_call HBR_121.out hbW_122 HBR_121.out.size)
    clear HBR_121
    have P1_123:=Lib.hid (P1_121.out.call hbW_122)
    clear P1_121
    have P2_123:=Lib.hid (P2_121.out.call hbW_122)
    clear P2_121
    have BB_123:=Lib.hid (BB_121.out.call hbW_122)
    clear BB_121
    have BA_123:=Lib.hid (BA_121.out.call hbW_122)
    clear BA_121
    clear hbW_122
    refine hK _ _ ⟨⟨_,⟨P1_123.out,P2_123.out⟩⟩,rfl⟩ ?_
    clear hK K
    try simp only [opsAt,List.getElem?_toArray,List.getElem?_cons_succ,List.getElem?_cons_zero]
    refine wpQuiet_nil ?_
    refine eff_as (C':=(fun w' => ∃ s:In (fun W' => Blk W' gX 27 sa.toArray ∧ Blk W' gY 27 sb.toArray),w' = s.W)) rfl ?_
    (refine eff_lit rfl rfl (fun K hK => ?_))
    obtain ⟨W_124,hrun,hk9,hg9⟩:=BA_123.out.storeAll (ty:=85) za (by rw [HSL.out.1.1];rfl) (by rw [size_zon,HSL.out.1.1]) (HSL.out.2.1)
    refine wp_store_by hrun rfl rfl rfl ?_
    simp only [Act.put,List.setIfInBounds_toArray,List.set_cons_succ,List.set_cons_zero]
    clear hrun
    have hp9:=HNpA.out
    have hn9:=HNE9.out
    have HBW_125:=Lib.hid (HBW_123.out.grown hg9 HBW_123.out.size (fun q hq => by injection hq with hq;omega))
    clear HBW_123
    have HBR_125:=Lib.hid (HBR_123.out.grown hg9 HBR_123.out.size (fun q hq => by injection hq with hq;omega))
    clear HBR_123
    have P1_125:=Lib.hid (P1_123.out.grown hg9 (fun e => by injection e with e;omega))
    clear P1_123
    have P2_125:=Lib.hid (P2_123.out.grown hg9 (fun e => by injection e with e;omega))
    clear P2_123
    have BB_125:=Lib.hid (BB_123.out.grown hg9 (fun e => by injection e with e;omega))
    clear BB_123
    have BA_126:=Lib.hid hk9
    clear hk9 hg9 hp9 hn9 BA_123
    refine hK _ _ ⟨⟨_,⟨P1_125.out,P2_125.out⟩⟩,rfl⟩ ?_
    clear hK K
    try simp only [opsAt,List.getElem?_toArray,List.getElem?_cons_succ,List.getElem?_cons_zero]
    refine wpQuiet_nil ?_
    refine eff_as (C':=(fun w' => ∃ s:In (fun W' => Blk W' gX 27 sa.toArray ∧ Blk W' gY 27 sb.toArray),w' = s.W)) rfl ?_
    (refine eff_lit rfl rfl (fun K hK => ?_))
    obtain ⟨W_127,hrun,hk9,hg9⟩:=BB_125.out.storeAll (ty:=85) zb (by rw [HSL.out.1.2];rfl) (by rw [size_zon,HSL.out.1.2]) (HSL.out.2.2)
    refine wp_store_by hrun rfl rfl rfl ?_
    simp only [Act.put,List.setIfInBounds_toArray,List.set_cons_succ,List.set_cons_zero]
    clear hrun
    have hp9:=HNpB.out
    have hn9:=HNE9.out
    have HBW_128:=Lib.hid (HBW_125.out.grown hg9 HBW_125.out.size (fun q hq => by injection hq with hq;omega))
    clear HBW_125
    have HBR_128:=Lib.hid (HBR_125.out.grown hg9 HBR_125.out.size (fun q hq => by injection hq with hq;omega))
    clear HBR_125
    have P1_128:=Lib.hid (P1_125.out.grown hg9 (fun e => by injection e with e;omega))
    clear P1_125
    have P2_128:=Lib.hid (P2_125.out.grown hg9 (fun e => by injection e with e;omega))
    clear P2_125
    have BA_128:=Lib.hid (BA_126.out.grown hg9 (fun e => by injection e with e;omega))
    clear BA_126
    have BB_129:=Lib.hid hk9
    clear hk9 hg9 hp9 hn9 BB_125
    refine hK _ _ ⟨⟨_,⟨P1_128.out,P2_128.out⟩⟩,rfl⟩ ?_
    clear hK K
    try simp only [opsAt,List.getElem?_toArray,List.getElem?_cons_succ,List.getElem?_cons_zero]
    refine wpQuiet_nil ?_
    refine effs_done ?_
    exact HKK.out _ _ _ _ pA pB _ ⟨BA_128.out,BB_129.out,HBR_128.out⟩
  ·refine eff_as (C':=(fun w' => ∃ s:In (fun W' => Blk W' gX 27 sa.toArray ∧ Blk W' gY 27 sb.toArray),w' = s.W)) rfl ?_
   (refine eff_lit rfl rfl (fun K hK => ?_))
   go_big_op
   obtain ⟨W_130,hvW_130⟩:∃ v,(W_106.alloc (.cells #[Value.slice none 0 0,.slice none 0 0,.slice none 0 0,.slice none 0 0] 85)) = v:=⟨_,rfl⟩
   have hbW_130:Below W_106.heap.size W_106 W_130:=by rw [← hvW_130];exact (Below.refl _ _).alloc (Nat.le_refl _) _
   obtain ⟨pA,hgpA⟩:∃ v,W_106.heap.size = v:=⟨_,rfl⟩
   have hkW_130:Blk W_130 pA 85 #[Value.slice none 0 0,.slice none 0 0,.slice none 0 0,.slice none 0 0]:=by rw [← hvW_130];exact Blk.mk_ _ _ _ _ hgpA
   have HNpA:Hid (W.heap.size ≤ pA ∧ W.heap.size ≤ pA):=Lib.hid ⟨by rw [← hgpA];exact HBR_107.out.size,by rw [← hgpA];exact HBW_107.out.size⟩
   have HNE9:Hid (pB ≠ pA):=Lib.hid (by have h9:=BB_107.out.lt;omega)
   rw [hvW_130,hgpA]
   have BA_131:=Lib.hid (hkW_130)
   have HBW_131:=Lib.hid (below_call HBW_107.out hbW_130 HBW_107.out.size)
   clear HBW_107
   have HBR_131:=Lib.hid (below_call HBR_107.out hbW_130 HBR_107.out.size)
   clear HBR_107
   have P1_131:=Lib.hid (P1_107.out.call hbW_130)
   clear P1_107
   have P2_131:=Lib.hid (P2_107.out.call hbW_130)
   clear P2_107
   have BB_131:=Lib.hid (BB_107.out.call hbW_130)
   clear BB_107
   clear hkW_130 hvW_130 hgpA hbW_130
   refine hK _ _ ⟨⟨_,⟨P1_131.out,P2_131.out⟩⟩,rfl⟩ ?_
   clear hK K
   try simp only [opsAt,List.getElem?_toArray,List.getElem?_cons_succ,List.getElem?_cons_zero]
   refine wpQuiet_nil ?_
   refine eff_as (C':=(fun w' => ∃ s:In (fun W' => Blk W' gX 27 sa.toArray ∧ Blk W' gY 27 sb.toArray),w' = s.W)) rfl ?_
   (refine eff_lit rfl rfl (fun K hK => ?_))
   go_big_op
   refine (HCA.out W_130).mono ?_
   rintro e W_132 ⟨rfl,hbW_132⟩
   have HBW_133:=Lib.hid (below_call HBW_131.out hbW_132 HBW_131.out.size)
   clear HBW_131
   have HBR_133:=Lib.hid (below_call HBR_131.out hbW_132 HBR_131.out.size)
   clear HBR_131
   have P1_133:=Lib.hid (P1_131.out.call hbW_132)
   clear P1_131
   have P2_133:=Lib.hid (P2_131.out.call hbW_132)
   clear P2_131
   have BB_133:=Lib.hid (BB_131.out.call hbW_132)
   clear BB_131
   have BA_133:=Lib.hid (BA_131.out.call hbW_132)
   clear BA_131
   clear hbW_132
   refine hK _ _ ⟨⟨_,⟨P1_133.out,P2_133.out⟩⟩,rfl⟩ ?_
   clear hK K
   try simp only [opsAt,List.getElem?_toArray,List.getElem?_cons_succ,List.getElem?_cons_zero]
   refine wpQuiet_nil ?_
   refine eff_as (C':=(fun w' => ∃ s:In (fun W' => Blk W' gX 27 sa.toArray ∧ Blk W' gY 27 sb.toArray),w' = s.W)) rfl ?_
   (refine eff_lit rfl rfl (fun K hK => ?_))
   go_big_op
   refine (HCB.out W_132).mono ?_
   rintro e W_134 ⟨rfl,hbW_134⟩
   have HBW_135:=Lib.hid (below_call HBW_133.out hbW_134 HBW_133.out.size)
   clear HBW_133
   have HBR_135:=Lib.hid (below_call HBR_133.out hbW_134 HBR_133.out.size)
   clear HBR_133
   have P1_135:=Lib.hid (P1_133.out.call hbW_134)
   clear P1_133
   have P2_135:=Lib.hid (P2_133.out.call hbW_134)
   clear P2_133
   have BB_135:=Lib.hid (BB_133.out.call hbW_134)
   clear BB_133
   have BA_135:=Lib.hid (BA_133.out.call hbW_134)
   clear BA_133
   clear hbW_134
   refine hK _ _ ⟨⟨_,⟨P1_135.out,P2_135.out⟩⟩,rfl⟩ ?_
   clear hK K
   try simp only [opsAt,List.getElem?_toArray,List.getElem?_cons_succ,List.getElem?_cons_zero]
   refine wpQuiet_nil ?_
   refine eff_as (C':=(fun w' => ∃ s:In (fun W' => Blk W' gX 27 sa.toArray ∧ Blk W' gY 27 sb.toArray),w' = s.W)) rfl ?_
   (refine eff_lit rfl rfl (fun K hK => ?_))
   obtain ⟨W_136,hrun,hk9,hg9⟩:=BA_135.out.storeAll (ty:=85) za (by rw [HSL.out.1.1];rfl) (by rw [size_zon,HSL.out.1.1]) (HSL.out.2.1)
   refine wp_store_by hrun rfl rfl rfl ?_
   simp only [Act.put,List.setIfInBounds_toArray,List.set_cons_succ,List.set_cons_zero]
   clear hrun
   have hp9:=HNpA.out
   have hn9:=HNE9.out
   have HBW_137:=Lib.hid (HBW_135.out.grown hg9 HBW_135.out.size (fun q hq => by injection hq with hq;omega))
   clear HBW_135
   have HBR_137:=Lib.hid (HBR_135.out.grown hg9 HBR_135.out.size (fun q hq => by injection hq with hq;omega))
   clear HBR_135
   have P1_137:=Lib.hid (P1_135.out.grown hg9 (fun e => by injection e with e;omega))
   clear P1_135
   have P2_137:=Lib.hid (P2_135.out.grown hg9 (fun e => by injection e with e;omega))
   clear P2_135
   have BB_137:=Lib.hid (BB_135.out.grown hg9 (fun e => by injection e with e;omega))
   clear BB_135
   have BA_138:=Lib.hid hk9
   clear hk9 hg9 hp9 hn9 BA_135
   refine hK _ _ ⟨⟨_,⟨P1_137.out,P2_137.out⟩⟩,rfl⟩ ?_
   clear hK K
   try simp only [opsAt,List.getElem?_toArray,List.getElem?_cons_succ,List.getElem?_cons_zero]
   refine wpQuiet_nil ?_
   refine eff_as (C':=(fun w' => ∃ s:In (fun W' => Blk W' gX 27 sa.toArray ∧ Blk W' gY 27 sb.toArray),w' = s.W)) rfl ?_
   (refine eff_lit rfl rfl (fun K hK => ?_))
   obtain ⟨W_139,hrun,hk9,hg9⟩:=BB_137.out.storeAll (ty:=85) zb (by rw [HSL.out.1.2];rfl) (by rw [size_zon,HSL.out.1.2]) (HSL.out.2.2)
   refine wp_store_by hrun rfl rfl rfl ?_
   simp only [Act.put,List.setIfInBounds_toArray,List.set_cons_succ,List.set_cons_zero]
   clear hrun
   have hp9:=HNpB.out
   have hn9:=HNE9.out
   have HBW_140:=Lib.hid (HBW_137.out.grown hg9 HBW_137.out.size (fun q hq => by injection hq with hq;omega))
   clear HBW_137
   have HBR_140:=Lib.hid (HBR_137.out.grown hg9 HBR_137.out.size (fun q hq => by injection hq with hq;omega))
   clear HBR_137
   have P1_140:=Lib.hid (P1_137.out.grown hg9 (fun e => by injection e with e;omega))
   clear P1_137
   have P2_140:=Lib.hid (P2_137.out.grown hg9 (fun e => by injection e with e;omega))
   clear P2_137
   have BA_140:=Lib.hid (BA_138.out.grown hg9 (fun e => by injection e with e;omega))
   clear BA_138
   have BB_141:=Lib.hid hk9
   clear hk9 hg9 hp9 hn9 BB_137
   refine hK _ _ ⟨⟨_,⟨P1_140.out,P2_140.out⟩⟩,rfl⟩ ?_
   clear hK K
   try simp only [opsAt,List.getElem?_toArray,List.getElem?_cons_succ,List.getElem?_cons_zero]
   refine wpQuiet_nil ?_
   refine effs_done ?_
   exact HKK.out _ _ _ _ pA pB _ ⟨BA_140.out,BB_141.out,HBR_140.out⟩

set_option maxRecDepth 100000 in
set_option maxHeartbeats 3200000 in
theorem rsa_r23 (W:World) (gX gY k n c c':Nat) (A A':Option Addr) (hk:(k:Int) < 4) (hC:∀ W',Below W.heap.size W W' → W'.cell? ⟨gX,k,none⟩ = some (.slice A n c) ∧ W'.cell? ⟨gY,k,none⟩ = some (.slice A' n c')) (hS:∀ W',Below W.heap.size W W' → Calls Tryz.prog 17 #[.slice A n c,.slice A' n c'] W' fun e w' => e = .returned (.bool true) ∧ Below W'.heap.size W' w') (Q:Exit → Act → World → Prop) (t0 t1 t2 t3 t4 t5 t6 t7 t8 t9 t13 t14 t15 t16 t17 t18 t19 t20 t21 t22 t23 t24 t25 t26 t27 t28 t29 t30 t31 t32 t33 t34 t35 t36 t37 t38 t39 t40 t41 t42 t43 t44 t45 t46 t47 t48 t49 t50 t51 t52 t53 t54 t55 t56 t57 t58 t59 t60 t61 t62 t63 t64 t65 t66 t67 t68 t69 t70 t71 t72 t73 t74 t75 t76 t77 t78 t79 t80 t81 t82 t83 t84 t85 t86 t87 t88 t89 t90 t91 t92 t93 t94 t95 t96 t97 t98 t99 t100 t101 t102 t103 t104 t105 t106 t107 t108 t109 t110 t111 t112 t113 t114 t115 t116 t117 t118 t119 t120 t121 t122 t123 t124 t125 t126 t127 t128 t129 t130 t131 t132 t133 t134 t135 t136 t137 t138 t139 t140 t141 t142 t143 t144 t145 t146 t147 t148 t149 t150 t151 t152 t153 t154 t155 t156 t157 t158 t159 t160 t161 t162 t163 t164 t165 t166 t167 t168 t169 t170 t171 t172 t173 t174 t175 t176 t177 t178 t179 t180 t181 t182 t183 t184 t185 t186 t187 t188 t189 t190 t191 t192 t193 t194 t195 t196 t197 t198:Value)
  (hQ:∀ d v c a w,Q (.panic c) (Act.put a d v) w → Q (.panic c) a w)
  (hK:∀ (u191 u192 u193 u194 u195 u196 u197:Value)  (W9:World),Below W.heap.size W W9 → Q .normal ⟨#[t0,t1,t2,t3,t4,t5,t6,t7,t8,t9,.pointer (some ⟨gX,0,none⟩),.pointer (some ⟨gY,0,none⟩),.int .i64 k,t13,t14,t15,t16,t17,t18,t19,t20,t21,t22,t23,t24,t25,t26,t27,t28,t29,t30,t31,t32,t33,t34,t35,t36,t37,t38,t39,t40,t41,t42,t43,t44,t45,t46,t47,t48,t49,t50,t51,t52,t53,t54,t55,t56,t57,t58,t59,t60,t61,t62,t63,t64,t65,t66,t67,t68,t69,t70,t71,t72,t73,t74,t75,t76,t77,t78,t79,t80,t81,t82,t83,t84,t85,t86,t87,t88,t89,t90,t91,t92,t93,t94,t95,t96,t97,t98,t99,t100,t101,t102,t103,t104,t105,t106,t107,t108,t109,t110,t111,t112,t113,t114,t115,t116,t117,t118,t119,t120,t121,t122,t123,t124,t125,t126,t127,t128,t129,t130,t131,t132,t133,t134,t135,t136,t137,t138,t139,t140,t141,t142,t143,t144,t145,t146,t147,t148,t149,t150,t151,t152,t153,t154,t155,t156,t157,t158,t159,t160,t161,t162,t163,t164,t165,t166,t167,t168,t169,t170,t171,t172,t173,t174,t175,t176,t177,t178,t179,t180,t181,t182,t183,t184,t185,t186,t187,t188,t189,t190,u191,u192,u193,u194,u195,u196,u197,.bool false],[]⟩ W9) :
  Code.wp Tryz.prog (regOf Tryz.f13 23) Q ⟨#[t0,t1,t2,t3,t4,t5,t6,t7,t8,t9,.pointer (some ⟨gX,0,none⟩),.pointer (some ⟨gY,0,none⟩),.int .i64 k,t13,t14,t15,t16,t17,t18,t19,t20,t21,t22,t23,t24,t25,t26,t27,t28,t29,t30,t31,t32,t33,t34,t35,t36,t37,t38,t39,t40,t41,t42,t43,t44,t45,t46,t47,t48,t49,t50,t51,t52,t53,t54,t55,t56,t57,t58,t59,t60,t61,t62,t63,t64,t65,t66,t67,t68,t69,t70,t71,t72,t73,t74,t75,t76,t77,t78,t79,t80,t81,t82,t83,t84,t85,t86,t87,t88,t89,t90,t91,t92,t93,t94,t95,t96,t97,t98,t99,t100,t101,t102,t103,t104,t105,t106,t107,t108,t109,t110,t111,t112,t113,t114,t115,t116,t117,t118,t119,t120,t121,t122,t123,t124,t125,t126,t127,t128,t129,t130,t131,t132,t133,t134,t135,t136,t137,t138,t139,t140,t141,t142,t143,t144,t145,t146,t147,t148,t149,t150,t151,t152,t153,t154,t155,t156,t157,t158,t159,t160,t161,t162,t163,t164,t165,t166,t167,t168,t169,t170,t171,t172,t173,t174,t175,t176,t177,t178,t179,t180,t181,t182,t183,t184,t185,t186,t187,t188,t189,t190,t191,t192,t193,t194,t195,t196,t197,t198],[]⟩ W:=by
 have HKK:=Lib.hid hK
 clear hK
 conv => arg 2;whnf
 have hk0:decide ((k:Int) < 0) = false:=decide_eq_false (by omega)
 have HC:=Lib.hid hC
 have HS:=Lib.hid hS
 have HQ:=Lib.hid hQ
 have hne_:Nonempty (In (fun W' => W'.cell? ⟨gX,k,none⟩ = some (.slice A n c) ∧ W'.cell? ⟨gY,k,none⟩ = some (.slice A' n c'))):=⟨⟨W,hC W (Below.refl _ _)⟩⟩
 have x1:∀ s:In (fun W' => W'.cell? ⟨gX,k,none⟩ = some (.slice A n c) ∧ W'.cell? ⟨gY,k,none⟩ = some (.slice A' n c')),s.W.cell? ⟨gX,k,none⟩ = some (.slice A n c):=fun s => s.h.1
 have x2:∀ s:In (fun W' => W'.cell? ⟨gX,k,none⟩ = some (.slice A n c) ∧ W'.cell? ⟨gY,k,none⟩ = some (.slice A' n c')),s.W.cell? ⟨gY,k,none⟩ = some (.slice A' n c'):=fun s => s.h.2
 clear hC hS hQ
 refine wp_region_sched (fun w' => ∃ s:In (fun W' => W'.cell? ⟨gX,k,none⟩ = some (.slice A n c) ∧ W'.cell? ⟨gY,k,none⟩ = some (.slice A' n c')),w' = s.W) [0,1,2,3,4,5] (.one 6 [7] .done) (by kernel_rfl) (by kernel_rfl) HQ.out ⟨⟨_,(HC.out _ (Below.refl _ _).drew)⟩,rfl⟩ ?_
 refine quiet_as (C':=(fun w' => ∃ s:In (fun W' => W'.cell? ⟨gX,k,none⟩ = some (.slice A n c) ∧ W'.cell? ⟨gY,k,none⟩ = some (.slice A' n c')),w' = s.W)) rfl ?_
 simp only [opsAt,List.getElem?_toArray,List.getElem?_cons_succ,List.getElem?_cons_zero]
 repeat (go_big_quiet_step (fail))
 refine wpQuiet_nil ?_
 obtain ⟨W_d,hwd⟩:∃ v,W.drew = v:=⟨_,rfl⟩
 have HBW_1:Hid (Below W.heap.size W W_d):=Lib.hid (by rw [← hwd];exact (Below.refl _ _).drew)
 have HBR_1:Hid (Below W.heap.size W W_d):=Lib.hid (by rw [← hwd];exact (Below.refl _ _).drew)
 rw [hwd]
 clear hwd
 refine eff_as (C':=(fun w' => ∃ s:In (fun W' => W'.cell? ⟨gX,k,none⟩ = some (.slice A n c) ∧ W'.cell? ⟨gY,k,none⟩ = some (.slice A' n c')),w' = s.W)) rfl ?_
 (refine eff_lit rfl rfl (fun K hK => ?_))
 go_big_op
 refine (HS.out W_d HBR_1.out).mono ?_
 rintro e W_2 ⟨rfl,hbW_2⟩
 have HBW_3:=Lib.hid (below_call HBW_1.out hbW_2 HBW_1.out.size)
 clear HBW_1
 have HBR_3:=Lib.hid (below_call HBR_1.out hbW_2 HBR_1.out.size)
 clear HBR_1
 clear hbW_2
 refine hK _ _ ⟨⟨_,(HC.out _ HBR_3.out)⟩,rfl⟩ ?_
 clear hK K
 try simp only [opsAt,List.getElem?_toArray,List.getElem?_cons_succ,List.getElem?_cons_zero]
 repeat (go_big_quiet_step (fail))
 refine wpQuiet_nil ?_
 refine effs_done ?_
 exact HKK.out _ _ _ _ _ _ _ _ HBR_3.out

end Go.Proofs.YtagpphelgghbpaaGreat
