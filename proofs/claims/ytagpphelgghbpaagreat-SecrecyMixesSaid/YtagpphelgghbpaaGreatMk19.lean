/-
  Texts: Vo.
-/
import Derived.Test.YtagpphelgghbpaaGreatMk18
set_option linter.unusedSimpArgs false
set_option linter.unusedVariables false
namespace Go.Proofs.YtagpphelgghbpaaGreat
open Go.RowKit

def zvw:Array Value:=#[.int .i64 0,.int .i64 0,.int .i64 0,.int .i64 0,.int .i64 0,.int .i64 0,.int .i64 0,.int .i64 0,.slice none 0 0,.slice none 0 0,.bool false,.bool false,.bool false,.int .i64 0,.int .i64 0,.int .i64 0,.int .i64 0,.int .i64 0,.int .i64 0,.int .i64 0,.int .i64 0,.int .i64 0,.slice none 0 0,.slice none 0 0,.bool false,.bool false,.bool false,.int .i64 0,.int .i64 0,.slice none 0 0,.slice none 0 0,.slice none 0 0,.slice none 0 0,.slice none 0 0,.int .i64 0,.int .i64 0,.int .i64 0,.int .i64 0,.int .i64 0,.int .i64 0,.int .i64 0,.int .i64 0,.slice none 0 0]
def vwc (who:Int) (c0 c1:List Value) (h:Value) (tl:List Value):List Value:=.int .i64 who :: (c0 ++ (c1 ++ (h :: (tl ++ [.int .i64 (-1),.int .i64 0,.int .i64 0,.slice none 0 0]))))
set_option maxRecDepth 100000 in
theorem size_view:(Tryz.prog.info? 98).map (·.size) = some 43:=by decide +kernel
structure VoC (w:World) (cs:Array Value) (gM gB nM:Nat) (f:Int → Option Ob) (W:World):Prop where
 box:Blk W w.heap.size 33 cs
 prm:Blk W (w.heap.size + 1) 92 #[.int .i64 0,.int .i64 0,.slice none 0 0]
 res:Blk W (w.heap.size + 2) 98 zvw
 map:MapO W gB nM f
 mbx:Blk W gM 155 #[.map (some gB)]
 hM:w.heap.size + 2 < gM
 hB:w.heap.size + 2 < gB
 bel:Below w.heap.size w W
section
variable {w:World} {cs:Array Value} {gM gB nM:Nat} {f:Int → Option Ob} {W W':World}
theorem VoC.below (h:VoC w cs gM gB nM f W) (hb:Below W.heap.size W W'):VoC w cs gM gB nM f W':=⟨h.box.call hb,h.prm.call hb,h.res.call hb,h.map.below hb,h.mbx.call hb,h.hM,h.hB,below_call h.bel hb h.bel.size⟩
theorem VoC.store {g:Nat} (h:VoC w cs gM gB nM f W) (hg:W.grownBy W' (some g)) (h1:w.heap.size + 2 < g) (h2:gM ≠ g) (h3:gB ≠ g):VoC w cs gM gB nM f W' :=
 ⟨h.box.grown hg (fun e => by injection e with e;omega),h.prm.grown hg (fun e => by injection e with e;omega),h.res.grown hg (fun e => by injection e with e;omega),h.map.kept hg (fun e => by injection e with e;exact h3 e),h.mbx.grown hg (fun e => by injection e with e;exact h2 e),h.hM,h.hB,h.bel.grown hg h.bel.size (fun q hq => by injection hq with hq;omega)⟩
end
theorem off_view:offT 98:=by unfold offT;decide
set_option maxRecDepth 100000 in
set_option maxHeartbeats 3200000 in
theorem vo_new0 (k:Nat) (hk:k = 0) (w W:World) (b:Bd) (m:BdM) (cs:Array Value) (gM gB nM:Nat) (f:Int → Option Ob) (hcs:(b.cells m).toArray = cs) (hR:BdR w b m) (hsm:BdSm b) (hf:∀ i,(∃ o ∈ b.objs,o.id = i) → f i = some (obI b.objs i)) (hV:VoC w cs gM gB nM f W) (Q:Exit → Act → World → Prop) (t0 t1 t4 t5 t6 t7 t8 t9 t10 t12 t13 t14 t15 t16 t17 t18 t19 t20 t21 t22 t23 t24 t25 t26 t27 t28 t29 t30 t31 t32 t33 t34 t35 t36 t37 t38 t39 t40 t41 t42 t43 t44 t45 t46 t47 t48 t49 t50 t51 t52 t53 t54 t55 t56 t57 t58 t59 t60 t61 t62 t63 t64 t65 t66 t67 t68 t69 t70 t71 t72 t73 t74 t75 t76 t77 t78 t79 t80 t81 t82 t83 t84 t85 t86 t87 t88 t89 t90 t91 t92 t93 t94 t95 t96 t97 t98 t99 t100 t101 t102 t103 t104 t105 t106 t107 t108 t109 t110 t111 t112 t113 t114 t115 t116 t117 t118 t119 t120 t121 t122 t123 t124 t125 t126 t127 t128 t129 t130 t131 t132 t133 t134 t135 t136 t137 t138 t139 t140 t141 t142 t143 t144 t145 t146 t147 t148 t149 t150 t151 t152 t153:Value)
  (hQ:∀ d v c a w,Q (.panic c) (Act.put a d v) w → Q (.panic c) a w)
  (hK:∀ (u54 u55 u56 u57 u58 u59 u60 u61 u62 u63 u64 u65 u66 u67 u68 u69 u70 u71 u72:Value) (g:Nat) (A:Option Addr) (c:Nat) (W9:World),Blk W9 g 98 (vwc k zvs zvs (.slice A b.s0.hand.length c) [.slice none 0 0,.slice none 0 0,.slice none 0 0,.slice none 0 0,.int .i64 b.turn,.int .i64 b.actv,.int .i64 b.phs,.int .i64 b.hold,.int .i64 b.pas]).toArray ∧ XOwns W9 w.heap.size 46 12 A b.s0.hand.length c (ocs (b.s0.hand.map (obI b.objs))) ∧ VoC w cs gM gB nM f W9 ∧ w.heap.size + 2 < g ∧ gM ≠ g ∧ gB ≠ g → Q .normal ⟨#[t0,t1,.int .i64 k,.pointer (some ⟨w.heap.size,0,none⟩),t4,t5,t6,t7,t8,t9,t10,.func (.func 101) #[] #[.pointer (some ⟨gM,0,none⟩)],.pointer (some ⟨g,0,none⟩),t13,t14,t15,t16,t17,t18,t19,t20,t21,t22,t23,t24,t25,t26,t27,t28,t29,t30,t31,t32,t33,t34,t35,t36,t37,t38,t39,t40,t41,t42,t43,t44,t45,t46,t47,t48,t49,t50,t51,t52,t53,u54,u55,u56,u57,u58,u59,u60,u61,u62,u63,u64,u65,u66,u67,u68,u69,u70,u71,u72,t73,t74,t75,t76,t77,t78,t79,t80,t81,t82,t83,t84,t85,t86,t87,t88,t89,t90,t91,t92,t93,t94,t95,t96,t97,t98,t99,t100,t101,t102,t103,t104,t105,t106,t107,t108,t109,t110,t111,t112,t113,t114,t115,t116,t117,t118,t119,t120,t121,t122,t123,t124,t125,t126,t127,t128,t129,t130,t131,t132,t133,t134,t135,t136,t137,t138,t139,t140,t141,t142,t143,t144,t145,t146,t147,t148,t149,t150,t151,t152,t153],[]⟩ W9) :
  Code.wp Tryz.prog (regOf Tryz.f72 10) Q ⟨#[t0,t1,.int .i64 k,.pointer (some ⟨w.heap.size,0,none⟩),t4,t5,t6,t7,t8,t9,t10,.func (.func 101) #[] #[.pointer (some ⟨gM,0,none⟩)],t12,t13,t14,t15,t16,t17,t18,t19,t20,t21,t22,t23,t24,t25,t26,t27,t28,t29,t30,t31,t32,t33,t34,t35,t36,t37,t38,t39,t40,t41,t42,t43,t44,t45,t46,t47,t48,t49,t50,t51,t52,t53,t54,t55,t56,t57,t58,t59,t60,t61,t62,t63,t64,t65,t66,t67,t68,t69,t70,t71,t72,t73,t74,t75,t76,t77,t78,t79,t80,t81,t82,t83,t84,t85,t86,t87,t88,t89,t90,t91,t92,t93,t94,t95,t96,t97,t98,t99,t100,t101,t102,t103,t104,t105,t106,t107,t108,t109,t110,t111,t112,t113,t114,t115,t116,t117,t118,t119,t120,t121,t122,t123,t124,t125,t126,t127,t128,t129,t130,t131,t132,t133,t134,t135,t136,t137,t138,t139,t140,t141,t142,t143,t144,t145,t146,t147,t148,t149,t150,t151,t152,t153],[]⟩ W:=by
 have HKK:=Lib.hid hK
 clear hK
 conv => arg 2;whnf
 subst hk
 obtain ⟨⟨HA,Hc⟩,hmH⟩:∃ x,m.m0.H = x:=⟨_,rfl⟩
 obtain ⟨nh,hnh⟩:∃ x,b.s0.hand.length = x:=⟨_,rfl⟩
 obtain ⟨turn,hturn⟩:∃ x,b.turn = x:=⟨_,rfl⟩
 obtain ⟨actv,hactv⟩:∃ x,b.actv = x:=⟨_,rfl⟩
 obtain ⟨phs,hphs⟩:∃ x,b.phs = x:=⟨_,rfl⟩
 obtain ⟨hold,hhold⟩:∃ x,b.hold = x:=⟨_,rfl⟩
 obtain ⟨pas,hpas⟩:∃ x,b.pas = x:=⟨_,rfl⟩
 have HV:=Lib.hid hV
 have HQ:=Lib.hid hQ
 have HNH:=Lib.hid hnh
 have HT:=Lib.hid (And.intro hturn (And.intro hactv (And.intro hphs (And.intro hhold hpas))))
 have HC:Hid (∀ W',VoC w cs gM gB nM f W' → Calls Tryz.prog 101 #[.slice HA nh Hc,.pointer (some ⟨gM,0,none⟩)] W' (SobEnd b.objs b.s0.hand W')):=Lib.hid (fun W' hc => by
  have h:=allf_any b.objs f gM gB nM m.m0.H b.s0.hand W' hc.map ((hc.mbx.at_ 0).trans rfl) hc.mbx.lt (fun i hi => hf i (hsm.s0.Hi i hi)) (hR.s0.H.below hc.bel) hsm.s0.H
  rw [hmH,hnh] at h
  exact h)
 have x7:∀ s:Later W.heap.size W,s.W.cell? ⟨w.heap.size,7,none⟩ = some (.slice HA nh Hc):=fun s => ((hV.box.call s.h).at_ 7).trans (by rw [← hcs];show some (m.m0.H.v b.s0.hand.length) = _;rw [hmH,hnh];rfl)
 have x33:∀ s:Later W.heap.size W,s.W.cell? ⟨w.heap.size,33,none⟩ = some (.int .i64 turn):=fun s => ((hV.box.call s.h).at_ 33).trans (by rw [← hcs];show some (Value.int .i64 b.turn) = _;rw [hturn])
 have x34:∀ s:Later W.heap.size W,s.W.cell? ⟨w.heap.size,34,none⟩ = some (.int .i64 actv):=fun s => ((hV.box.call s.h).at_ 34).trans (by rw [← hcs];show some (Value.int .i64 b.actv) = _;rw [hactv])
 have x35:∀ s:Later W.heap.size W,s.W.cell? ⟨w.heap.size,35,none⟩ = some (.int .i64 phs):=fun s => ((hV.box.call s.h).at_ 35).trans (by rw [← hcs];show some (Value.int .i64 b.phs) = _;rw [hphs])
 have x36:∀ s:Later W.heap.size W,s.W.cell? ⟨w.heap.size,36,none⟩ = some (.int .i64 hold):=fun s => ((hV.box.call s.h).at_ 36).trans (by rw [← hcs];show some (Value.int .i64 b.hold) = _;rw [hhold])
 have x37:∀ s:Later W.heap.size W,s.W.cell? ⟨w.heap.size,37,none⟩ = some (.int .i64 pas):=fun s => ((hV.box.call s.h).at_ 37).trans (by rw [← hcs];show some (Value.int .i64 b.pas) = _;rw [hpas])
 have hbx:=hV.box.lt
 clear hV hQ hcs hR hsm hf hmH hnh hturn hactv hphs hhold hpas
 refine wp_region_sched (fun w' => ∃ s:Later W.heap.size W,w' = s.W) [0,1,2,3,4,5,6,8,9,10,11,12,13,14,15,16,17] (.two 7 [18] (.one 19 [] (.one 20 [] .done)) 19 [] (.one 7 [18] (.one 20 [] .done))) (by kernel_rfl) (by kernel_rfl) HQ.out ⟨⟨_,(Below.refl _ _).drew⟩,rfl⟩ ?_
 refine quiet_as (C':=(fun w' => ∃ s:Later W.heap.size W,w' = s.W)) rfl ?_
 simp only [opsAt,List.getElem?_toArray,List.getElem?_cons_succ,List.getElem?_cons_zero]
 repeat (go_big_quiet_step (fail))
 refine wpQuiet_nil ?_
 obtain ⟨W_d,hwd⟩:∃ v,W.drew = v:=⟨_,rfl⟩
 have HBW_1:Hid (Below w.heap.size w W_d):=Lib.hid (by rw [← hwd];exact (HV.out.bel).drew)
 have HBR_1:Hid (Below W.heap.size W W_d):=Lib.hid (by rw [← hwd];exact (Below.refl _ _).drew)
 have VC_1:=Lib.hid ((HV.out).below (show Below W.heap.size W W_d by rw [← hwd];exact (Below.refl _ _).drew))
 rw [hwd]
 clear hwd
 refine ⟨?_,?_⟩
 ·refine eff_as (C':=(fun w' => ∃ s:Later W.heap.size W,w' = s.W)) rfl ?_
  (refine eff_lit rfl rfl (fun K hK => ?_))
  go_big_op
  refine (HC.out W_d VC_1.out).mono ?_
  rintro e W_2 ⟨A1,e1,rfl,hx,hbW_2⟩
  have FH_3:=Lib.hid (hx.more HBW_1.out.size)
  have HBW_3:=Lib.hid (below_call HBW_1.out hbW_2 HBW_1.out.size)
  clear HBW_1
  have HBR_3:=Lib.hid (below_call HBR_1.out hbW_2 HBR_1.out.size)
  clear HBR_1
  have VC_3:=Lib.hid (VC_1.out.below hbW_2)
  clear VC_1
  clear hbW_2
  clear hx
  refine hK _ _ ⟨⟨_,HBR_3.out⟩,rfl⟩ ?_
  clear hK K
  try simp only [opsAt,List.getElem?_toArray,List.getElem?_cons_succ,List.getElem?_cons_zero]
  repeat (go_big_quiet_step (fail))
  refine wpQuiet_nil ?_
  refine eff_as (C':=(fun w' => ∃ s:Later W.heap.size W,w' = s.W)) rfl ?_
  (refine eff_lit rfl rfl (fun K hK => ?_))
  go_big_op
  obtain ⟨W_4,hvW_4⟩:∃ v,(W_2.alloc (.cells #[Value.int .i64 0,.int .i64 0,.int .i64 0,.int .i64 0,.int .i64 0,.int .i64 0,.int .i64 0,.int .i64 0,.slice none 0 0,.slice none 0 0,.bool false,.bool false,.bool false,.int .i64 0,.int .i64 0,.int .i64 0,.int .i64 0,.int .i64 0,.int .i64 0,.int .i64 0,.int .i64 0,.int .i64 0,.slice none 0 0,.slice none 0 0,.bool false,.bool false,.bool false,.int .i64 0,.int .i64 0,.slice none 0 0,.slice none 0 0,.slice none 0 0,.slice none 0 0,.slice none 0 0,.int .i64 0,.int .i64 0,.int .i64 0,.int .i64 0,.int .i64 0,.int .i64 0,.int .i64 0,.int .i64 0,.slice none 0 0] 98)) = v:=⟨_,rfl⟩
  have hbW_4:Below W_2.heap.size W_2 W_4:=by rw [← hvW_4];exact (Below.refl _ _).alloc (Nat.le_refl _) _
  obtain ⟨gP,hggP⟩:∃ v,W_2.heap.size = v:=⟨_,rfl⟩
  have hkW_4:Blk W_4 gP 98 #[Value.int .i64 0,.int .i64 0,.int .i64 0,.int .i64 0,.int .i64 0,.int .i64 0,.int .i64 0,.int .i64 0,.slice none 0 0,.slice none 0 0,.bool false,.bool false,.bool false,.int .i64 0,.int .i64 0,.int .i64 0,.int .i64 0,.int .i64 0,.int .i64 0,.int .i64 0,.int .i64 0,.int .i64 0,.slice none 0 0,.slice none 0 0,.bool false,.bool false,.bool false,.int .i64 0,.int .i64 0,.slice none 0 0,.slice none 0 0,.slice none 0 0,.slice none 0 0,.slice none 0 0,.int .i64 0,.int .i64 0,.int .i64 0,.int .i64 0,.int .i64 0,.int .i64 0,.int .i64 0,.int .i64 0,.slice none 0 0]:=by rw [← hvW_4];exact Blk.mk_ _ _ _ _ hggP
  have HNgP:Hid (W.heap.size ≤ gP ∧ w.heap.size ≤ gP):=Lib.hid ⟨by rw [← hggP];exact HBR_3.out.size,by rw [← hggP];exact HBW_3.out.size⟩
  rw [hvW_4,hggP]
  have PB_5:=Lib.hid (hkW_4)
  have HBW_5:=Lib.hid (below_call HBW_3.out hbW_4 HBW_3.out.size)
  clear HBW_3
  have HBR_5:=Lib.hid (below_call HBR_3.out hbW_4 HBR_3.out.size)
  clear HBR_3
  have VC_5:=Lib.hid (VC_3.out.below hbW_4)
  clear VC_3
  have FH_5:=Lib.hid (FH_3.out.below hbW_4)
  clear FH_3
  clear hkW_4 hvW_4 hggP hbW_4
  refine hK _ _ ⟨⟨_,HBR_5.out⟩,rfl⟩ ?_
  clear hK K
  try simp only [opsAt,List.getElem?_toArray,List.getElem?_cons_succ,List.getElem?_cons_zero]
  refine wpQuiet_nil ?_
  refine eff_as (C':=(fun w' => ∃ s:Later W.heap.size W,w' = s.W)) rfl ?_
  (refine eff_lit rfl rfl (fun K hK => ?_))
  obtain ⟨W_6,hrun,hk9,hg9⟩:=PB_5.out.storeAll (ty:=98) (vwc (0:Nat) zvs zvs (.slice A1 b.s0.hand.length e1) [.slice none 0 0,.slice none 0 0,.slice none 0 0,.slice none 0 0,.int .i64 turn,.int .i64 actv,.int .i64 phs,.int .i64 hold,.int .i64 pas]) rfl (by rw [size_view];rfl) (by simp [vwc,zvs,Value.oneCell'])
  refine wp_store_by hrun rfl rfl rfl ?_
  simp only [Act.put,List.setIfInBounds_toArray,List.set_cons_succ,List.set_cons_zero]
  clear hrun
  have hN9:=HNgP.out
  have hM9:=HV.out.mbx.lt
  have hB9:=HV.out.map.lt
  have HBW_7:=Lib.hid (HBW_5.out.grown hg9 HBW_5.out.size (fun q hq => by injection hq with hq;omega))
  clear HBW_5
  have HBR_7:=Lib.hid (HBR_5.out.grown hg9 HBR_5.out.size (fun q hq => by injection hq with hq;omega))
  clear HBR_5
  have VC_7:=Lib.hid (VC_5.out.store hg9 (by have:=HV.out.res.lt;omega) (by omega) (by omega))
  clear VC_5
  have FH_7:=Lib.hid (FH_5.out.blk_ PB_5.out hg9 (by decide))
  clear FH_5
  have HK9:=Lib.hid hk9
  have HNE9:Hid (w.heap.size + 2 < gP ∧ gM ≠ gP ∧ gB ≠ gP):=Lib.hid ⟨by have:=HV.out.res.lt;omega,by omega,by omega⟩
  clear hk9 hg9 hN9 hM9 hB9
  refine hK _ _ ⟨⟨_,HBR_7.out⟩,rfl⟩ ?_
  clear hK K
  try simp only [opsAt,List.getElem?_toArray,List.getElem?_cons_succ,List.getElem?_cons_zero]
  refine wpQuiet_nil ?_
  refine effs_done ?_
  rw [← HT.out.1,← HT.out.2.1,← HT.out.2.2.1,← HT.out.2.2.2.1,← HT.out.2.2.2.2] at HK9
  exact HKK.out _ _ _ _ _ _ _ _ _ _ _ _ _ _ _ _ _ _ _ gP A1 e1 _ ⟨HK9.out,FH_7.out,VC_7.out,HNE9.out⟩
 ·refine eff_as (C':=(fun w' => ∃ s:Later W.heap.size W,w' = s.W)) rfl ?_
  (refine eff_lit rfl rfl (fun K hK => ?_))
  go_big_op
  obtain ⟨W_8,hvW_8⟩:∃ v,(W_d.alloc (.cells #[Value.int .i64 0,.int .i64 0,.int .i64 0,.int .i64 0,.int .i64 0,.int .i64 0,.int .i64 0,.int .i64 0,.slice none 0 0,.slice none 0 0,.bool false,.bool false,.bool false,.int .i64 0,.int .i64 0,.int .i64 0,.int .i64 0,.int .i64 0,.int .i64 0,.int .i64 0,.int .i64 0,.int .i64 0,.slice none 0 0,.slice none 0 0,.bool false,.bool false,.bool false,.int .i64 0,.int .i64 0,.slice none 0 0,.slice none 0 0,.slice none 0 0,.slice none 0 0,.slice none 0 0,.int .i64 0,.int .i64 0,.int .i64 0,.int .i64 0,.int .i64 0,.int .i64 0,.int .i64 0,.int .i64 0,.slice none 0 0] 98)) = v:=⟨_,rfl⟩
  have hbW_8:Below W_d.heap.size W_d W_8:=by rw [← hvW_8];exact (Below.refl _ _).alloc (Nat.le_refl _) _
  obtain ⟨gP,hggP⟩:∃ v,W_d.heap.size = v:=⟨_,rfl⟩
  have hkW_8:Blk W_8 gP 98 #[Value.int .i64 0,.int .i64 0,.int .i64 0,.int .i64 0,.int .i64 0,.int .i64 0,.int .i64 0,.int .i64 0,.slice none 0 0,.slice none 0 0,.bool false,.bool false,.bool false,.int .i64 0,.int .i64 0,.int .i64 0,.int .i64 0,.int .i64 0,.int .i64 0,.int .i64 0,.int .i64 0,.int .i64 0,.slice none 0 0,.slice none 0 0,.bool false,.bool false,.bool false,.int .i64 0,.int .i64 0,.slice none 0 0,.slice none 0 0,.slice none 0 0,.slice none 0 0,.slice none 0 0,.int .i64 0,.int .i64 0,.int .i64 0,.int .i64 0,.int .i64 0,.int .i64 0,.int .i64 0,.int .i64 0,.slice none 0 0]:=by rw [← hvW_8];exact Blk.mk_ _ _ _ _ hggP
  have HNgP:Hid (W.heap.size ≤ gP ∧ w.heap.size ≤ gP):=Lib.hid ⟨by rw [← hggP];exact HBR_1.out.size,by rw [← hggP];exact HBW_1.out.size⟩
  rw [hvW_8,hggP]
  have PB_9:=Lib.hid (hkW_8)
  have HBW_9:=Lib.hid (below_call HBW_1.out hbW_8 HBW_1.out.size)
  clear HBW_1
  have HBR_9:=Lib.hid (below_call HBR_1.out hbW_8 HBR_1.out.size)
  clear HBR_1
  have VC_9:=Lib.hid (VC_1.out.below hbW_8)
  clear VC_1
  clear hkW_8 hvW_8 hggP hbW_8
  refine hK _ _ ⟨⟨_,HBR_9.out⟩,rfl⟩ ?_
  clear hK K
  try simp only [opsAt,List.getElem?_toArray,List.getElem?_cons_succ,List.getElem?_cons_zero]
  refine wpQuiet_nil ?_
  refine eff_as (C':=(fun w' => ∃ s:Later W.heap.size W,w' = s.W)) rfl ?_
  (refine eff_lit rfl rfl (fun K hK => ?_))
  go_big_op
  refine (HC.out W_8 VC_9.out).mono ?_
  rintro e W_10 ⟨A1,e1,rfl,hx,hbW_10⟩
  have FH_11:=Lib.hid (hx.more HBW_9.out.size)
  have HBW_11:=Lib.hid (below_call HBW_9.out hbW_10 HBW_9.out.size)
  clear HBW_9
  have HBR_11:=Lib.hid (below_call HBR_9.out hbW_10 HBR_9.out.size)
  clear HBR_9
  have VC_11:=Lib.hid (VC_9.out.below hbW_10)
  clear VC_9
  have PB_11:=Lib.hid (PB_9.out.call hbW_10)
  clear PB_9
  clear hbW_10
  clear hx
  refine hK _ _ ⟨⟨_,HBR_11.out⟩,rfl⟩ ?_
  clear hK K
  try simp only [opsAt,List.getElem?_toArray,List.getElem?_cons_succ,List.getElem?_cons_zero]
  repeat (go_big_quiet_step (fail))
  refine wpQuiet_nil ?_
  refine eff_as (C':=(fun w' => ∃ s:Later W.heap.size W,w' = s.W)) rfl ?_
  (refine eff_lit rfl rfl (fun K hK => ?_))
  obtain ⟨W_12,hrun,hk9,hg9⟩:=PB_11.out.storeAll (ty:=98) (vwc (0:Nat) zvs zvs (.slice A1 b.s0.hand.length e1) [.slice none 0 0,.slice none 0 0,.slice none 0 0,.slice none 0 0,.int .i64 turn,.int .i64 actv,.int .i64 phs,.int .i64 hold,.int .i64 pas]) rfl (by rw [size_view];rfl) (by simp [vwc,zvs,Value.oneCell'])
  refine wp_store_by hrun rfl rfl rfl ?_
  simp only [Act.put,List.setIfInBounds_toArray,List.set_cons_succ,List.set_cons_zero]
  clear hrun
  have hN9:=HNgP.out
  have hM9:=HV.out.mbx.lt
  have hB9:=HV.out.map.lt
  have HBW_13:=Lib.hid (HBW_11.out.grown hg9 HBW_11.out.size (fun q hq => by injection hq with hq;omega))
  clear HBW_11
  have HBR_13:=Lib.hid (HBR_11.out.grown hg9 HBR_11.out.size (fun q hq => by injection hq with hq;omega))
  clear HBR_11
  have VC_13:=Lib.hid (VC_11.out.store hg9 (by have:=HV.out.res.lt;omega) (by omega) (by omega))
  clear VC_11
  have FH_13:=Lib.hid (FH_11.out.blk_ PB_11.out hg9 (by decide))
  clear FH_11
  have HK9:=Lib.hid hk9
  have HNE9:Hid (w.heap.size + 2 < gP ∧ gM ≠ gP ∧ gB ≠ gP):=Lib.hid ⟨by have:=HV.out.res.lt;omega,by omega,by omega⟩
  clear hk9 hg9 hN9 hM9 hB9
  refine hK _ _ ⟨⟨_,HBR_13.out⟩,rfl⟩ ?_
  clear hK K
  try simp only [opsAt,List.getElem?_toArray,List.getElem?_cons_succ,List.getElem?_cons_zero]
  refine wpQuiet_nil ?_
  refine effs_done ?_
  rw [← HT.out.1,← HT.out.2.1,← HT.out.2.2.1,← HT.out.2.2.2.1,← HT.out.2.2.2.2] at HK9
  exact HKK.out _ _ _ _ _ _ _ _ _ _ _ _ _ _ _ _ _ _ _ gP A1 e1 _ ⟨HK9.out,FH_13.out,VC_13.out,HNE9.out⟩

set_option maxRecDepth 100000 in
set_option maxHeartbeats 3200000 in
theorem vo_new1 (k:Nat) (hk:k = 1) (w W:World) (b:Bd) (m:BdM) (cs:Array Value) (gM gB nM:Nat) (f:Int → Option Ob) (hcs:(b.cells m).toArray = cs) (hR:BdR w b m) (hsm:BdSm b) (hf:∀ i,(∃ o ∈ b.objs,o.id = i) → f i = some (obI b.objs i)) (hV:VoC w cs gM gB nM f W) (Q:Exit → Act → World → Prop) (t0 t1 t4 t5 t6 t7 t8 t9 t10 t12 t13 t14 t15 t16 t17 t18 t19 t20 t21 t22 t23 t24 t25 t26 t27 t28 t29 t30 t31 t32 t33 t34 t35 t36 t37 t38 t39 t40 t41 t42 t43 t44 t45 t46 t47 t48 t49 t50 t51 t52 t53 t54 t55 t56 t57 t58 t59 t60 t61 t62 t63 t64 t65 t66 t67 t68 t69 t70 t71 t72 t73 t74 t75 t76 t77 t78 t79 t80 t81 t82 t83 t84 t85 t86 t87 t88 t89 t90 t91 t92 t93 t94 t95 t96 t97 t98 t99 t100 t101 t102 t103 t104 t105 t106 t107 t108 t109 t110 t111 t112 t113 t114 t115 t116 t117 t118 t119 t120 t121 t122 t123 t124 t125 t126 t127 t128 t129 t130 t131 t132 t133 t134 t135 t136 t137 t138 t139 t140 t141 t142 t143 t144 t145 t146 t147 t148 t149 t150 t151 t152 t153:Value)
  (hQ:∀ d v c a w,Q (.panic c) (Act.put a d v) w → Q (.panic c) a w)
  (hK:∀ (u54 u55 u56 u57 u58 u59 u60 u61 u62 u63 u64 u65 u66 u67 u68 u69 u70 u71 u72:Value) (g:Nat) (A:Option Addr) (c:Nat) (W9:World),Blk W9 g 98 (vwc k zvs zvs (.slice A b.s1.hand.length c) [.slice none 0 0,.slice none 0 0,.slice none 0 0,.slice none 0 0,.int .i64 b.turn,.int .i64 b.actv,.int .i64 b.phs,.int .i64 b.hold,.int .i64 b.pas]).toArray ∧ XOwns W9 w.heap.size 46 12 A b.s1.hand.length c (ocs (b.s1.hand.map (obI b.objs))) ∧ VoC w cs gM gB nM f W9 ∧ w.heap.size + 2 < g ∧ gM ≠ g ∧ gB ≠ g → Q .normal ⟨#[t0,t1,.int .i64 k,.pointer (some ⟨w.heap.size,0,none⟩),t4,t5,t6,t7,t8,t9,t10,.func (.func 101) #[] #[.pointer (some ⟨gM,0,none⟩)],.pointer (some ⟨g,0,none⟩),t13,t14,t15,t16,t17,t18,t19,t20,t21,t22,t23,t24,t25,t26,t27,t28,t29,t30,t31,t32,t33,t34,t35,t36,t37,t38,t39,t40,t41,t42,t43,t44,t45,t46,t47,t48,t49,t50,t51,t52,t53,u54,u55,u56,u57,u58,u59,u60,u61,u62,u63,u64,u65,u66,u67,u68,u69,u70,u71,u72,t73,t74,t75,t76,t77,t78,t79,t80,t81,t82,t83,t84,t85,t86,t87,t88,t89,t90,t91,t92,t93,t94,t95,t96,t97,t98,t99,t100,t101,t102,t103,t104,t105,t106,t107,t108,t109,t110,t111,t112,t113,t114,t115,t116,t117,t118,t119,t120,t121,t122,t123,t124,t125,t126,t127,t128,t129,t130,t131,t132,t133,t134,t135,t136,t137,t138,t139,t140,t141,t142,t143,t144,t145,t146,t147,t148,t149,t150,t151,t152,t153],[]⟩ W9) :
  Code.wp Tryz.prog (regOf Tryz.f72 10) Q ⟨#[t0,t1,.int .i64 k,.pointer (some ⟨w.heap.size,0,none⟩),t4,t5,t6,t7,t8,t9,t10,.func (.func 101) #[] #[.pointer (some ⟨gM,0,none⟩)],t12,t13,t14,t15,t16,t17,t18,t19,t20,t21,t22,t23,t24,t25,t26,t27,t28,t29,t30,t31,t32,t33,t34,t35,t36,t37,t38,t39,t40,t41,t42,t43,t44,t45,t46,t47,t48,t49,t50,t51,t52,t53,t54,t55,t56,t57,t58,t59,t60,t61,t62,t63,t64,t65,t66,t67,t68,t69,t70,t71,t72,t73,t74,t75,t76,t77,t78,t79,t80,t81,t82,t83,t84,t85,t86,t87,t88,t89,t90,t91,t92,t93,t94,t95,t96,t97,t98,t99,t100,t101,t102,t103,t104,t105,t106,t107,t108,t109,t110,t111,t112,t113,t114,t115,t116,t117,t118,t119,t120,t121,t122,t123,t124,t125,t126,t127,t128,t129,t130,t131,t132,t133,t134,t135,t136,t137,t138,t139,t140,t141,t142,t143,t144,t145,t146,t147,t148,t149,t150,t151,t152,t153],[]⟩ W:=by
 have HKK:=Lib.hid hK
 clear hK
 conv => arg 2;whnf
 subst hk
 obtain ⟨⟨HA,Hc⟩,hmH⟩:∃ x,m.m1.H = x:=⟨_,rfl⟩
 obtain ⟨nh,hnh⟩:∃ x,b.s1.hand.length = x:=⟨_,rfl⟩
 obtain ⟨turn,hturn⟩:∃ x,b.turn = x:=⟨_,rfl⟩
 obtain ⟨actv,hactv⟩:∃ x,b.actv = x:=⟨_,rfl⟩
 obtain ⟨phs,hphs⟩:∃ x,b.phs = x:=⟨_,rfl⟩
 obtain ⟨hold,hhold⟩:∃ x,b.hold = x:=⟨_,rfl⟩
 obtain ⟨pas,hpas⟩:∃ x,b.pas = x:=⟨_,rfl⟩
 have HV:=Lib.hid hV
 have HQ:=Lib.hid hQ
 have HNH:=Lib.hid hnh
 have HT:=Lib.hid (And.intro hturn (And.intro hactv (And.intro hphs (And.intro hhold hpas))))
 have HC:Hid (∀ W',VoC w cs gM gB nM f W' → Calls Tryz.prog 101 #[.slice HA nh Hc,.pointer (some ⟨gM,0,none⟩)] W' (SobEnd b.objs b.s1.hand W')):=Lib.hid (fun W' hc => by
  have h:=allf_any b.objs f gM gB nM m.m1.H b.s1.hand W' hc.map ((hc.mbx.at_ 0).trans rfl) hc.mbx.lt (fun i hi => hf i (hsm.s1.Hi i hi)) (hR.s1.H.below hc.bel) hsm.s1.H
  rw [hmH,hnh] at h
  exact h)
 have x21:∀ s:Later W.heap.size W,s.W.cell? ⟨w.heap.size,21,none⟩ = some (.slice HA nh Hc):=fun s => ((hV.box.call s.h).at_ 21).trans (by rw [← hcs];show some (m.m1.H.v b.s1.hand.length) = _;rw [hmH,hnh];rfl)
 have x33:∀ s:Later W.heap.size W,s.W.cell? ⟨w.heap.size,33,none⟩ = some (.int .i64 turn):=fun s => ((hV.box.call s.h).at_ 33).trans (by rw [← hcs];show some (Value.int .i64 b.turn) = _;rw [hturn])
 have x34:∀ s:Later W.heap.size W,s.W.cell? ⟨w.heap.size,34,none⟩ = some (.int .i64 actv):=fun s => ((hV.box.call s.h).at_ 34).trans (by rw [← hcs];show some (Value.int .i64 b.actv) = _;rw [hactv])
 have x35:∀ s:Later W.heap.size W,s.W.cell? ⟨w.heap.size,35,none⟩ = some (.int .i64 phs):=fun s => ((hV.box.call s.h).at_ 35).trans (by rw [← hcs];show some (Value.int .i64 b.phs) = _;rw [hphs])
 have x36:∀ s:Later W.heap.size W,s.W.cell? ⟨w.heap.size,36,none⟩ = some (.int .i64 hold):=fun s => ((hV.box.call s.h).at_ 36).trans (by rw [← hcs];show some (Value.int .i64 b.hold) = _;rw [hhold])
 have x37:∀ s:Later W.heap.size W,s.W.cell? ⟨w.heap.size,37,none⟩ = some (.int .i64 pas):=fun s => ((hV.box.call s.h).at_ 37).trans (by rw [← hcs];show some (Value.int .i64 b.pas) = _;rw [hpas])
 have hbx:=hV.box.lt
 clear hV hQ hcs hR hsm hf hmH hnh hturn hactv hphs hhold hpas
 refine wp_region_sched (fun w' => ∃ s:Later W.heap.size W,w' = s.W) [0,1,2,3,4,5,6,8,9,10,11,12,13,14,15,16,17] (.two 7 [18] (.one 19 [] (.one 20 [] .done)) 19 [] (.one 7 [18] (.one 20 [] .done))) (by kernel_rfl) (by kernel_rfl) HQ.out ⟨⟨_,(Below.refl _ _).drew⟩,rfl⟩ ?_
 refine quiet_as (C':=(fun w' => ∃ s:Later W.heap.size W,w' = s.W)) rfl ?_
 simp only [opsAt,List.getElem?_toArray,List.getElem?_cons_succ,List.getElem?_cons_zero]
 repeat (go_big_quiet_step (fail))
 refine wpQuiet_nil ?_
 obtain ⟨W_d,hwd⟩:∃ v,W.drew = v:=⟨_,rfl⟩
 have HBW_1:Hid (Below w.heap.size w W_d):=Lib.hid (by rw [← hwd];exact (HV.out.bel).drew)
 have HBR_1:Hid (Below W.heap.size W W_d):=Lib.hid (by rw [← hwd];exact (Below.refl _ _).drew)
 have VC_1:=Lib.hid ((HV.out).below (show Below W.heap.size W W_d by rw [← hwd];exact (Below.refl _ _).drew))
 rw [hwd]
 clear hwd
 refine ⟨?_,?_⟩
 ·refine eff_as (C':=(fun w' => ∃ s:Later W.heap.size W,w' = s.W)) rfl ?_
  (refine eff_lit rfl rfl (fun K hK => ?_))
  go_big_op
  refine (HC.out W_d VC_1.out).mono ?_
  rintro e W_2 ⟨A1,e1,rfl,hx,hbW_2⟩
  have FH_3:=Lib.hid (hx.more HBW_1.out.size)
  have HBW_3:=Lib.hid (below_call HBW_1.out hbW_2 HBW_1.out.size)
  clear HBW_1
  have HBR_3:=Lib.hid (below_call HBR_1.out hbW_2 HBR_1.out.size)
  clear HBR_1
  have VC_3:=Lib.hid (VC_1.out.below hbW_2)
  clear VC_1
  clear hbW_2
  clear hx
  refine hK _ _ ⟨⟨_,HBR_3.out⟩,rfl⟩ ?_
  clear hK K
  try simp only [opsAt,List.getElem?_toArray,List.getElem?_cons_succ,List.getElem?_cons_zero]
  repeat (go_big_quiet_step (fail))
  refine wpQuiet_nil ?_
  refine eff_as (C':=(fun w' => ∃ s:Later W.heap.size W,w' = s.W)) rfl ?_
  (refine eff_lit rfl rfl (fun K hK => ?_))
  go_big_op
  obtain ⟨W_4,hvW_4⟩:∃ v,(W_2.alloc (.cells #[Value.int .i64 0,.int .i64 0,.int .i64 0,.int .i64 0,.int .i64 0,.int .i64 0,.int .i64 0,.int .i64 0,.slice none 0 0,.slice none 0 0,.bool false,.bool false,.bool false,.int .i64 0,.int .i64 0,.int .i64 0,.int .i64 0,.int .i64 0,.int .i64 0,.int .i64 0,.int .i64 0,.int .i64 0,.slice none 0 0,.slice none 0 0,.bool false,.bool false,.bool false,.int .i64 0,.int .i64 0,.slice none 0 0,.slice none 0 0,.slice none 0 0,.slice none 0 0,.slice none 0 0,.int .i64 0,.int .i64 0,.int .i64 0,.int .i64 0,.int .i64 0,.int .i64 0,.int .i64 0,.int .i64 0,.slice none 0 0] 98)) = v:=⟨_,rfl⟩
  have hbW_4:Below W_2.heap.size W_2 W_4:=by rw [← hvW_4];exact (Below.refl _ _).alloc (Nat.le_refl _) _
  obtain ⟨gP,hggP⟩:∃ v,W_2.heap.size = v:=⟨_,rfl⟩
  have hkW_4:Blk W_4 gP 98 #[Value.int .i64 0,.int .i64 0,.int .i64 0,.int .i64 0,.int .i64 0,.int .i64 0,.int .i64 0,.int .i64 0,.slice none 0 0,.slice none 0 0,.bool false,.bool false,.bool false,.int .i64 0,.int .i64 0,.int .i64 0,.int .i64 0,.int .i64 0,.int .i64 0,.int .i64 0,.int .i64 0,.int .i64 0,.slice none 0 0,.slice none 0 0,.bool false,.bool false,.bool false,.int .i64 0,.int .i64 0,.slice none 0 0,.slice none 0 0,.slice none 0 0,.slice none 0 0,.slice none 0 0,.int .i64 0,.int .i64 0,.int .i64 0,.int .i64 0,.int .i64 0,.int .i64 0,.int .i64 0,.int .i64 0,.slice none 0 0]:=by rw [← hvW_4];exact Blk.mk_ _ _ _ _ hggP
  have HNgP:Hid (W.heap.size ≤ gP ∧ w.heap.size ≤ gP):=Lib.hid ⟨by rw [← hggP];exact HBR_3.out.size,by rw [← hggP];exact HBW_3.out.size⟩
  rw [hvW_4,hggP]
  have PB_5:=Lib.hid (hkW_4)
  have HBW_5:=Lib.hid (below_call HBW_3.out hbW_4 HBW_3.out.size)
  clear HBW_3
  have HBR_5:=Lib.hid (below_call HBR_3.out hbW_4 HBR_3.out.size)
  clear HBR_3
  have VC_5:=Lib.hid (VC_3.out.below hbW_4)
  clear VC_3
  have FH_5:=Lib.hid (FH_3.out.below hbW_4)
  clear FH_3
  clear hkW_4 hvW_4 hggP hbW_4
  refine hK _ _ ⟨⟨_,HBR_5.out⟩,rfl⟩ ?_
  clear hK K
  try simp only [opsAt,List.getElem?_toArray,List.getElem?_cons_succ,List.getElem?_cons_zero]
  refine wpQuiet_nil ?_
  refine eff_as (C':=(fun w' => ∃ s:Later W.heap.size W,w' = s.W)) rfl ?_
  (refine eff_lit rfl rfl (fun K hK => ?_))
  obtain ⟨W_6,hrun,hk9,hg9⟩:=PB_5.out.storeAll (ty:=98) (vwc (1:Nat) zvs zvs (.slice A1 b.s1.hand.length e1) [.slice none 0 0,.slice none 0 0,.slice none 0 0,.slice none 0 0,.int .i64 turn,.int .i64 actv,.int .i64 phs,.int .i64 hold,.int .i64 pas]) rfl (by rw [size_view];rfl) (by simp [vwc,zvs,Value.oneCell'])
  refine wp_store_by hrun rfl rfl rfl ?_
  simp only [Act.put,List.setIfInBounds_toArray,List.set_cons_succ,List.set_cons_zero]
  clear hrun
  have hN9:=HNgP.out
  have hM9:=HV.out.mbx.lt
  have hB9:=HV.out.map.lt
  have HBW_7:=Lib.hid (HBW_5.out.grown hg9 HBW_5.out.size (fun q hq => by injection hq with hq;omega))
  clear HBW_5
  have HBR_7:=Lib.hid (HBR_5.out.grown hg9 HBR_5.out.size (fun q hq => by injection hq with hq;omega))
  clear HBR_5
  have VC_7:=Lib.hid (VC_5.out.store hg9 (by have:=HV.out.res.lt;omega) (by omega) (by omega))
  clear VC_5
  have FH_7:=Lib.hid (FH_5.out.blk_ PB_5.out hg9 (by decide))
  clear FH_5
  have HK9:=Lib.hid hk9
  have HNE9:Hid (w.heap.size + 2 < gP ∧ gM ≠ gP ∧ gB ≠ gP):=Lib.hid ⟨by have:=HV.out.res.lt;omega,by omega,by omega⟩
  clear hk9 hg9 hN9 hM9 hB9
  refine hK _ _ ⟨⟨_,HBR_7.out⟩,rfl⟩ ?_
  clear hK K
  try simp only [opsAt,List.getElem?_toArray,List.getElem?_cons_succ,List.getElem?_cons_zero]
  refine wpQuiet_nil ?_
  refine effs_done ?_
  rw [← HT.out.1,← HT.out.2.1,← HT.out.2.2.1,← HT.out.2.2.2.1,← HT.out.2.2.2.2] at HK9
  exact HKK.out _ _ _ _ _ _ _ _ _ _ _ _ _ _ _ _ _ _ _ gP A1 e1 _ ⟨HK9.out,FH_7.out,VC_7.out,HNE9.out⟩
 ·refine eff_as (C':=(fun w' => ∃ s:Later W.heap.size W,w' = s.W)) rfl ?_
  (refine eff_lit rfl rfl (fun K hK => ?_))
  go_big_op
  obtain ⟨W_8,hvW_8⟩:∃ v,(W_d.alloc (.cells #[Value.int .i64 0,.int .i64 0,.int .i64 0,.int .i64 0,.int .i64 0,.int .i64 0,.int .i64 0,.int .i64 0,.slice none 0 0,.slice none 0 0,.bool false,.bool false,.bool false,.int .i64 0,.int .i64 0,.int .i64 0,.int .i64 0,.int .i64 0,.int .i64 0,.int .i64 0,.int .i64 0,.int .i64 0,.slice none 0 0,.slice none 0 0,.bool false,.bool false,.bool false,.int .i64 0,.int .i64 0,.slice none 0 0,.slice none 0 0,.slice none 0 0,.slice none 0 0,.slice none 0 0,.int .i64 0,.int .i64 0,.int .i64 0,.int .i64 0,.int .i64 0,.int .i64 0,.int .i64 0,.int .i64 0,.slice none 0 0] 98)) = v:=⟨_,rfl⟩
  have hbW_8:Below W_d.heap.size W_d W_8:=by rw [← hvW_8];exact (Below.refl _ _).alloc (Nat.le_refl _) _
  obtain ⟨gP,hggP⟩:∃ v,W_d.heap.size = v:=⟨_,rfl⟩
  have hkW_8:Blk W_8 gP 98 #[Value.int .i64 0,.int .i64 0,.int .i64 0,.int .i64 0,.int .i64 0,.int .i64 0,.int .i64 0,.int .i64 0,.slice none 0 0,.slice none 0 0,.bool false,.bool false,.bool false,.int .i64 0,.int .i64 0,.int .i64 0,.int .i64 0,.int .i64 0,.int .i64 0,.int .i64 0,.int .i64 0,.int .i64 0,.slice none 0 0,.slice none 0 0,.bool false,.bool false,.bool false,.int .i64 0,.int .i64 0,.slice none 0 0,.slice none 0 0,.slice none 0 0,.slice none 0 0,.slice none 0 0,.int .i64 0,.int .i64 0,.int .i64 0,.int .i64 0,.int .i64 0,.int .i64 0,.int .i64 0,.int .i64 0,.slice none 0 0]:=by rw [← hvW_8];exact Blk.mk_ _ _ _ _ hggP
  have HNgP:Hid (W.heap.size ≤ gP ∧ w.heap.size ≤ gP):=Lib.hid ⟨by rw [← hggP];exact HBR_1.out.size,by rw [← hggP];exact HBW_1.out.size⟩
  rw [hvW_8,hggP]
  have PB_9:=Lib.hid (hkW_8)
  have HBW_9:=Lib.hid (below_call HBW_1.out hbW_8 HBW_1.out.size)
  clear HBW_1
  have HBR_9:=Lib.hid (below_call HBR_1.out hbW_8 HBR_1.out.size)
  clear HBR_1
  have VC_9:=Lib.hid (VC_1.out.below hbW_8)
  clear VC_1
  clear hkW_8 hvW_8 hggP hbW_8
  refine hK _ _ ⟨⟨_,HBR_9.out⟩,rfl⟩ ?_
  clear hK K
  try simp only [opsAt,List.getElem?_toArray,List.getElem?_cons_succ,List.getElem?_cons_zero]
  refine wpQuiet_nil ?_
  refine eff_as (C':=(fun w' => ∃ s:Later W.heap.size W,w' = s.W)) rfl ?_
  (refine eff_lit rfl rfl (fun K hK => ?_))
  go_big_op
  refine (HC.out W_8 VC_9.out).mono ?_
  rintro e W_10 ⟨A1,e1,rfl,hx,hbW_10⟩
  have FH_11:=Lib.hid (hx.more HBW_9.out.size)
  have HBW_11:=Lib.hid (below_call HBW_9.out hbW_10 HBW_9.out.size)
  clear HBW_9
  have HBR_11:=Lib.hid (below_call HBR_9.out hbW_10 HBR_9.out.size)
  clear HBR_9
  have VC_11:=Lib.hid (VC_9.out.below hbW_10)
  clear VC_9
  have PB_11:=Lib.hid (PB_9.out.call hbW_10)
  clear PB_9
  clear hbW_10
  clear hx
  refine hK _ _ ⟨⟨_,HBR_11.out⟩,rfl⟩ ?_
  clear hK K
  try simp only [opsAt,List.getElem?_toArray,List.getElem?_cons_succ,List.getElem?_cons_zero]
  repeat (go_big_quiet_step (fail))
  refine wpQuiet_nil ?_
  refine eff_as (C':=(fun w' => ∃ s:Later W.heap.size W,w' = s.W)) rfl ?_
  (refine eff_lit rfl rfl (fun K hK => ?_))
  obtain ⟨W_12,hrun,hk9,hg9⟩:=PB_11.out.storeAll (ty:=98) (vwc (1:Nat) zvs zvs (.slice A1 b.s1.hand.length e1) [.slice none 0 0,.slice none 0 0,.slice none 0 0,.slice none 0 0,.int .i64 turn,.int .i64 actv,.int .i64 phs,.int .i64 hold,.int .i64 pas]) rfl (by rw [size_view];rfl) (by simp [vwc,zvs,Value.oneCell'])
  refine wp_store_by hrun rfl rfl rfl ?_
  simp only [Act.put,List.setIfInBounds_toArray,List.set_cons_succ,List.set_cons_zero]
  clear hrun
  have hN9:=HNgP.out
  have hM9:=HV.out.mbx.lt
  have hB9:=HV.out.map.lt
  have HBW_13:=Lib.hid (HBW_11.out.grown hg9 HBW_11.out.size (fun q hq => by injection hq with hq;omega))
  clear HBW_11
  have HBR_13:=Lib.hid (HBR_11.out.grown hg9 HBR_11.out.size (fun q hq => by injection hq with hq;omega))
  clear HBR_11
  have VC_13:=Lib.hid (VC_11.out.store hg9 (by have:=HV.out.res.lt;omega) (by omega) (by omega))
  clear VC_11
  have FH_13:=Lib.hid (FH_11.out.blk_ PB_11.out hg9 (by decide))
  clear FH_11
  have HK9:=Lib.hid hk9
  have HNE9:Hid (w.heap.size + 2 < gP ∧ gM ≠ gP ∧ gB ≠ gP):=Lib.hid ⟨by have:=HV.out.res.lt;omega,by omega,by omega⟩
  clear hk9 hg9 hN9 hM9 hB9
  refine hK _ _ ⟨⟨_,HBR_13.out⟩,rfl⟩ ?_
  clear hK K
  try simp only [opsAt,List.getElem?_toArray,List.getElem?_cons_succ,List.getElem?_cons_zero]
  refine wpQuiet_nil ?_
  refine effs_done ?_
  rw [← HT.out.1,← HT.out.2.1,← HT.out.2.2.1,← HT.out.2.2.2.1,← HT.out.2.2.2.2] at HK9
  exact HKK.out _ _ _ _ _ _ _ _ _ _ _ _ _ _ _ _ _ _ _ gP A1 e1 _ ⟨HK9.out,FH_13.out,VC_13.out,HNE9.out⟩

end Go.Proofs.YtagpphelgghbpaaGreat
