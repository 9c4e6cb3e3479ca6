/-
  Texts: Vol.
-/
import Derived.Test.YtagpphelgghbpaaGreatMk20
set_option linter.unusedSimpArgs false
set_option linter.unusedVariables false
namespace Go.Proofs.YtagpphelgghbpaaGreat
open Go.RowKit

def vwf (b:Bd) (who:Int) (x0 x1:VsM) (h:Value) (tl:List Value):List Value:=vwc who ((puOf b).v0.cells x0) ((puOf b).v1.cells x1) h tl
structure VwX (w:World) (b:Bd) (x0 x1:VsM) (HA:Option Addr) (Hc:Nat) (hd:List Ob) (W:World):Prop where
 v0:VsO W w.heap.size (puOf b).v0 x0
 v1:VsO W w.heap.size (puOf b).v1 x1
 H:XOwns W w.heap.size 46 12 HA hd.length Hc (ocs hd)
section
variable {w:World} {b:Bd} {x0 x1:VsM} {HA:Option Addr} {Hc:Nat} {hd:List Ob} {W W':World}
theorem VwX.below (h:VwX w b x0 x1 HA Hc hd W) (hb:Below W.heap.size W W'):VwX w b x0 x1 HA Hc hd W':=⟨h.v0.below hb,h.v1.below hb,h.H.below hb⟩
theorem VwX.blk {g t:Nat} {cs:Array Value} (h:VwX w b x0 x1 HA Hc hd W) (hk:Blk W g t cs) (hg:W.grownBy W' (some g)) (ho:offT t):VwX w b x0 x1 HA Hc hd W':=⟨h.v0.blk hk hg ho,h.v1.blk hk hg ho,h.H.blk_ hk hg ho.1⟩
end
set_option maxRecDepth 100000 in
set_option maxHeartbeats 3200000 in
theorem vo_its (w W:World) (b:Bd) (m:BdM) (cs:Array Value) (gM gB nM:Nat) (f:Int → Option Ob) (hcs:(b.cells m).toArray = cs) (hR:BdR w b m) (hsm:BdSm b) (hV:VoC w cs gM gB nM f W) (g:Nat) (who:Int) (x0 x1:VsM) (h:Value) (HA9:Option Addr) (Hc9:Nat) (hd:List Ob) (hX:VwX w b x0 x1 HA9 Hc9 hd W) (hN:w.heap.size + 2 < g ∧ gM ≠ g ∧ gB ≠ g) (hG:Blk W g 98 (vwf b who x0 x1 h [Value.slice none 0 0,.slice none 0 0,.slice none 0 0,.slice none 0 0,.int .i64 b.turn,.int .i64 b.actv,.int .i64 b.phs,.int .i64 b.hold,.int .i64 b.pas]).toArray) (Q:Exit → Act → World → Prop) (t0 t1 t2 t4 t5 t6 t7 t8 t9 t10 t11 t13 t14 t15 t16 t17 t18 t19 t20 t21 t22 t23 t24 t25 t26 t27 t28 t29 t30 t31 t32 t33 t34 t35 t36 t37 t38 t39 t40 t41 t42 t43 t44 t45 t46 t47 t48 t49 t50 t51 t52 t53 t54 t55 t56 t57 t58 t59 t60 t61 t62 t63 t64 t65 t66 t67 t68 t69 t70 t71 t72 t73 t74 t75 t76 t77 t78 t79 t80 t81 t82 t83 t84 t85 t86 t87 t88 t89 t90 t91 t92 t93 t94 t95 t96 t97 t98 t99 t100 t101 t102 t103 t104 t105 t106 t107 t108 t109 t110 t111 t112 t113 t114 t115 t116 t117 t118 t119 t120 t121 t122 t123 t124 t125 t126 t127 t128 t129 t130 t131 t132 t133 t134 t135 t136 t137 t138 t139 t140 t141 t142 t143 t144 t145 t146 t147 t148 t149 t150 t151 t152 t153:Value)
  (hQ:∀ d v c a w,Q (.panic c) (Act.put a d v) w → Q (.panic c) a w)
  (hK:∀ (u112 u113 u114 u115 u116 u117 u118 u119:Value) (s1 s2:Sl) (T1 T2:List Sl) (W9:World),Blk W9 g 98 (vwf b who x0 x1 h [Value.slice s1.A b.stk.length s1.c,.slice s2.A b.que.length s2.c,.slice none 0 0,.slice none 0 0,.int .i64 b.turn,.int .i64 b.actv,.int .i64 b.phs,.int .i64 b.hold,.int .i64 b.pas]).toArray ∧ VwX w b x0 x1 HA9 Hc9 hd W9 ∧ VoC w cs gM gB nM f W9 ∧ IsO W9 w.heap.size s1 b.stk T1 ∧ IsO W9 w.heap.size s2 b.que T2 → Q .normal ⟨#[t0,t1,t2,.pointer (some ⟨w.heap.size,0,none⟩),t4,t5,t6,t7,t8,t9,t10,t11,.pointer (some ⟨g,0,none⟩),t13,t14,t15,t16,t17,t18,t19,t20,t21,t22,t23,t24,t25,t26,t27,t28,t29,t30,t31,t32,t33,t34,t35,t36,t37,t38,t39,t40,t41,t42,t43,t44,t45,t46,t47,t48,t49,t50,t51,t52,t53,t54,t55,t56,t57,t58,t59,t60,t61,t62,t63,t64,t65,t66,t67,t68,t69,t70,t71,t72,t73,t74,t75,t76,t77,t78,t79,t80,t81,t82,t83,t84,t85,t86,t87,t88,t89,t90,t91,t92,t93,t94,t95,t96,t97,t98,t99,t100,t101,t102,t103,t104,t105,t106,t107,t108,t109,t110,t111,u112,u113,u114,u115,u116,u117,u118,u119,t120,t121,t122,t123,t124,t125,t126,t127,t128,t129,t130,t131,t132,t133,t134,t135,t136,t137,t138,t139,t140,t141,t142,t143,t144,t145,t146,t147,t148,t149,t150,t151,t152,t153],[]⟩ W9) :
  Code.wp Tryz.prog (regOf Tryz.f72 16) Q ⟨#[t0,t1,t2,.pointer (some ⟨w.heap.size,0,none⟩),t4,t5,t6,t7,t8,t9,t10,t11,.pointer (some ⟨g,0,none⟩),t13,t14,t15,t16,t17,t18,t19,t20,t21,t22,t23,t24,t25,t26,t27,t28,t29,t30,t31,t32,t33,t34,t35,t36,t37,t38,t39,t40,t41,t42,t43,t44,t45,t46,t47,t48,t49,t50,t51,t52,t53,t54,t55,t56,t57,t58,t59,t60,t61,t62,t63,t64,t65,t66,t67,t68,t69,t70,t71,t72,t73,t74,t75,t76,t77,t78,t79,t80,t81,t82,t83,t84,t85,t86,t87,t88,t89,t90,t91,t92,t93,t94,t95,t96,t97,t98,t99,t100,t101,t102,t103,t104,t105,t106,t107,t108,t109,t110,t111,t112,t113,t114,t115,t116,t117,t118,t119,t120,t121,t122,t123,t124,t125,t126,t127,t128,t129,t130,t131,t132,t133,t134,t135,t136,t137,t138,t139,t140,t141,t142,t143,t144,t145,t146,t147,t148,t149,t150,t151,t152,t153],[]⟩ W:=by
 have HKK:=Lib.hid hK
 clear hK
 conv => arg 2;whnf
 obtain ⟨⟨SA,Sc⟩,hmS⟩:∃ x,m.S = x:=⟨_,rfl⟩
 obtain ⟨ns,hns⟩:∃ x,b.stk.length = x:=⟨_,rfl⟩
 obtain ⟨⟨QA,Qc⟩,hmQ⟩:∃ x,m.Q = x:=⟨_,rfl⟩
 obtain ⟨nq,hnq⟩:∃ x,b.que.length = x:=⟨_,rfl⟩
 have HNN:=Lib.hid (And.intro hns hnq)
 have HC2:Hid (∀ W',Below w.heap.size w W' → Calls Tryz.prog 102 #[.slice SA ns Sc] W' (ItsEnd b.stk ns W')):=Lib.hid (fun W' hb => by
  have hS:=(hR.below hb).S
  rw [hmS] at hS
  exact its_view ⟨SA,Sc⟩ ns b.stk m.ST W' hS hns (by have:=hsm.S;omega) (fun x hx => by have:=hsm.ST x hx;omega))
 have HC5:Hid (∀ W',Below w.heap.size w W' → Calls Tryz.prog 102 #[.slice QA nq Qc] W' (ItsEnd b.que nq W')):=Lib.hid (fun W' hb => by
  have hS:=(hR.below hb).Q
  rw [hmQ] at hS
  exact its_view ⟨QA,Qc⟩ nq b.que m.QT W' hS hnq (by have:=hsm.Q;omega) (fun x hx => by have:=hsm.QT x hx;omega))
 have HV:=Lib.hid hV
 have HX:=Lib.hid hX
 have HG:=Lib.hid hG
 have HN:=Lib.hid hN
 have HQ:=Lib.hid hQ
 have hne_:Nonempty (In (fun W' => Blk W' w.heap.size 33 cs)):=⟨⟨W,hV.box⟩⟩
 have x29:∀ s:In (fun W' => Blk W' w.heap.size 33 cs),s.W.cell? ⟨w.heap.size,29,none⟩ = some (.slice SA ns Sc):=fun s => (s.h.at_ 29).trans (by rw [← hcs];show some (m.S.v b.stk.length) = _;rw [hmS,hns];rfl)
 have x30:∀ s:In (fun W' => Blk W' w.heap.size 33 cs),s.W.cell? ⟨w.heap.size,30,none⟩ = some (.slice QA nq Qc):=fun s => (s.h.at_ 30).trans (by rw [← hcs];show some (m.Q.v b.que.length) = _;rw [hmQ,hnq];rfl)
 have hbx:=hV.box.lt
 clear hcs hR hsm hV hX hG hN hQ hmS hns hmQ hnq
 refine wp_region_sched (fun w' => ∃ s:In (fun W' => Blk W' w.heap.size 33 cs),w' = s.W) [0,1,3,4] (.one 2 [6] (.one 5 [] (.one 7 [8] (.one 9 [] .done)))) (by kernel_rfl) (by kernel_rfl) HQ.out ⟨⟨_,HV.out.box.drew⟩,rfl⟩ ?_
 refine quiet_as (C':=(fun w' => ∃ s:In (fun W' => Blk W' w.heap.size 33 cs),w' = s.W)) rfl ?_
 simp only [opsAt,List.getElem?_toArray,List.getElem?_cons_succ,List.getElem?_cons_zero]
 repeat (go_big_quiet_step (fail))
 refine wpQuiet_nil ?_
 obtain ⟨W_d,hwd⟩:∃ v,W.drew = v:=⟨_,rfl⟩
 have HBW_1:Hid (Below w.heap.size w W_d):=Lib.hid (by rw [← hwd];exact (HV.out.bel).drew)
 have HBR_1:Hid (Below W.heap.size W W_d):=Lib.hid (by rw [← hwd];exact (Below.refl _ _).drew)
 have VC_1:=Lib.hid ((HV.out).below (show Below W.heap.size W W_d by rw [← hwd];exact (Below.refl _ _).drew))
 have GB_1:=Lib.hid ((HG.out).call (show Below W.heap.size W W_d by rw [← hwd];exact (Below.refl _ _).drew))
 have FX_1:=Lib.hid ((HX.out).below (show Below W.heap.size W W_d by rw [← hwd];exact (Below.refl _ _).drew))
 rw [hwd]
 clear hwd
 refine eff_as (C':=(fun w' => ∃ s:In (fun W' => Blk W' w.heap.size 33 cs),w' = s.W)) rfl ?_
 (refine eff_lit rfl rfl (fun K hK => ?_))
 go_big_op
 refine (HC2.out W_d VC_1.out.bel).mono ?_
 rintro e W_2 ⟨⟨A1,e1⟩,ST1,rfl,hx,hbW_2⟩
 have F1_3:=Lib.hid ((hx.more HBW_1.out.size:IsO _ w.heap.size ⟨A1,e1⟩ b.stk ST1))
 have HBW_3:=Lib.hid (below_call HBW_1.out hbW_2 HBW_1.out.size)
 clear HBW_1
 have HBR_3:=Lib.hid (below_call HBR_1.out hbW_2 HBR_1.out.size)
 clear HBR_1
 have VC_3:=Lib.hid (VC_1.out.below hbW_2)
 clear VC_1
 have GB_3:=Lib.hid (GB_1.out.call hbW_2)
 clear GB_1
 have FX_3:=Lib.hid (FX_1.out.below hbW_2)
 clear FX_1
 clear hbW_2
 clear hx
 refine hK _ _ ⟨⟨_,VC_3.out.box⟩,rfl⟩ ?_
 clear hK K
 try simp only [opsAt,List.getElem?_toArray,List.getElem?_cons_succ,List.getElem?_cons_zero]
 repeat (go_big_quiet_step (fail))
 refine wpQuiet_nil ?_
 refine eff_as (C':=(fun w' => ∃ s:In (fun W' => Blk W' w.heap.size 33 cs),w' = s.W)) rfl ?_
 (refine eff_lit rfl rfl (fun K hK => ?_))
 go_big_op
 refine (HC5.out W_2 VC_3.out.bel).mono ?_
 rintro e W_4 ⟨⟨A2,e2⟩,ST2,rfl,hx,hbW_4⟩
 have F2_5:=Lib.hid ((hx.more HBW_3.out.size:IsO _ w.heap.size ⟨A2,e2⟩ b.que ST2))
 have HBW_5:=Lib.hid (below_call HBW_3.out hbW_4 HBW_3.out.size)
 clear HBW_3
 have HBR_5:=Lib.hid (below_call HBR_3.out hbW_4 HBR_3.out.size)
 clear HBR_3
 have VC_5:=Lib.hid (VC_3.out.below hbW_4)
 clear VC_3
 have GB_5:=Lib.hid (GB_3.out.call hbW_4)
 clear GB_3
 have FX_5:=Lib.hid (FX_3.out.below hbW_4)
 clear FX_3
 have F1_5:=Lib.hid (F1_3.out.below hbW_4)
 clear F1_3
 clear hbW_4
 clear hx
 refine hK _ _ ⟨⟨_,VC_5.out.box⟩,rfl⟩ ?_
 clear hK K
 try simp only [opsAt,List.getElem?_toArray,List.getElem?_cons_succ,List.getElem?_cons_zero]
 refine wpQuiet_nil ?_
 refine eff_as (C':=(fun w' => ∃ s:In (fun W' => Blk W' w.heap.size 33 cs),w' = s.W)) rfl ?_
 (refine eff_lit rfl rfl (fun K hK => ?_))
 have q9:=(GB_5.out.at_ 30).trans rfl
 have f9:=GB_5.out.free 30
 have l9:=GB_5.out.lt
 go_big_op
 obtain ⟨W_6,hvW_6⟩:∃ v,W_4.setCell ⟨g,30,none⟩ (.slice A1 ns e1) = v:=⟨_,rfl⟩
 have hg9:W_4.grownBy W_6 (some g):=by rw [← hvW_6];exact only_setCell (only_refl _ _) (.inl rfl) _
 have hk9:=GB_5.out.put 30 (.slice A1 ns e1)
 rw [hvW_6] at hk9
 rw [hvW_6]
 clear q9 f9 l9 hvW_6
 have hN9:=HN.out
 have HBW_7:=Lib.hid (HBW_5.out.grown hg9 HBW_5.out.size (fun q hq => by injection hq with hq;omega))
 clear HBW_5
 have VC_7:=Lib.hid (VC_5.out.store hg9 hN9.1 hN9.2.1 hN9.2.2)
 clear VC_5
 have FX_7:=Lib.hid (FX_5.out.blk GB_5.out hg9 off_view)
 clear FX_5
 have F1_7:=Lib.hid (F1_5.out.blk GB_5.out hg9 (by decide) (by decide))
 clear F1_5
 have F2_7:=Lib.hid (F2_5.out.blk GB_5.out hg9 (by decide) (by decide))
 clear F2_5
 have GB_8:=Lib.hid hk9
 clear hk9 hg9 GB_5
 clear hN9
 refine hK _ _ ⟨⟨_,VC_7.out.box⟩,rfl⟩ ?_
 clear hK K
 try simp only [opsAt,List.getElem?_toArray,List.getElem?_cons_succ,List.getElem?_cons_zero]
 try simp only [Act.put]
 repeat (go_big_quiet_step (fail))
 refine wpQuiet_nil ?_
 refine eff_as (C':=(fun w' => ∃ s:In (fun W' => Blk W' w.heap.size 33 cs),w' = s.W)) rfl ?_
 (refine eff_lit rfl rfl (fun K hK => ?_))
 have q9:=(GB_8.out.at_ 31).trans rfl
 have f9:=GB_8.out.free 31
 have l9:=GB_8.out.lt
 go_big_op
 obtain ⟨W_9,hvW_9⟩:∃ v,W_6.setCell ⟨g,31,none⟩ (.slice A2 nq e2) = v:=⟨_,rfl⟩
 have hg9:W_6.grownBy W_9 (some g):=by rw [← hvW_9];exact only_setCell (only_refl _ _) (.inl rfl) _
 have hk9:=GB_8.out.put 31 (.slice A2 nq e2)
 rw [hvW_9] at hk9
 rw [hvW_9]
 clear q9 f9 l9 hvW_9
 have hN9:=HN.out
 have HBW_10:=Lib.hid (HBW_7.out.grown hg9 HBW_7.out.size (fun q hq => by injection hq with hq;omega))
 clear HBW_7
 have VC_10:=Lib.hid (VC_7.out.store hg9 hN9.1 hN9.2.1 hN9.2.2)
 clear VC_7
 have FX_10:=Lib.hid (FX_7.out.blk GB_8.out hg9 off_view)
 clear FX_7
 have F1_10:=Lib.hid (F1_7.out.blk GB_8.out hg9 (by decide) (by decide))
 clear F1_7
 have F2_10:=Lib.hid (F2_7.out.blk GB_8.out hg9 (by decide) (by decide))
 clear F2_7
 have GB_11:=Lib.hid hk9
 clear hk9 hg9 GB_8
 clear hN9
 refine hK _ _ ⟨⟨_,VC_10.out.box⟩,rfl⟩ ?_
 clear hK K
 try simp only [opsAt,List.getElem?_toArray,List.getElem?_cons_succ,List.getElem?_cons_zero]
 refine wpQuiet_nil ?_
 refine effs_done ?_
 have hPC:((vwf b who x0 x1 h [Value.slice none 0 0,.slice none 0 0,.slice none 0 0,.slice none 0 0,.int .i64 b.turn,.int .i64 b.actv,.int .i64 b.phs,.int .i64 b.hold,.int .i64 b.pas]).toArray.setIfInBounds 30 (.slice A1 ns e1)).setIfInBounds 31 (.slice A2 nq e2) = (vwf b who x0 x1 h [Value.slice A1 b.stk.length e1,.slice A2 b.que.length e2,.slice none 0 0,.slice none 0 0,.int .i64 b.turn,.int .i64 b.actv,.int .i64 b.phs,.int .i64 b.hold,.int .i64 b.pas]).toArray:=by
  rw [HNN.out.1,HNN.out.2]
  simp only [vwf,vwc,Vs.cells,Sl.v,List.cons_append,List.nil_append,List.setIfInBounds_toArray,List.set_cons_succ,List.set_cons_zero]
 have hGB:=GB_11.out
 rw [hPC] at hGB
 refine HKK.out _ _ _ _ _ _ _ _ ⟨A1,e1⟩ ⟨A2,e2⟩ ST1 ST2 _ ⟨hGB,FX_10.out,VC_10.out,F1_10.out,F2_10.out⟩

set_option maxRecDepth 100000 in
set_option maxHeartbeats 3200000 in
theorem vo_cln (w W:World) (b:Bd) (m:BdM) (cs:Array Value) (gM gB nM:Nat) (f:Int → Option Ob) (hcs:(b.cells m).toArray = cs) (hR:BdR w b m) (hsm:BdSm b) (hV:VoC w cs gM gB nM f W) (g:Nat) (who:Int) (x0 x1:VsM) (h:Value) (HA9:Option Addr) (Hc9:Nat) (hd:List Ob) (hX:VwX w b x0 x1 HA9 Hc9 hd W) (hN:w.heap.size + 2 < g ∧ gM ≠ g ∧ gB ≠ g) (sS sQ:Sl) (ST QT:List Sl) (hS9:IsO W w.heap.size sS b.stk ST) (hQ9:IsO W w.heap.size sQ b.que QT) (hG:Blk W g 98 (vwf b who x0 x1 h [Value.slice sS.A b.stk.length sS.c,.slice sQ.A b.que.length sQ.c,.slice none 0 0,.slice none 0 0,.int .i64 b.turn,.int .i64 b.actv,.int .i64 b.phs,.int .i64 b.hold,.int .i64 b.pas]).toArray) (Q:Exit → Act → World → Prop) (t0 t1 t2 t4 t5 t6 t7 t8 t9 t10 t11 t13 t14 t15 t16 t17 t18 t19 t20 t21 t22 t23 t24 t25 t26 t27 t28 t29 t30 t31 t32 t33 t34 t35 t36 t37 t38 t39 t40 t41 t42 t43 t44 t45 t46 t47 t48 t49 t50 t51 t52 t53 t54 t55 t56 t57 t58 t59 t60 t61 t62 t63 t64 t65 t66 t67 t68 t69 t70 t71 t72 t73 t74 t75 t76 t77 t78 t79 t80 t81 t82 t83 t84 t85 t86 t87 t88 t89 t90 t91 t92 t93 t94 t95 t96 t97 t98 t99 t100 t101 t102 t103 t104 t105 t106 t107 t108 t109 t110 t111 t112 t113 t114 t115 t116 t117 t118 t119 t120 t121 t122 t123 t124 t125 t126 t127 t128 t129 t130 t131 t132 t133 t134 t135 t136 t137 t138 t139 t140 t141 t142 t143 t144 t145 t146 t147 t148 t149 t150 t151 t152 t153:Value)
  (hQ:∀ d v c a w,Q (.panic c) (Act.put a d v) w → Q (.panic c) a w)
  (hK:∀ (u120 u121 u122 u123 u124 u125 u126 u127:Value) (s1 s2:Sl) (W9:World),Blk W9 g 98 (vwf b who x0 x1 h [Value.slice sS.A b.stk.length sS.c,.slice sQ.A b.que.length sQ.c,.slice s1.A b.att.length s1.c,.slice s2.A b.blk.length s2.c,.int .i64 b.turn,.int .i64 b.actv,.int .i64 b.phs,.int .i64 b.hold,.int .i64 b.pas]).toArray ∧ VwX w b x0 x1 HA9 Hc9 hd W9 ∧ VoC w cs gM gB nM f W9 ∧ XOwns W9 w.heap.size 3 1 s1.A b.att.length s1.c (ics b.att) ∧ XOwns W9 w.heap.size 84 2 s2.A b.blk.length s2.c (bcs b.blk) ∧ IsO W9 w.heap.size sS b.stk ST ∧ IsO W9 w.heap.size sQ b.que QT → Q .normal ⟨#[t0,t1,t2,.pointer (some ⟨w.heap.size,0,none⟩),t4,t5,t6,t7,t8,t9,t10,t11,.pointer (some ⟨g,0,none⟩),t13,t14,t15,t16,t17,t18,t19,t20,t21,t22,t23,t24,t25,t26,t27,t28,t29,t30,t31,t32,t33,t34,t35,t36,t37,t38,t39,t40,t41,t42,t43,t44,t45,t46,t47,t48,t49,t50,t51,t52,t53,t54,t55,t56,t57,t58,t59,t60,t61,t62,t63,t64,t65,t66,t67,t68,t69,t70,t71,t72,t73,t74,t75,t76,t77,t78,t79,t80,t81,t82,t83,t84,t85,t86,t87,t88,t89,t90,t91,t92,t93,t94,t95,t96,t97,t98,t99,t100,t101,t102,t103,t104,t105,t106,t107,t108,t109,t110,t111,t112,t113,t114,t115,t116,t117,t118,t119,u120,u121,u122,u123,u124,u125,u126,u127,t128,t129,t130,t131,t132,t133,t134,t135,t136,t137,t138,t139,t140,t141,t142,t143,t144,t145,t146,t147,t148,t149,t150,t151,t152,t153],[]⟩ W9) :
  Code.wp Tryz.prog (regOf Tryz.f72 17) Q ⟨#[t0,t1,t2,.pointer (some ⟨w.heap.size,0,none⟩),t4,t5,t6,t7,t8,t9,t10,t11,.pointer (some ⟨g,0,none⟩),t13,t14,t15,t16,t17,t18,t19,t20,t21,t22,t23,t24,t25,t26,t27,t28,t29,t30,t31,t32,t33,t34,t35,t36,t37,t38,t39,t40,t41,t42,t43,t44,t45,t46,t47,t48,t49,t50,t51,t52,t53,t54,t55,t56,t57,t58,t59,t60,t61,t62,t63,t64,t65,t66,t67,t68,t69,t70,t71,t72,t73,t74,t75,t76,t77,t78,t79,t80,t81,t82,t83,t84,t85,t86,t87,t88,t89,t90,t91,t92,t93,t94,t95,t96,t97,t98,t99,t100,t101,t102,t103,t104,t105,t106,t107,t108,t109,t110,t111,t112,t113,t114,t115,t116,t117,t118,t119,t120,t121,t122,t123,t124,t125,t126,t127,t128,t129,t130,t131,t132,t133,t134,t135,t136,t137,t138,t139,t140,t141,t142,t143,t144,t145,t146,t147,t148,t149,t150,t151,t152,t153],[]⟩ W:=by
 have HKK:=Lib.hid hK
 clear hK
 conv => arg 2;whnf
 obtain ⟨⟨AA,Ac⟩,hmA⟩:∃ x,m.AT = x:=⟨_,rfl⟩
 obtain ⟨na,hna⟩:∃ x,b.att.length = x:=⟨_,rfl⟩
 obtain ⟨⟨KA,Kc⟩,hmK⟩:∃ x,m.BK = x:=⟨_,rfl⟩
 obtain ⟨nk,hnk⟩:∃ x,b.blk.length = x:=⟨_,rfl⟩
 have HNN:=Lib.hid (And.intro hna hnk)
 have HC2:Hid (∀ W',Below w.heap.size w W' → Calls Tryz.prog 61 #[.slice AA na Ac] W' fun e w' => ∃ A' c',e = .returned (.slice A' na c') ∧ XOwns w' W'.heap.size 3 1 A' na c' (ics b.att) ∧ Below W'.heap.size W' w'):=Lib.hid (fun W' hb => by
  have hS:=(hR.below hb).AT
  rw [hmA] at hS
  have h1:=hS.row
  rw [hna] at h1
  exact clone_ints AA na Ac (ics b.att) W' h1 (ics_one _) hS.ok.2.1 (by have:=hsm.AT;omega))
 have HC5:Hid (∀ W',Below w.heap.size w W' → Calls Tryz.prog 62 #[.slice KA nk Kc] W' fun e w' => ∃ A' c',e = .returned (.slice A' nk c') ∧ XOwns w' W'.heap.size 84 2 A' nk c' (bcs b.blk) ∧ Below W'.heap.size W' w'):=Lib.hid (fun W' hb => by
  have h1:=(hR.below hb).BK
  have h2:=(hR.below hb).Bo
  rw [hmK] at h1 h2
  rw [hnk] at h1
  exact clone_blks KA nk Kc (bcs b.blk) W' h1 (one_bcs _) h2.2.1 (by have:=hsm.BK;omega))
 have HV:=Lib.hid hV
 have HX:=Lib.hid hX
 have HG:=Lib.hid hG
 have HN:=Lib.hid hN
 have HQ:=Lib.hid hQ
 have hne_:Nonempty (In (fun W' => Blk W' w.heap.size 33 cs)):=⟨⟨W,hV.box⟩⟩
 have x31:∀ s:In (fun W' => Blk W' w.heap.size 33 cs),s.W.cell? ⟨w.heap.size,31,none⟩ = some (.slice AA na Ac):=fun s => (s.h.at_ 31).trans (by rw [← hcs];show some (m.AT.v b.att.length) = _;rw [hmA,hna];rfl)
 have x32:∀ s:In (fun W' => Blk W' w.heap.size 33 cs),s.W.cell? ⟨w.heap.size,32,none⟩ = some (.slice KA nk Kc):=fun s => (s.h.at_ 32).trans (by rw [← hcs];show some (m.BK.v b.blk.length) = _;rw [hmK,hnk];rfl)
 have hbx:=hV.box.lt
 have HS9:=Lib.hid hS9
 have HQ9:=Lib.hid hQ9
 clear hS9 hQ9
 clear hcs hR hsm hV hX hG hN hQ hmA hna hmK hnk
 refine wp_region_sched (fun w' => ∃ s:In (fun W' => Blk W' w.heap.size 33 cs),w' = s.W) [0,1,3,4] (.one 2 [6] (.one 5 [] (.one 7 [8] (.one 9 [] .done)))) (by kernel_rfl) (by kernel_rfl) HQ.out ⟨⟨_,HV.out.box.drew⟩,rfl⟩ ?_
 refine quiet_as (C':=(fun w' => ∃ s:In (fun W' => Blk W' w.heap.size 33 cs),w' = s.W)) rfl ?_
 simp only [opsAt,List.getElem?_toArray,List.getElem?_cons_succ,List.getElem?_cons_zero]
 repeat (go_big_quiet_step (fail))
 refine wpQuiet_nil ?_
 obtain ⟨W_d,hwd⟩:∃ v,W.drew = v:=⟨_,rfl⟩
 have HBW_1:Hid (Below w.heap.size w W_d):=Lib.hid (by rw [← hwd];exact (HV.out.bel).drew)
 have HBR_1:Hid (Below W.heap.size W W_d):=Lib.hid (by rw [← hwd];exact (Below.refl _ _).drew)
 have VC_1:=Lib.hid ((HV.out).below (show Below W.heap.size W W_d by rw [← hwd];exact (Below.refl _ _).drew))
 have GB_1:=Lib.hid ((HG.out).call (show Below W.heap.size W W_d by rw [← hwd];exact (Below.refl _ _).drew))
 have FX_1:=Lib.hid ((HX.out).below (show Below W.heap.size W W_d by rw [← hwd];exact (Below.refl _ _).drew))
 have GS_1:=Lib.hid ((HS9.out).below (show Below W.heap.size W W_d by rw [← hwd];exact (Below.refl _ _).drew))
 have GQ_1:=Lib.hid ((HQ9.out).below (show Below W.heap.size W W_d by rw [← hwd];exact (Below.refl _ _).drew))
 rw [hwd]
 clear hwd
 refine eff_as (C':=(fun w' => ∃ s:In (fun W' => Blk W' w.heap.size 33 cs),w' = s.W)) rfl ?_
 (refine eff_lit rfl rfl (fun K hK => ?_))
 go_big_op
 refine (HC2.out W_d VC_1.out.bel).mono ?_
 rintro e W_2 ⟨A1,e1,rfl,hx,hbW_2⟩
 have F1_3:=Lib.hid (hx.more HBW_1.out.size)
 have HBW_3:=Lib.hid (below_call HBW_1.out hbW_2 HBW_1.out.size)
 clear HBW_1
 have HBR_3:=Lib.hid (below_call HBR_1.out hbW_2 HBR_1.out.size)
 clear HBR_1
 have VC_3:=Lib.hid (VC_1.out.below hbW_2)
 clear VC_1
 have GB_3:=Lib.hid (GB_1.out.call hbW_2)
 clear GB_1
 have FX_3:=Lib.hid (FX_1.out.below hbW_2)
 clear FX_1
 have GS_3:=Lib.hid (GS_1.out.below hbW_2)
 clear GS_1
 have GQ_3:=Lib.hid (GQ_1.out.below hbW_2)
 clear GQ_1
 clear hbW_2
 clear hx
 refine hK _ _ ⟨⟨_,VC_3.out.box⟩,rfl⟩ ?_
 clear hK K
 try simp only [opsAt,List.getElem?_toArray,List.getElem?_cons_succ,List.getElem?_cons_zero]
 repeat (go_big_quiet_step (fail))
 refine wpQuiet_nil ?_
 refine eff_as (C':=(fun w' => ∃ s:In (fun W' => Blk W' w.heap.size 33 cs),w' = s.W)) rfl ?_
 (refine eff_lit rfl rfl (fun K hK => ?_))
 go_big_op
 refine (HC5.out W_2 VC_3.out.bel).mono ?_
 rintro e W_4 ⟨A2,e2,rfl,hx,hbW_4⟩
 have F2_5:=Lib.hid (hx.more HBW_3.out.size)
 have HBW_5:=Lib.hid (below_call HBW_3.out hbW_4 HBW_3.out.size)
 clear HBW_3
 have HBR_5:=Lib.hid (below_call HBR_3.out hbW_4 HBR_3.out.size)
 clear HBR_3
 have VC_5:=Lib.hid (VC_3.out.below hbW_4)
 clear VC_3
 have GB_5:=Lib.hid (GB_3.out.call hbW_4)
 clear GB_3
 have FX_5:=Lib.hid (FX_3.out.below hbW_4)
 clear FX_3
 have GS_5:=Lib.hid (GS_3.out.below hbW_4)
 clear GS_3
 have GQ_5:=Lib.hid (GQ_3.out.below hbW_4)
 clear GQ_3
 have F1_5:=Lib.hid (F1_3.out.below hbW_4)
 clear F1_3
 clear hbW_4
 clear hx
 refine hK _ _ ⟨⟨_,VC_5.out.box⟩,rfl⟩ ?_
 clear hK K
 try simp only [opsAt,List.getElem?_toArray,List.getElem?_cons_succ,List.getElem?_cons_zero]
 refine wpQuiet_nil ?_
 refine eff_as (C':=(fun w' => ∃ s:In (fun W' => Blk W' w.heap.size 33 cs),w' = s.W)) rfl ?_
 (refine eff_lit rfl rfl (fun K hK => ?_))
 have q9:=(GB_5.out.at_ 32).trans rfl
 have f9:=GB_5.out.free 32
 have l9:=GB_5.out.lt
 go_big_op
 obtain ⟨W_6,hvW_6⟩:∃ v,W_4.setCell ⟨g,32,none⟩ (.slice A1 na e1) = v:=⟨_,rfl⟩
 have hg9:W_4.grownBy W_6 (some g):=by rw [← hvW_6];exact only_setCell (only_refl _ _) (.inl rfl) _
 have hk9:=GB_5.out.put 32 (.slice A1 na e1)
 rw [hvW_6] at hk9
 rw [hvW_6]
 clear q9 f9 l9 hvW_6
 have hN9:=HN.out
 have HBW_7:=Lib.hid (HBW_5.out.grown hg9 HBW_5.out.size (fun q hq => by injection hq with hq;omega))
 clear HBW_5
 have VC_7:=Lib.hid (VC_5.out.store hg9 hN9.1 hN9.2.1 hN9.2.2)
 clear VC_5
 have FX_7:=Lib.hid (FX_5.out.blk GB_5.out hg9 off_view)
 clear FX_5
 have GS_7:=Lib.hid (GS_5.out.blk GB_5.out hg9 (by decide) (by decide))
 clear GS_5
 have GQ_7:=Lib.hid (GQ_5.out.blk GB_5.out hg9 (by decide) (by decide))
 clear GQ_5
 have F1_7:=Lib.hid (F1_5.out.blk_ GB_5.out hg9 (by decide))
 clear F1_5
 have F2_7:=Lib.hid (F2_5.out.blk_ GB_5.out hg9 (by decide))
 clear F2_5
 have GB_8:=Lib.hid hk9
 clear hk9 hg9 GB_5
 clear hN9
 refine hK _ _ ⟨⟨_,VC_7.out.box⟩,rfl⟩ ?_
 clear hK K
 try simp only [opsAt,List.getElem?_toArray,List.getElem?_cons_succ,List.getElem?_cons_zero]
 try simp only [Act.put]
 repeat (go_big_quiet_step (fail))
 refine wpQuiet_nil ?_
 refine eff_as (C':=(fun w' => ∃ s:In (fun W' => Blk W' w.heap.size 33 cs),w' = s.W)) rfl ?_
 (refine eff_lit rfl rfl (fun K hK => ?_))
 have q9:=(GB_8.out.at_ 33).trans rfl
 have f9:=GB_8.out.free 33
 have l9:=GB_8.out.lt
 go_big_op
 obtain ⟨W_9,hvW_9⟩:∃ v,W_6.setCell ⟨g,33,none⟩ (.slice A2 nk e2) = v:=⟨_,rfl⟩
 have hg9:W_6.grownBy W_9 (some g):=by rw [← hvW_9];exact only_setCell (only_refl _ _) (.inl rfl) _
 have hk9:=GB_8.out.put 33 (.slice A2 nk e2)
 rw [hvW_9] at hk9
 rw [hvW_9]
 clear q9 f9 l9 hvW_9
 have hN9:=HN.out
 have HBW_10:=Lib.hid (HBW_7.out.grown hg9 HBW_7.out.size (fun q hq => by injection hq with hq;omega))
 clear HBW_7
 have VC_10:=Lib.hid (VC_7.out.store hg9 hN9.1 hN9.2.1 hN9.2.2)
 clear VC_7
 have FX_10:=Lib.hid (FX_7.out.blk GB_8.out hg9 off_view)
 clear FX_7
 have GS_10:=Lib.hid (GS_7.out.blk GB_8.out hg9 (by decide) (by decide))
 clear GS_7
 have GQ_10:=Lib.hid (GQ_7.out.blk GB_8.out hg9 (by decide) (by decide))
 clear GQ_7
 have F1_10:=Lib.hid (F1_7.out.blk_ GB_8.out hg9 (by decide))
 clear F1_7
 have F2_10:=Lib.hid (F2_7.out.blk_ GB_8.out hg9 (by decide))
 clear F2_7
 have GB_11:=Lib.hid hk9
 clear hk9 hg9 GB_8
 clear hN9
 refine hK _ _ ⟨⟨_,VC_10.out.box⟩,rfl⟩ ?_
 clear hK K
 try simp only [opsAt,List.getElem?_toArray,List.getElem?_cons_succ,List.getElem?_cons_zero]
 refine wpQuiet_nil ?_
 refine effs_done ?_
 have hPC:((vwf b who x0 x1 h [Value.slice sS.A b.stk.length sS.c,.slice sQ.A b.que.length sQ.c,.slice none 0 0,.slice none 0 0,.int .i64 b.turn,.int .i64 b.actv,.int .i64 b.phs,.int .i64 b.hold,.int .i64 b.pas]).toArray.setIfInBounds 32 (.slice A1 na e1)).setIfInBounds 33 (.slice A2 nk e2) = (vwf b who x0 x1 h [Value.slice sS.A b.stk.length sS.c,.slice sQ.A b.que.length sQ.c,.slice A1 b.att.length e1,.slice A2 b.blk.length e2,.int .i64 b.turn,.int .i64 b.actv,.int .i64 b.phs,.int .i64 b.hold,.int .i64 b.pas]).toArray:=by
  rw [HNN.out.1,HNN.out.2]
  simp only [vwf,vwc,Vs.cells,Sl.v,List.cons_append,List.nil_append,List.setIfInBounds_toArray,List.set_cons_succ,List.set_cons_zero]
 have hGB:=GB_11.out
 rw [hPC] at hGB
 refine HKK.out _ _ _ _ _ _ _ _ ⟨A1,e1⟩ ⟨A2,e2⟩  _ ⟨hGB,FX_10.out,VC_10.out,(by show XOwns _ _ _ _ A1 _ e1 _;rw [HNN.out.1];exact F1_10.out),(by show XOwns _ _ _ _ A2 _ e2 _;rw [HNN.out.2];exact F2_10.out),GS_10.out,GQ_10.out⟩

end Go.Proofs.YtagpphelgghbpaaGreat
