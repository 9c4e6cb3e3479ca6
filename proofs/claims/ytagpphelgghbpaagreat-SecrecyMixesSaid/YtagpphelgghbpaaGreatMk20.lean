/-
  Texts: Vos.
-/
import Derived.Test.YtagpphelgghbpaaGreatMk19
set_option linter.unusedSimpArgs false
set_option linter.unusedVariables false
namespace Go.Proofs.YtagpphelgghbpaaGreat
open Go.RowKit

theorem vwc_set0 (who:Int) (c0 c1 tl v:List Value) (h:Value) (l0:c0.length = 14) (lv:v.length = 14):(vwc who c0 c1 h tl).take 1 ++ v ++ (vwc who c0 c1 h tl).drop (1 + v.length) = vwc who v c1 h tl:=by
 unfold vwc
 rw [lv,show 1 + 14 = 14 + 1 from rfl,List.drop_succ_cons,List.drop_append,List.drop_of_length_le (by omega),l0]
 simp
theorem vwc_set1 (who:Int) (c0 c1 tl v:List Value) (h:Value) (l0:c0.length = 14) (l1:c1.length = 14) (lv:v.length = 14):(vwc who c0 c1 h tl).take 15 ++ v ++ (vwc who c0 c1 h tl).drop (15 + v.length) = vwc who c0 v h tl:=by
 unfold vwc
 rw [lv,show 15 + 14 = 28 + 1 from rfl,List.drop_succ_cons,show 15 = 14 + 1 from rfl,List.take_succ_cons,List.take_append_of_le_length (by omega),List.take_of_length_le (by omega),List.drop_append,List.drop_of_length_le (by omega),l0,List.drop_append,List.drop_of_length_le (by omega),l1]
 simp
theorem vwc_len (who:Int) (c0 c1 tl:List Value) (h:Value) (l0:c0.length = 14) (l1:c1.length = 14):(vwc who c0 c1 h tl).length = 34 + tl.length:=by
 unfold vwc
 simp only [List.length_cons,List.length_append,List.length_nil]
 omega
set_option maxRecDepth 100000 in
set_option maxHeartbeats 3200000 in
theorem vo_seat0 (k:Nat) (hk:k = 0) (w W:World) (b:Bd) (m:BdM) (cs:Array Value) (gM gB nM:Nat) (f:Int → Option Ob) (hcs:(b.cells m).toArray = cs) (hR:BdR w b m) (hsm:BdSm b) (hf:∀ i,(∃ o ∈ b.objs,o.id = i) → f i = some (obI b.objs i)) (hV:VoC w cs gM gB nM f W) (g:Nat) (who:Int) (c0 c1 tl:List Value) (h:Value) (l0:c0.length = 14) (l1:c1.length = 14) (hG:Blk W g 98 (vwc who c0 c1 h tl).toArray) (hN:w.heap.size + 2 < g ∧ gM ≠ g ∧ gB ≠ g) (gS:Nat) (hne:gS ≠ g) (hS:Blk W gS 27 (b.s0.cells m.m0).toArray) (HA9:Option Addr) (Hc9:Nat) (hd:List Ob) (hX:XOwns W w.heap.size 46 12 HA9 hd.length Hc9 (ocs hd)) (Q:Exit → Act → World → Prop) (t0 t1 t2 t4 t5 t6 t7 t8 t9 t10 t15 t16 t17 t18 t19 t20 t21 t22 t23 t24 t25 t26 t27 t28 t29 t30 t31 t32 t33 t34 t35 t36 t37 t38 t39 t40 t41 t42 t43 t44 t45 t46 t47 t48 t49 t50 t51 t52 t53 t54 t55 t56 t57 t58 t59 t60 t61 t62 t63 t64 t65 t66 t67 t68 t69 t70 t71 t72 t73 t74 t75 t76 t77 t78 t79 t80 t81 t82 t83 t84 t85 t86 t87 t88 t89 t90 t91 t92 t93 t94 t95 t96 t97 t98 t99 t100 t101 t102 t103 t104 t105 t106 t107 t108 t109 t110 t111 t112 t113 t114 t115 t116 t117 t118 t119 t120 t121 t122 t123 t124 t125 t126 t127 t128 t129 t130 t131 t132 t133 t134 t135 t136 t137 t138 t139 t140 t141 t142 t143 t144 t145 t146 t147 t148 t149 t150 t151 t152 t153:Value)
  (hQ:∀ d v c a w,Q (.panic c) (Act.put a d v) w → Q (.panic c) a w)
  (hK:∀ (u79 u80 u81 u82 u83 u84 u85 u86 u87 u88 u89 u90 u91 u92 u93 u94 u95 u96 u97 u98 u99 u100 u101 u102 u103 u104 u105 u106 u107 u108 u109 u110:Value) (v':VsM) (W9:World),VsO W9 w.heap.size (puOf b).v0 v' ∧ Blk W9 g 98 (vwc who ((puOf b).v0.cells v') c1 h tl).toArray ∧ VoC w cs gM gB nM f W9 ∧ XOwns W9 w.heap.size 46 12 HA9 hd.length Hc9 (ocs hd) → Q .normal ⟨#[t0,t1,t2,.pointer (some ⟨w.heap.size,0,none⟩),t4,t5,t6,t7,t8,t9,t10,.func (.func 101) #[] #[.pointer (some ⟨gM,0,none⟩)],.pointer (some ⟨g,0,none⟩),.int .i64 k,.pointer (some ⟨gS,0,none⟩),t15,t16,t17,t18,t19,t20,t21,t22,t23,t24,t25,t26,t27,t28,t29,t30,t31,t32,t33,t34,t35,t36,t37,t38,t39,t40,t41,t42,t43,t44,t45,t46,t47,t48,t49,t50,t51,t52,t53,t54,t55,t56,t57,t58,t59,t60,t61,t62,t63,t64,t65,t66,t67,t68,t69,t70,t71,t72,t73,t74,t75,t76,t77,t78,u79,u80,u81,u82,u83,u84,u85,u86,u87,u88,u89,u90,u91,u92,u93,u94,u95,u96,u97,u98,u99,u100,u101,u102,u103,u104,u105,u106,u107,u108,u109,u110,t111,t112,t113,t114,t115,t116,t117,t118,t119,t120,t121,t122,t123,t124,t125,t126,t127,t128,t129,t130,t131,t132,t133,t134,t135,t136,t137,t138,t139,t140,t141,t142,t143,t144,t145,t146,t147,t148,t149,t150,t151,t152,t153],[]⟩ W9) :
  Code.wp Tryz.prog (regOf Tryz.f72 14) Q ⟨#[t0,t1,t2,.pointer (some ⟨w.heap.size,0,none⟩),t4,t5,t6,t7,t8,t9,t10,.func (.func 101) #[] #[.pointer (some ⟨gM,0,none⟩)],.pointer (some ⟨g,0,none⟩),.int .i64 k,.pointer (some ⟨gS,0,none⟩),t15,t16,t17,t18,t19,t20,t21,t22,t23,t24,t25,t26,t27,t28,t29,t30,t31,t32,t33,t34,t35,t36,t37,t38,t39,t40,t41,t42,t43,t44,t45,t46,t47,t48,t49,t50,t51,t52,t53,t54,t55,t56,t57,t58,t59,t60,t61,t62,t63,t64,t65,t66,t67,t68,t69,t70,t71,t72,t73,t74,t75,t76,t77,t78,t79,t80,t81,t82,t83,t84,t85,t86,t87,t88,t89,t90,t91,t92,t93,t94,t95,t96,t97,t98,t99,t100,t101,t102,t103,t104,t105,t106,t107,t108,t109,t110,t111,t112,t113,t114,t115,t116,t117,t118,t119,t120,t121,t122,t123,t124,t125,t126,t127,t128,t129,t130,t131,t132,t133,t134,t135,t136,t137,t138,t139,t140,t141,t142,t143,t144,t145,t146,t147,t148,t149,t150,t151,t152,t153],[]⟩ W:=by
 have HKK:=Lib.hid hK
 clear hK
 conv => arg 2;whnf
 subst hk
 obtain ⟨⟨LA,Lc⟩,hmL⟩:∃ x,m.m0.L = x:=⟨_,rfl⟩
 obtain ⟨nl,hnl⟩:∃ x,b.s0.lib.length = x:=⟨_,rfl⟩
 obtain ⟨⟨HA,Hc⟩,hmH⟩:∃ x,m.m0.H = x:=⟨_,rfl⟩
 obtain ⟨nh,hnh⟩:∃ x,b.s0.hand.length = x:=⟨_,rfl⟩
 obtain ⟨⟨FA,Fc⟩,hmF⟩:∃ x,m.m0.F = x:=⟨_,rfl⟩
 obtain ⟨nf,hnf⟩:∃ x,b.s0.fld.length = x:=⟨_,rfl⟩
 obtain ⟨⟨GA,Gc⟩,hmG⟩:∃ x,m.m0.G = x:=⟨_,rfl⟩
 obtain ⟨ng,hng⟩:∃ x,b.s0.grv.length = x:=⟨_,rfl⟩
 have hsx:=hsm.s0
 have hse:=hR.s0
 have HVS:Hid ((puOf b).v0 = vsOf b.objs b.s0):=Lib.hid rfl
 have HC:Hid (∀ W' (s:Sl) (ids:List Int) (n:Nat),VoC w cs gM gB nM f W' → LsR w s ids → (∀ i ∈ ids,∃ o ∈ b.objs,o.id = i) → ids.length ≤ 500 → ids.length = n → Calls Tryz.prog 101 #[.slice s.A n s.c,.pointer (some ⟨gM,0,none⟩)] W' (SobEnd b.objs ids W')):=Lib.hid (fun W' s ids n hc hl hall hn e => by
  rw [← e]
  exact allf_any b.objs f gM gB nM s ids W' hc.map ((hc.mbx.at_ 0).trans rfl) hc.mbx.lt (fun i hi => hf i (hall i hi)) (hl.below hc.bel) hn)
 obtain ⟨se,hseN⟩:∃ x,b.s0 = x:=⟨_,rfl⟩
 have hSc:Blk W gS 27 #[Value.int .i64 se.life,.int .i64 se.p0,.int .i64 se.p1,.int .i64 se.p2,.int .i64 se.p3,.slice LA nl Lc,.slice HA nh Hc,.slice FA nf Fc,.slice GA ng Gc,.bool se.emp,.bool se.ply,.bool se.kpt,.int .i64 se.mul,.int .i64 se.act]:=by
  have h:=hS
  simp only [Se.cells,Sl.v,hmL,hmH,hmF,hmG,hnl,hnh,hnf,hng] at h
  simp only [hseN] at h
  exact h
 rw [hseN] at hse hsx hnl hnh hnf hng HVS
 have HSX:=Lib.hid hsx
 have HSE:=Lib.hid hse
 have HV:=Lib.hid hV
 have HQ:=Lib.hid hQ
 have HN:=Lib.hid hN
 have HL01:=Lib.hid (And.intro l0 l1)
 have HG:=Lib.hid hG
 have HNE:=Lib.hid hne
 have HX9:=Lib.hid hX
 have HNN:=Lib.hid (And.intro hnl (And.intro hnh (And.intro hnf hng)))
 have HMM:=Lib.hid (And.intro hmF hmG)
 have HSC:=Lib.hid hSc
 have hne_:Nonempty (In (fun W' => Blk W' gS 27 #[Value.int .i64 se.life,.int .i64 se.p0,.int .i64 se.p1,.int .i64 se.p2,.int .i64 se.p3,.slice LA nl Lc,.slice HA nh Hc,.slice FA nf Fc,.slice GA ng Gc,.bool se.emp,.bool se.ply,.bool se.kpt,.int .i64 se.mul,.int .i64 se.act] ∧ Blk W' w.heap.size 33 cs)):=⟨⟨W,hSc,hV.box⟩⟩
 have hgS:=hSc.lt
 have hbx:=hV.box.lt
 have x0:∀ s:In (fun W' => Blk W' gS 27 #[Value.int .i64 se.life,.int .i64 se.p0,.int .i64 se.p1,.int .i64 se.p2,.int .i64 se.p3,.slice LA nl Lc,.slice HA nh Hc,.slice FA nf Fc,.slice GA ng Gc,.bool se.emp,.bool se.ply,.bool se.kpt,.int .i64 se.mul,.int .i64 se.act] ∧ Blk W' w.heap.size 33 cs),s.W.cell? ⟨gS,0,none⟩ = some (.int .i64 se.life):=fun s => (s.h.1.at_ 0).trans rfl
 have x1:∀ s:In (fun W' => Blk W' gS 27 #[Value.int .i64 se.life,.int .i64 se.p0,.int .i64 se.p1,.int .i64 se.p2,.int .i64 se.p3,.slice LA nl Lc,.slice HA nh Hc,.slice FA nf Fc,.slice GA ng Gc,.bool se.emp,.bool se.ply,.bool se.kpt,.int .i64 se.mul,.int .i64 se.act] ∧ Blk W' w.heap.size 33 cs),s.W.cell? ⟨gS,1,none⟩ = some (.int .i64 se.p0):=fun s => (s.h.1.at_ 1).trans rfl
 have x2:∀ s:In (fun W' => Blk W' gS 27 #[Value.int .i64 se.life,.int .i64 se.p0,.int .i64 se.p1,.int .i64 se.p2,.int .i64 se.p3,.slice LA nl Lc,.slice HA nh Hc,.slice FA nf Fc,.slice GA ng Gc,.bool se.emp,.bool se.ply,.bool se.kpt,.int .i64 se.mul,.int .i64 se.act] ∧ Blk W' w.heap.size 33 cs),s.W.cell? ⟨gS,2,none⟩ = some (.int .i64 se.p1):=fun s => (s.h.1.at_ 2).trans rfl
 have x3:∀ s:In (fun W' => Blk W' gS 27 #[Value.int .i64 se.life,.int .i64 se.p0,.int .i64 se.p1,.int .i64 se.p2,.int .i64 se.p3,.slice LA nl Lc,.slice HA nh Hc,.slice FA nf Fc,.slice GA ng Gc,.bool se.emp,.bool se.ply,.bool se.kpt,.int .i64 se.mul,.int .i64 se.act] ∧ Blk W' w.heap.size 33 cs),s.W.cell? ⟨gS,3,none⟩ = some (.int .i64 se.p2):=fun s => (s.h.1.at_ 3).trans rfl
 have x4:∀ s:In (fun W' => Blk W' gS 27 #[Value.int .i64 se.life,.int .i64 se.p0,.int .i64 se.p1,.int .i64 se.p2,.int .i64 se.p3,.slice LA nl Lc,.slice HA nh Hc,.slice FA nf Fc,.slice GA ng Gc,.bool se.emp,.bool se.ply,.bool se.kpt,.int .i64 se.mul,.int .i64 se.act] ∧ Blk W' w.heap.size 33 cs),s.W.cell? ⟨gS,4,none⟩ = some (.int .i64 se.p3):=fun s => (s.h.1.at_ 4).trans rfl
 have x5:∀ s:In (fun W' => Blk W' gS 27 #[Value.int .i64 se.life,.int .i64 se.p0,.int .i64 se.p1,.int .i64 se.p2,.int .i64 se.p3,.slice LA nl Lc,.slice HA nh Hc,.slice FA nf Fc,.slice GA ng Gc,.bool se.emp,.bool se.ply,.bool se.kpt,.int .i64 se.mul,.int .i64 se.act] ∧ Blk W' w.heap.size 33 cs),s.W.cell? ⟨gS,5,none⟩ = some (.slice LA nl Lc):=fun s => (s.h.1.at_ 5).trans rfl
 have x6:∀ s:In (fun W' => Blk W' gS 27 #[Value.int .i64 se.life,.int .i64 se.p0,.int .i64 se.p1,.int .i64 se.p2,.int .i64 se.p3,.slice LA nl Lc,.slice HA nh Hc,.slice FA nf Fc,.slice GA ng Gc,.bool se.emp,.bool se.ply,.bool se.kpt,.int .i64 se.mul,.int .i64 se.act] ∧ Blk W' w.heap.size 33 cs),s.W.cell? ⟨gS,6,none⟩ = some (.slice HA nh Hc):=fun s => (s.h.1.at_ 6).trans rfl
 have x7:∀ s:In (fun W' => Blk W' gS 27 #[Value.int .i64 se.life,.int .i64 se.p0,.int .i64 se.p1,.int .i64 se.p2,.int .i64 se.p3,.slice LA nl Lc,.slice HA nh Hc,.slice FA nf Fc,.slice GA ng Gc,.bool se.emp,.bool se.ply,.bool se.kpt,.int .i64 se.mul,.int .i64 se.act] ∧ Blk W' w.heap.size 33 cs),s.W.cell? ⟨gS,7,none⟩ = some (.slice FA nf Fc):=fun s => (s.h.1.at_ 7).trans rfl
 have x8:∀ s:In (fun W' => Blk W' gS 27 #[Value.int .i64 se.life,.int .i64 se.p0,.int .i64 se.p1,.int .i64 se.p2,.int .i64 se.p3,.slice LA nl Lc,.slice HA nh Hc,.slice FA nf Fc,.slice GA ng Gc,.bool se.emp,.bool se.ply,.bool se.kpt,.int .i64 se.mul,.int .i64 se.act] ∧ Blk W' w.heap.size 33 cs),s.W.cell? ⟨gS,8,none⟩ = some (.slice GA ng Gc):=fun s => (s.h.1.at_ 8).trans rfl
 have x9:∀ s:In (fun W' => Blk W' gS 27 #[Value.int .i64 se.life,.int .i64 se.p0,.int .i64 se.p1,.int .i64 se.p2,.int .i64 se.p3,.slice LA nl Lc,.slice HA nh Hc,.slice FA nf Fc,.slice GA ng Gc,.bool se.emp,.bool se.ply,.bool se.kpt,.int .i64 se.mul,.int .i64 se.act] ∧ Blk W' w.heap.size 33 cs),s.W.cell? ⟨gS,9,none⟩ = some (.bool se.emp):=fun s => (s.h.1.at_ 9).trans rfl
 have x10:∀ s:In (fun W' => Blk W' gS 27 #[Value.int .i64 se.life,.int .i64 se.p0,.int .i64 se.p1,.int .i64 se.p2,.int .i64 se.p3,.slice LA nl Lc,.slice HA nh Hc,.slice FA nf Fc,.slice GA ng Gc,.bool se.emp,.bool se.ply,.bool se.kpt,.int .i64 se.mul,.int .i64 se.act] ∧ Blk W' w.heap.size 33 cs),s.W.cell? ⟨gS,10,none⟩ = some (.bool se.ply):=fun s => (s.h.1.at_ 10).trans rfl
 have x11:∀ s:In (fun W' => Blk W' gS 27 #[Value.int .i64 se.life,.int .i64 se.p0,.int .i64 se.p1,.int .i64 se.p2,.int .i64 se.p3,.slice LA nl Lc,.slice HA nh Hc,.slice FA nf Fc,.slice GA ng Gc,.bool se.emp,.bool se.ply,.bool se.kpt,.int .i64 se.mul,.int .i64 se.act] ∧ Blk W' w.heap.size 33 cs),s.W.cell? ⟨gS,11,none⟩ = some (.bool se.kpt):=fun s => (s.h.1.at_ 11).trans rfl
 have x12:∀ s:In (fun W' => Blk W' gS 27 #[Value.int .i64 se.life,.int .i64 se.p0,.int .i64 se.p1,.int .i64 se.p2,.int .i64 se.p3,.slice LA nl Lc,.slice HA nh Hc,.slice FA nf Fc,.slice GA ng Gc,.bool se.emp,.bool se.ply,.bool se.kpt,.int .i64 se.mul,.int .i64 se.act] ∧ Blk W' w.heap.size 33 cs),s.W.cell? ⟨gS,12,none⟩ = some (.int .i64 se.mul):=fun s => (s.h.1.at_ 12).trans rfl
 have x13:∀ s:In (fun W' => Blk W' gS 27 #[Value.int .i64 se.life,.int .i64 se.p0,.int .i64 se.p1,.int .i64 se.p2,.int .i64 se.p3,.slice LA nl Lc,.slice HA nh Hc,.slice FA nf Fc,.slice GA ng Gc,.bool se.emp,.bool se.ply,.bool se.kpt,.int .i64 se.mul,.int .i64 se.act] ∧ Blk W' w.heap.size 33 cs),s.W.cell? ⟨gS,13,none⟩ = some (.int .i64 se.act):=fun s => (s.h.1.at_ 13).trans rfl
 clear hne hQ hcs hR hsm hf hV hS hSc hse hsx hmL hmH hmF hmG hnl hnh hnf hng hseN hN l0 l1 hG hX
 refine wp_region_sched (fun w' => ∃ s:In (fun W' => Blk W' gS 27 #[Value.int .i64 se.life,.int .i64 se.p0,.int .i64 se.p1,.int .i64 se.p2,.int .i64 se.p3,.slice LA nl Lc,.slice HA nh Hc,.slice FA nf Fc,.slice GA ng Gc,.bool se.emp,.bool se.ply,.bool se.kpt,.int .i64 se.mul,.int .i64 se.act] ∧ Blk W' w.heap.size 33 cs),w' = s.W) [0,1,2,3,4,5,6,7,8,9,10,11,12,13,15,16,17,19,20,21,22,23,24,25,26,27,28,30] (.one 14 [] (.one 18 [29,31] (.one 32 [] .done))) (by kernel_rfl) (by kernel_rfl) HQ.out ⟨⟨_,⟨HSC.out.drew,HV.out.box.drew⟩⟩,rfl⟩ ?_
 refine quiet_as (C':=(fun w' => ∃ s:In (fun W' => Blk W' gS 27 #[Value.int .i64 se.life,.int .i64 se.p0,.int .i64 se.p1,.int .i64 se.p2,.int .i64 se.p3,.slice LA nl Lc,.slice HA nh Hc,.slice FA nf Fc,.slice GA ng Gc,.bool se.emp,.bool se.ply,.bool se.kpt,.int .i64 se.mul,.int .i64 se.act] ∧ Blk W' w.heap.size 33 cs),w' = s.W)) rfl ?_
 simp only [opsAt,List.getElem?_toArray,List.getElem?_cons_succ,List.getElem?_cons_zero]
 repeat (go_big_quiet_step (fail))
 refine wpQuiet_nil ?_
 obtain ⟨W_d,hwd⟩:∃ v,W.drew = v:=⟨_,rfl⟩
 have HBW_1:Hid (Below w.heap.size w W_d):=Lib.hid (by rw [← hwd];exact (HV.out.bel).drew)
 have HBR_1:Hid (Below W.heap.size W W_d):=Lib.hid (by rw [← hwd];exact (Below.refl _ _).drew)
 have VC_1:=Lib.hid ((HV.out).below (show Below W.heap.size W W_d by rw [← hwd];exact (Below.refl _ _).drew))
 have SB_1:=Lib.hid ((HSC.out).call (show Below W.heap.size W W_d by rw [← hwd];exact (Below.refl _ _).drew))
 have GB_1:=Lib.hid ((HG.out).call (show Below W.heap.size W W_d by rw [← hwd];exact (Below.refl _ _).drew))
 have FX_1:=Lib.hid ((HX9.out).below (show Below W.heap.size W W_d by rw [← hwd];exact (Below.refl _ _).drew))
 rw [hwd]
 clear hwd
 refine eff_as (C':=(fun w' => ∃ s:In (fun W' => Blk W' gS 27 #[Value.int .i64 se.life,.int .i64 se.p0,.int .i64 se.p1,.int .i64 se.p2,.int .i64 se.p3,.slice LA nl Lc,.slice HA nh Hc,.slice FA nf Fc,.slice GA ng Gc,.bool se.emp,.bool se.ply,.bool se.kpt,.int .i64 se.mul,.int .i64 se.act] ∧ Blk W' w.heap.size 33 cs),w' = s.W)) rfl ?_
 (refine eff_lit rfl rfl (fun K hK => ?_))
 go_big_op
 refine (HC.out W_d ⟨FA,Fc⟩ se.fld nf VC_1.out (by have h:=HSE.out.F;rw [HMM.out.1] at h;exact h) HSX.out.Fi HSX.out.F HNN.out.2.2.1).mono ?_
 rintro e W_2 ⟨A1,e1,rfl,hx,hbW_2⟩
 have FF_3:=Lib.hid (hx.more HBW_1.out.size)
 have HBW_3:=Lib.hid (below_call HBW_1.out hbW_2 HBW_1.out.size)
 clear HBW_1
 have HBR_3:=Lib.hid (below_call HBR_1.out hbW_2 HBR_1.out.size)
 clear HBR_1
 have VC_3:=Lib.hid (VC_1.out.below hbW_2)
 clear VC_1
 have SB_3:=Lib.hid (SB_1.out.call hbW_2)
 clear SB_1
 have GB_3:=Lib.hid (GB_1.out.call hbW_2)
 clear GB_1
 have FX_3:=Lib.hid (FX_1.out.below hbW_2)
 clear FX_1
 clear hbW_2
 clear hx
 refine hK _ _ ⟨⟨_,⟨SB_3.out,VC_3.out.box⟩⟩,rfl⟩ ?_
 clear hK K
 try simp only [opsAt,List.getElem?_toArray,List.getElem?_cons_succ,List.getElem?_cons_zero]
 refine wpQuiet_nil ?_
 refine eff_as (C':=(fun w' => ∃ s:In (fun W' => Blk W' gS 27 #[Value.int .i64 se.life,.int .i64 se.p0,.int .i64 se.p1,.int .i64 se.p2,.int .i64 se.p3,.slice LA nl Lc,.slice HA nh Hc,.slice FA nf Fc,.slice GA ng Gc,.bool se.emp,.bool se.ply,.bool se.kpt,.int .i64 se.mul,.int .i64 se.act] ∧ Blk W' w.heap.size 33 cs),w' = s.W)) rfl ?_
 (refine eff_lit rfl rfl (fun K hK => ?_))
 go_big_op
 refine (HC.out W_2 ⟨GA,Gc⟩ se.grv ng VC_3.out (by have h:=HSE.out.G;rw [HMM.out.2] at h;exact h) HSX.out.Gi HSX.out.G HNN.out.2.2.2).mono ?_
 rintro e W_4 ⟨A2,e2,rfl,hx,hbW_4⟩
 have FG_5:=Lib.hid (hx.more HBW_3.out.size)
 have HBW_5:=Lib.hid (below_call HBW_3.out hbW_4 HBW_3.out.size)
 clear HBW_3
 have HBR_5:=Lib.hid (below_call HBR_3.out hbW_4 HBR_3.out.size)
 clear HBR_3
 have VC_5:=Lib.hid (VC_3.out.below hbW_4)
 clear VC_3
 have SB_5:=Lib.hid (SB_3.out.call hbW_4)
 clear SB_3
 have GB_5:=Lib.hid (GB_3.out.call hbW_4)
 clear GB_3
 have FX_5:=Lib.hid (FX_3.out.below hbW_4)
 clear FX_3
 have FF_5:=Lib.hid (FF_3.out.below hbW_4)
 clear FF_3
 clear hbW_4
 clear hx
 refine hK _ _ ⟨⟨_,⟨SB_5.out,VC_5.out.box⟩⟩,rfl⟩ ?_
 clear hK K
 try simp only [opsAt,List.getElem?_toArray,List.getElem?_cons_succ,List.getElem?_cons_zero]
 repeat (go_big_quiet_step (fail))
 refine wpQuiet_nil ?_
 refine eff_as (C':=(fun w' => ∃ s:In (fun W' => Blk W' gS 27 #[Value.int .i64 se.life,.int .i64 se.p0,.int .i64 se.p1,.int .i64 se.p2,.int .i64 se.p3,.slice LA nl Lc,.slice HA nh Hc,.slice FA nf Fc,.slice GA ng Gc,.bool se.emp,.bool se.ply,.bool se.kpt,.int .i64 se.mul,.int .i64 se.act] ∧ Blk W' w.heap.size 33 cs),w' = s.W)) rfl ?_
 (refine eff_lit rfl rfl (fun K hK => ?_))
 obtain ⟨W_6,hrun,hk9,hg9⟩:=GB_5.out.storeMid (ty:=95) 1 [Value.int .i64 se.life,.int .i64 se.p0,.int .i64 se.p1,.int .i64 se.p2,.int .i64 se.p3,.int .i64 nl,.int .i64 nh,.slice A1 se.fld.length e1,.slice A2 se.grv.length e2,.bool se.emp,.bool se.ply,.bool se.kpt,.int .i64 se.mul,.int .i64 se.act] (by rw [vwc_len _ _ _ _ _ HL01.out.1 HL01.out.2];simp;omega) (by rw [size_vseat];rfl) (by simp [Value.oneCell'])
 refine wp_store_by hrun rfl rfl rfl ?_
 simp only [Act.put,List.setIfInBounds_toArray,List.set_cons_succ,List.set_cons_zero]
 clear hrun
 rw [vwc_set0 _ _ _ _ _ _ HL01.out.1 rfl] at hk9
 have hN9:=HN.out
 have HBW_7:=Lib.hid (HBW_5.out.grown hg9 HBW_5.out.size (fun q hq => by injection hq with hq;omega))
 clear HBW_5
 have VC_7:=Lib.hid (VC_5.out.store hg9 hN9.1 hN9.2.1 hN9.2.2)
 clear VC_5
 have SB_7:=Lib.hid (SB_5.out.grown hg9 (fun e => by injection e with e;exact HNE.out e))
 clear SB_5
 have FX_7:=Lib.hid (FX_5.out.blk_ GB_5.out hg9 (by decide))
 clear FX_5
 have FF_7:=Lib.hid (FF_5.out.blk_ GB_5.out hg9 (by decide))
 clear FF_5
 have FG_7:=Lib.hid (FG_5.out.blk_ GB_5.out hg9 (by decide))
 clear FG_5
 have HK9:=Lib.hid hk9
 clear hk9 hg9 hN9
 refine hK _ _ ⟨⟨_,⟨SB_7.out,VC_7.out.box⟩⟩,rfl⟩ ?_
 clear hK K
 try simp only [opsAt,List.getElem?_toArray,List.getElem?_cons_succ,List.getElem?_cons_zero]
 refine wpQuiet_nil ?_
 refine effs_done ?_
 have hl2:((puOf b).v0.cells ⟨⟨A1,e1⟩,⟨A2,e2⟩⟩) = [Value.int .i64 se.life,.int .i64 se.p0,.int .i64 se.p1,.int .i64 se.p2,.int .i64 se.p3,.int .i64 nl,.int .i64 nh,.slice A1 se.fld.length e1,.slice A2 se.grv.length e2,.bool se.emp,.bool se.ply,.bool se.kpt,.int .i64 se.mul,.int .i64 se.act]:=by
  rw [HVS.out]
  simp only [vsOf,Vs.cells,Sl.v,List.length_map]
  rw [HNN.out.1,HNN.out.2.1]
 rw [← hl2] at HK9
 refine HKK.out _ _ _ _ _ _ _ _ _ _ _ _ _ _ _ _ _ _ _ _ _ _ _ _ _ _ _ _ _ _ _ _ ⟨⟨A1,e1⟩,⟨A2,e2⟩⟩ _ ⟨?_,HK9.out,VC_7.out,FX_7.out⟩
 rw [HVS.out]
 refine ⟨?_,?_⟩
 ·show XOwns _ _ _ _ _ (se.fld.map (obI b.objs)).length _ _
  rw [List.length_map]
  exact FF_7.out
 ·show XOwns _ _ _ _ _ (se.grv.map (obI b.objs)).length _ _
  rw [List.length_map]
  exact FG_7.out

set_option maxRecDepth 100000 in
set_option maxHeartbeats 3200000 in
theorem vo_seat1 (k:Nat) (hk:k = 1) (w W:World) (b:Bd) (m:BdM) (cs:Array Value) (gM gB nM:Nat) (f:Int → Option Ob) (hcs:(b.cells m).toArray = cs) (hR:BdR w b m) (hsm:BdSm b) (hf:∀ i,(∃ o ∈ b.objs,o.id = i) → f i = some (obI b.objs i)) (hV:VoC w cs gM gB nM f W) (g:Nat) (who:Int) (c0 c1 tl:List Value) (h:Value) (l0:c0.length = 14) (l1:c1.length = 14) (hG:Blk W g 98 (vwc who c0 c1 h tl).toArray) (hN:w.heap.size + 2 < g ∧ gM ≠ g ∧ gB ≠ g) (gS:Nat) (hne:gS ≠ g) (hS:Blk W gS 27 (b.s1.cells m.m1).toArray) (HA9:Option Addr) (Hc9:Nat) (hd:List Ob) (hX:XOwns W w.heap.size 46 12 HA9 hd.length Hc9 (ocs hd)) (x0:VsM) (hX0:VsO W w.heap.size (puOf b).v0 x0) (Q:Exit → Act → World → Prop) (t0 t1 t2 t4 t5 t6 t7 t8 t9 t10 t15 t16 t17 t18 t19 t20 t21 t22 t23 t24 t25 t26 t27 t28 t29 t30 t31 t32 t33 t34 t35 t36 t37 t38 t39 t40 t41 t42 t43 t44 t45 t46 t47 t48 t49 t50 t51 t52 t53 t54 t55 t56 t57 t58 t59 t60 t61 t62 t63 t64 t65 t66 t67 t68 t69 t70 t71 t72 t73 t74 t75 t76 t77 t78 t79 t80 t81 t82 t83 t84 t85 t86 t87 t88 t89 t90 t91 t92 t93 t94 t95 t96 t97 t98 t99 t100 t101 t102 t103 t104 t105 t106 t107 t108 t109 t110 t111 t112 t113 t114 t115 t116 t117 t118 t119 t120 t121 t122 t123 t124 t125 t126 t127 t128 t129 t130 t131 t132 t133 t134 t135 t136 t137 t138 t139 t140 t141 t142 t143 t144 t145 t146 t147 t148 t149 t150 t151 t152 t153:Value)
  (hQ:∀ d v c a w,Q (.panic c) (Act.put a d v) w → Q (.panic c) a w)
  (hK:∀ (u79 u80 u81 u82 u83 u84 u85 u86 u87 u88 u89 u90 u91 u92 u93 u94 u95 u96 u97 u98 u99 u100 u101 u102 u103 u104 u105 u106 u107 u108 u109 u110:Value) (v':VsM) (W9:World),VsO W9 w.heap.size (puOf b).v1 v' ∧ Blk W9 g 98 (vwc who c0 ((puOf b).v1.cells v') h tl).toArray ∧ VoC w cs gM gB nM f W9 ∧ XOwns W9 w.heap.size 46 12 HA9 hd.length Hc9 (ocs hd) ∧ VsO W9 w.heap.size (puOf b).v0 x0 → Q .normal ⟨#[t0,t1,t2,.pointer (some ⟨w.heap.size,0,none⟩),t4,t5,t6,t7,t8,t9,t10,.func (.func 101) #[] #[.pointer (some ⟨gM,0,none⟩)],.pointer (some ⟨g,0,none⟩),.int .i64 k,.pointer (some ⟨gS,0,none⟩),t15,t16,t17,t18,t19,t20,t21,t22,t23,t24,t25,t26,t27,t28,t29,t30,t31,t32,t33,t34,t35,t36,t37,t38,t39,t40,t41,t42,t43,t44,t45,t46,t47,t48,t49,t50,t51,t52,t53,t54,t55,t56,t57,t58,t59,t60,t61,t62,t63,t64,t65,t66,t67,t68,t69,t70,t71,t72,t73,t74,t75,t76,t77,t78,u79,u80,u81,u82,u83,u84,u85,u86,u87,u88,u89,u90,u91,u92,u93,u94,u95,u96,u97,u98,u99,u100,u101,u102,u103,u104,u105,u106,u107,u108,u109,u110,t111,t112,t113,t114,t115,t116,t117,t118,t119,t120,t121,t122,t123,t124,t125,t126,t127,t128,t129,t130,t131,t132,t133,t134,t135,t136,t137,t138,t139,t140,t141,t142,t143,t144,t145,t146,t147,t148,t149,t150,t151,t152,t153],[]⟩ W9) :
  Code.wp Tryz.prog (regOf Tryz.f72 14) Q ⟨#[t0,t1,t2,.pointer (some ⟨w.heap.size,0,none⟩),t4,t5,t6,t7,t8,t9,t10,.func (.func 101) #[] #[.pointer (some ⟨gM,0,none⟩)],.pointer (some ⟨g,0,none⟩),.int .i64 k,.pointer (some ⟨gS,0,none⟩),t15,t16,t17,t18,t19,t20,t21,t22,t23,t24,t25,t26,t27,t28,t29,t30,t31,t32,t33,t34,t35,t36,t37,t38,t39,t40,t41,t42,t43,t44,t45,t46,t47,t48,t49,t50,t51,t52,t53,t54,t55,t56,t57,t58,t59,t60,t61,t62,t63,t64,t65,t66,t67,t68,t69,t70,t71,t72,t73,t74,t75,t76,t77,t78,t79,t80,t81,t82,t83,t84,t85,t86,t87,t88,t89,t90,t91,t92,t93,t94,t95,t96,t97,t98,t99,t100,t101,t102,t103,t104,t105,t106,t107,t108,t109,t110,t111,t112,t113,t114,t115,t116,t117,t118,t119,t120,t121,t122,t123,t124,t125,t126,t127,t128,t129,t130,t131,t132,t133,t134,t135,t136,t137,t138,t139,t140,t141,t142,t143,t144,t145,t146,t147,t148,t149,t150,t151,t152,t153],[]⟩ W:=by
 have HKK:=Lib.hid hK
 clear hK
 conv => arg 2;whnf
 subst hk
 obtain ⟨⟨LA,Lc⟩,hmL⟩:∃ x,m.m1.L = x:=⟨_,rfl⟩
 obtain ⟨nl,hnl⟩:∃ x,b.s1.lib.length = x:=⟨_,rfl⟩
 obtain ⟨⟨HA,Hc⟩,hmH⟩:∃ x,m.m1.H = x:=⟨_,rfl⟩
 obtain ⟨nh,hnh⟩:∃ x,b.s1.hand.length = x:=⟨_,rfl⟩
 obtain ⟨⟨FA,Fc⟩,hmF⟩:∃ x,m.m1.F = x:=⟨_,rfl⟩
 obtain ⟨nf,hnf⟩:∃ x,b.s1.fld.length = x:=⟨_,rfl⟩
 obtain ⟨⟨GA,Gc⟩,hmG⟩:∃ x,m.m1.G = x:=⟨_,rfl⟩
 obtain ⟨ng,hng⟩:∃ x,b.s1.grv.length = x:=⟨_,rfl⟩
 have hsx:=hsm.s1
 have hse:=hR.s1
 have HVS:Hid ((puOf b).v1 = vsOf b.objs b.s1):=Lib.hid rfl
 have HC:Hid (∀ W' (s:Sl) (ids:List Int) (n:Nat),VoC w cs gM gB nM f W' → LsR w s ids → (∀ i ∈ ids,∃ o ∈ b.objs,o.id = i) → ids.length ≤ 500 → ids.length = n → Calls Tryz.prog 101 #[.slice s.A n s.c,.pointer (some ⟨gM,0,none⟩)] W' (SobEnd b.objs ids W')):=Lib.hid (fun W' s ids n hc hl hall hn e => by
  rw [← e]
  exact allf_any b.objs f gM gB nM s ids W' hc.map ((hc.mbx.at_ 0).trans rfl) hc.mbx.lt (fun i hi => hf i (hall i hi)) (hl.below hc.bel) hn)
 obtain ⟨se,hseN⟩:∃ x,b.s1 = x:=⟨_,rfl⟩
 have hSc:Blk W gS 27 #[Value.int .i64 se.life,.int .i64 se.p0,.int .i64 se.p1,.int .i64 se.p2,.int .i64 se.p3,.slice LA nl Lc,.slice HA nh Hc,.slice FA nf Fc,.slice GA ng Gc,.bool se.emp,.bool se.ply,.bool se.kpt,.int .i64 se.mul,.int .i64 se.act]:=by
  have h:=hS
  simp only [Se.cells,Sl.v,hmL,hmH,hmF,hmG,hnl,hnh,hnf,hng] at h
  simp only [hseN] at h
  exact h
 rw [hseN] at hse hsx hnl hnh hnf hng HVS
 have HSX:=Lib.hid hsx
 have HSE:=Lib.hid hse
 have HV:=Lib.hid hV
 have HQ:=Lib.hid hQ
 have HN:=Lib.hid hN
 have HL01:=Lib.hid (And.intro l0 l1)
 have HG:=Lib.hid hG
 have HNE:=Lib.hid hne
 have HX9:=Lib.hid hX
 have HNN:=Lib.hid (And.intro hnl (And.intro hnh (And.intro hnf hng)))
 have HMM:=Lib.hid (And.intro hmF hmG)
 have HSC:=Lib.hid hSc
 have hne_:Nonempty (In (fun W' => Blk W' gS 27 #[Value.int .i64 se.life,.int .i64 se.p0,.int .i64 se.p1,.int .i64 se.p2,.int .i64 se.p3,.slice LA nl Lc,.slice HA nh Hc,.slice FA nf Fc,.slice GA ng Gc,.bool se.emp,.bool se.ply,.bool se.kpt,.int .i64 se.mul,.int .i64 se.act] ∧ Blk W' w.heap.size 33 cs)):=⟨⟨W,hSc,hV.box⟩⟩
 have hgS:=hSc.lt
 have hbx:=hV.box.lt
 have x0:∀ s:In (fun W' => Blk W' gS 27 #[Value.int .i64 se.life,.int .i64 se.p0,.int .i64 se.p1,.int .i64 se.p2,.int .i64 se.p3,.slice LA nl Lc,.slice HA nh Hc,.slice FA nf Fc,.slice GA ng Gc,.bool se.emp,.bool se.ply,.bool se.kpt,.int .i64 se.mul,.int .i64 se.act] ∧ Blk W' w.heap.size 33 cs),s.W.cell? ⟨gS,0,none⟩ = some (.int .i64 se.life):=fun s => (s.h.1.at_ 0).trans rfl
 have x1:∀ s:In (fun W' => Blk W' gS 27 #[Value.int .i64 se.life,.int .i64 se.p0,.int .i64 se.p1,.int .i64 se.p2,.int .i64 se.p3,.slice LA nl Lc,.slice HA nh Hc,.slice FA nf Fc,.slice GA ng Gc,.bool se.emp,.bool se.ply,.bool se.kpt,.int .i64 se.mul,.int .i64 se.act] ∧ Blk W' w.heap.size 33 cs),s.W.cell? ⟨gS,1,none⟩ = some (.int .i64 se.p0):=fun s => (s.h.1.at_ 1).trans rfl
 have x2:∀ s:In (fun W' => Blk W' gS 27 #[Value.int .i64 se.life,.int .i64 se.p0,.int .i64 se.p1,.int .i64 se.p2,.int .i64 se.p3,.slice LA nl Lc,.slice HA nh Hc,.slice FA nf Fc,.slice GA ng Gc,.bool se.emp,.bool se.ply,.bool se.kpt,.int .i64 se.mul,.int .i64 se.act] ∧ Blk W' w.heap.size 33 cs),s.W.cell? ⟨gS,2,none⟩ = some (.int .i64 se.p1):=fun s => (s.h.1.at_ 2).trans rfl
 have x3:∀ s:In (fun W' => Blk W' gS 27 #[Value.int .i64 se.life,.int .i64 se.p0,.int .i64 se.p1,.int .i64 se.p2,.int .i64 se.p3,.slice LA nl Lc,.slice HA nh Hc,.slice FA nf Fc,.slice GA ng Gc,.bool se.emp,.bool se.ply,.bool se.kpt,.int .i64 se.mul,.int .i64 se.act] ∧ Blk W' w.heap.size 33 cs),s.W.cell? ⟨gS,3,none⟩ = some (.int .i64 se.p2):=fun s => (s.h.1.at_ 3).trans rfl
 have x4:∀ s:In (fun W' => Blk W' gS 27 #[Value.int .i64 se.life,.int .i64 se.p0,.int .i64 se.p1,.int .i64 se.p2,.int .i64 se.p3,.slice LA nl Lc,.slice HA nh Hc,.slice FA nf Fc,.slice GA ng Gc,.bool se.emp,.bool se.ply,.bool se.kpt,.int .i64 se.mul,.int .i64 se.act] ∧ Blk W' w.heap.size 33 cs),s.W.cell? ⟨gS,4,none⟩ = some (.int .i64 se.p3):=fun s => (s.h.1.at_ 4).trans rfl
 have x5:∀ s:In (fun W' => Blk W' gS 27 #[Value.int .i64 se.life,.int .i64 se.p0,.int .i64 se.p1,.int .i64 se.p2,.int .i64 se.p3,.slice LA nl Lc,.slice HA nh Hc,.slice FA nf Fc,.slice GA ng Gc,.bool se.emp,.bool se.ply,.bool se.kpt,.int .i64 se.mul,.int .i64 se.act] ∧ Blk W' w.heap.size 33 cs),s.W.cell? ⟨gS,5,none⟩ = some (.slice LA nl Lc):=fun s => (s.h.1.at_ 5).trans rfl
 have x6:∀ s:In (fun W' => Blk W' gS 27 #[Value.int .i64 se.life,.int .i64 se.p0,.int .i64 se.p1,.int .i64 se.p2,.int .i64 se.p3,.slice LA nl Lc,.slice HA nh Hc,.slice FA nf Fc,.slice GA ng Gc,.bool se.emp,.bool se.ply,.bool se.kpt,.int .i64 se.mul,.int .i64 se.act] ∧ Blk W' w.heap.size 33 cs),s.W.cell? ⟨gS,6,none⟩ = some (.slice HA nh Hc):=fun s => (s.h.1.at_ 6).trans rfl
 have x7:∀ s:In (fun W' => Blk W' gS 27 #[Value.int .i64 se.life,.int .i64 se.p0,.int .i64 se.p1,.int .i64 se.p2,.int .i64 se.p3,.slice LA nl Lc,.slice HA nh Hc,.slice FA nf Fc,.slice GA ng Gc,.bool se.emp,.bool se.ply,.bool se.kpt,.int .i64 se.mul,.int .i64 se.act] ∧ Blk W' w.heap.size 33 cs),s.W.cell? ⟨gS,7,none⟩ = some (.slice FA nf Fc):=fun s => (s.h.1.at_ 7).trans rfl
 have x8:∀ s:In (fun W' => Blk W' gS 27 #[Value.int .i64 se.life,.int .i64 se.p0,.int .i64 se.p1,.int .i64 se.p2,.int .i64 se.p3,.slice LA nl Lc,.slice HA nh Hc,.slice FA nf Fc,.slice GA ng Gc,.bool se.emp,.bool se.ply,.bool se.kpt,.int .i64 se.mul,.int .i64 se.act] ∧ Blk W' w.heap.size 33 cs),s.W.cell? ⟨gS,8,none⟩ = some (.slice GA ng Gc):=fun s => (s.h.1.at_ 8).trans rfl
 have x9:∀ s:In (fun W' => Blk W' gS 27 #[Value.int .i64 se.life,.int .i64 se.p0,.int .i64 se.p1,.int .i64 se.p2,.int .i64 se.p3,.slice LA nl Lc,.slice HA nh Hc,.slice FA nf Fc,.slice GA ng Gc,.bool se.emp,.bool se.ply,.bool se.kpt,.int .i64 se.mul,.int .i64 se.act] ∧ Blk W' w.heap.size 33 cs),s.W.cell? ⟨gS,9,none⟩ = some (.bool se.emp):=fun s => (s.h.1.at_ 9).trans rfl
 have x10:∀ s:In (fun W' => Blk W' gS 27 #[Value.int .i64 se.life,.int .i64 se.p0,.int .i64 se.p1,.int .i64 se.p2,.int .i64 se.p3,.slice LA nl Lc,.slice HA nh Hc,.slice FA nf Fc,.slice GA ng Gc,.bool se.emp,.bool se.ply,.bool se.kpt,.int .i64 se.mul,.int .i64 se.act] ∧ Blk W' w.heap.size 33 cs),s.W.cell? ⟨gS,10,none⟩ = some (.bool se.ply):=fun s => (s.h.1.at_ 10).trans rfl
 have x11:∀ s:In (fun W' => Blk W' gS 27 #[Value.int .i64 se.life,.int .i64 se.p0,.int .i64 se.p1,.int .i64 se.p2,.int .i64 se.p3,.slice LA nl Lc,.slice HA nh Hc,.slice FA nf Fc,.slice GA ng Gc,.bool se.emp,.bool se.ply,.bool se.kpt,.int .i64 se.mul,.int .i64 se.act] ∧ Blk W' w.heap.size 33 cs),s.W.cell? ⟨gS,11,none⟩ = some (.bool se.kpt):=fun s => (s.h.1.at_ 11).trans rfl
 have x12:∀ s:In (fun W' => Blk W' gS 27 #[Value.int .i64 se.life,.int .i64 se.p0,.int .i64 se.p1,.int .i64 se.p2,.int .i64 se.p3,.slice LA nl Lc,.slice HA nh Hc,.slice FA nf Fc,.slice GA ng Gc,.bool se.emp,.bool se.ply,.bool se.kpt,.int .i64 se.mul,.int .i64 se.act] ∧ Blk W' w.heap.size 33 cs),s.W.cell? ⟨gS,12,none⟩ = some (.int .i64 se.mul):=fun s => (s.h.1.at_ 12).trans rfl
 have x13:∀ s:In (fun W' => Blk W' gS 27 #[Value.int .i64 se.life,.int .i64 se.p0,.int .i64 se.p1,.int .i64 se.p2,.int .i64 se.p3,.slice LA nl Lc,.slice HA nh Hc,.slice FA nf Fc,.slice GA ng Gc,.bool se.emp,.bool se.ply,.bool se.kpt,.int .i64 se.mul,.int .i64 se.act] ∧ Blk W' w.heap.size 33 cs),s.W.cell? ⟨gS,13,none⟩ = some (.int .i64 se.act):=fun s => (s.h.1.at_ 13).trans rfl
 clear hne hQ hcs hR hsm hf hV hS hSc hse hsx hmL hmH hmF hmG hnl hnh hnf hng hseN hN l0 l1 hG hX
 have HX0:=Lib.hid hX0
 clear hX0
 refine wp_region_sched (fun w' => ∃ s:In (fun W' => Blk W' gS 27 #[Value.int .i64 se.life,.int .i64 se.p0,.int .i64 se.p1,.int .i64 se.p2,.int .i64 se.p3,.slice LA nl Lc,.slice HA nh Hc,.slice FA nf Fc,.slice GA ng Gc,.bool se.emp,.bool se.ply,.bool se.kpt,.int .i64 se.mul,.int .i64 se.act] ∧ Blk W' w.heap.size 33 cs),w' = s.W) [0,1,2,3,4,5,6,7,8,9,10,11,12,13,15,16,17,19,20,21,22,23,24,25,26,27,28,30] (.one 14 [] (.one 18 [29,31] (.one 32 [] .done))) (by kernel_rfl) (by kernel_rfl) HQ.out ⟨⟨_,⟨HSC.out.drew,HV.out.box.drew⟩⟩,rfl⟩ ?_
 refine quiet_as (C':=(fun w' => ∃ s:In (fun W' => Blk W' gS 27 #[Value.int .i64 se.life,.int .i64 se.p0,.int .i64 se.p1,.int .i64 se.p2,.int .i64 se.p3,.slice LA nl Lc,.slice HA nh Hc,.slice FA nf Fc,.slice GA ng Gc,.bool se.emp,.bool se.ply,.bool se.kpt,.int .i64 se.mul,.int .i64 se.act] ∧ Blk W' w.heap.size 33 cs),w' = s.W)) rfl ?_
 simp only [opsAt,List.getElem?_toArray,List.getElem?_cons_succ,List.getElem?_cons_zero]
 repeat (go_big_quiet_step (fail))
 refine wpQuiet_nil ?_
 obtain ⟨W_d,hwd⟩:∃ v,W.drew = v:=⟨_,rfl⟩
 have HBW_1:Hid (Below w.heap.size w W_d):=Lib.hid (by rw [← hwd];exact (HV.out.bel).drew)
 have HBR_1:Hid (Below W.heap.size W W_d):=Lib.hid (by rw [← hwd];exact (Below.refl _ _).drew)
 have VC_1:=Lib.hid ((HV.out).below (show Below W.heap.size W W_d by rw [← hwd];exact (Below.refl _ _).drew))
 have SB_1:=Lib.hid ((HSC.out).call (show Below W.heap.size W W_d by rw [← hwd];exact (Below.refl _ _).drew))
 have GB_1:=Lib.hid ((HG.out).call (show Below W.heap.size W W_d by rw [← hwd];exact (Below.refl _ _).drew))
 have FX_1:=Lib.hid ((HX9.out).below (show Below W.heap.size W W_d by rw [← hwd];exact (Below.refl _ _).drew))
 have FV_1:=Lib.hid ((HX0.out).below (show Below W.heap.size W W_d by rw [← hwd];exact (Below.refl _ _).drew))
 rw [hwd]
 clear hwd
 refine eff_as (C':=(fun w' => ∃ s:In (fun W' => Blk W' gS 27 #[Value.int .i64 se.life,.int .i64 se.p0,.int .i64 se.p1,.int .i64 se.p2,.int .i64 se.p3,.slice LA nl Lc,.slice HA nh Hc,.slice FA nf Fc,.slice GA ng Gc,.bool se.emp,.bool se.ply,.bool se.kpt,.int .i64 se.mul,.int .i64 se.act] ∧ Blk W' w.heap.size 33 cs),w' = s.W)) rfl ?_
 (refine eff_lit rfl rfl (fun K hK => ?_))
 go_big_op
 refine (HC.out W_d ⟨FA,Fc⟩ se.fld nf VC_1.out (by have h:=HSE.out.F;rw [HMM.out.1] at h;exact h) HSX.out.Fi HSX.out.F HNN.out.2.2.1).mono ?_
 rintro e W_2 ⟨A1,e1,rfl,hx,hbW_2⟩
 have FF_3:=Lib.hid (hx.more HBW_1.out.size)
 have HBW_3:=Lib.hid (below_call HBW_1.out hbW_2 HBW_1.out.size)
 clear HBW_1
 have HBR_3:=Lib.hid (below_call HBR_1.out hbW_2 HBR_1.out.size)
 clear HBR_1
 have VC_3:=Lib.hid (VC_1.out.below hbW_2)
 clear VC_1
 have SB_3:=Lib.hid (SB_1.out.call hbW_2)
 clear SB_1
 have GB_3:=Lib.hid (GB_1.out.call hbW_2)
 clear GB_1
 have FX_3:=Lib.hid (FX_1.out.below hbW_2)
 clear FX_1
 have FV_3:=Lib.hid (FV_1.out.below hbW_2)
 clear FV_1
 clear hbW_2
 clear hx
 refine hK _ _ ⟨⟨_,⟨SB_3.out,VC_3.out.box⟩⟩,rfl⟩ ?_
 clear hK K
 try simp only [opsAt,List.getElem?_toArray,List.getElem?_cons_succ,List.getElem?_cons_zero]
 refine wpQuiet_nil ?_
 refine eff_as (C':=(fun w' => ∃ s:In (fun W' => Blk W' gS 27 #[Value.int .i64 se.life,.int .i64 se.p0,.int .i64 se.p1,.int .i64 se.p2,.int .i64 se.p3,.slice LA nl Lc,.slice HA nh Hc,.slice FA nf Fc,.slice GA ng Gc,.bool se.emp,.bool se.ply,.bool se.kpt,.int .i64 se.mul,.int .i64 se.act] ∧ Blk W' w.heap.size 33 cs),w' = s.W)) rfl ?_
 (refine eff_lit rfl rfl (fun K hK => ?_))
 go_big_op
 refine (HC.out W_2 ⟨GA,Gc⟩ se.grv ng VC_3.out (by have h:=HSE.out.G;rw [HMM.out.2] at h;exact h) HSX.out.Gi HSX.out.G HNN.out.2.2.2).mono ?_
 rintro e W_4 ⟨A2,e2,rfl,hx,hbW_4⟩
 have FG_5:=Lib.hid (hx.more HBW_3.out.size)
 have HBW_5:=Lib.hid (below_call HBW_3.out hbW_4 HBW_3.out.size)
 clear HBW_3
 have HBR_5:=Lib.hid (below_call HBR_3.out hbW_4 HBR_3.out.size)
 clear HBR_3
 have VC_5:=Lib.hid (VC_3.out.below hbW_4)
 clear VC_3
 have SB_5:=Lib.hid (SB_3.out.call hbW_4)
 clear SB_3
 have GB_5:=Lib.hid (GB_3.out.call hbW_4)
 clear GB_3
 have FX_5:=Lib.hid (FX_3.out.below hbW_4)
 clear FX_3
 have FV_5:=Lib.hid (FV_3.out.below hbW_4)
 clear FV_3
 have FF_5:=Lib.hid (FF_3.out.below hbW_4)
 clear FF_3
 clear hbW_4
 clear hx
 refine hK _ _ ⟨⟨_,⟨SB_5.out,VC_5.out.box⟩⟩,rfl⟩ ?_
 clear hK K
 try simp only [opsAt,List.getElem?_toArray,List.getElem?_cons_succ,List.getElem?_cons_zero]
 repeat (go_big_quiet_step (fail))
 refine wpQuiet_nil ?_
 refine eff_as (C':=(fun w' => ∃ s:In (fun W' => Blk W' gS 27 #[Value.int .i64 se.life,.int .i64 se.p0,.int .i64 se.p1,.int .i64 se.p2,.int .i64 se.p3,.slice LA nl Lc,.slice HA nh Hc,.slice FA nf Fc,.slice GA ng Gc,.bool se.emp,.bool se.ply,.bool se.kpt,.int .i64 se.mul,.int .i64 se.act] ∧ Blk W' w.heap.size 33 cs),w' = s.W)) rfl ?_
 (refine eff_lit rfl rfl (fun K hK => ?_))
 obtain ⟨W_6,hrun,hk9,hg9⟩:=GB_5.out.storeMid (ty:=95) 15 [Value.int .i64 se.life,.int .i64 se.p0,.int .i64 se.p1,.int .i64 se.p2,.int .i64 se.p3,.int .i64 nl,.int .i64 nh,.slice A1 se.fld.length e1,.slice A2 se.grv.length e2,.bool se.emp,.bool se.ply,.bool se.kpt,.int .i64 se.mul,.int .i64 se.act] (by rw [vwc_len _ _ _ _ _ HL01.out.1 HL01.out.2];simp;omega) (by rw [size_vseat];rfl) (by simp [Value.oneCell'])
 refine wp_store_by hrun rfl rfl rfl ?_
 simp only [Act.put,List.setIfInBounds_toArray,List.set_cons_succ,List.set_cons_zero]
 clear hrun
 rw [vwc_set1 _ _ _ _ _ _ HL01.out.1 HL01.out.2 rfl] at hk9
 have hN9:=HN.out
 have HBW_7:=Lib.hid (HBW_5.out.grown hg9 HBW_5.out.size (fun q hq => by injection hq with hq;omega))
 clear HBW_5
 have VC_7:=Lib.hid (VC_5.out.store hg9 hN9.1 hN9.2.1 hN9.2.2)
 clear VC_5
 have SB_7:=Lib.hid (SB_5.out.grown hg9 (fun e => by injection e with e;exact HNE.out e))
 clear SB_5
 have FX_7:=Lib.hid (FX_5.out.blk_ GB_5.out hg9 (by decide))
 clear FX_5
 have FV_7:=Lib.hid (FV_5.out.blk GB_5.out hg9 off_view)
 clear FV_5
 have FF_7:=Lib.hid (FF_5.out.blk_ GB_5.out hg9 (by decide))
 clear FF_5
 have FG_7:=Lib.hid (FG_5.out.blk_ GB_5.out hg9 (by decide))
 clear FG_5
 have HK9:=Lib.hid hk9
 clear hk9 hg9 hN9
 refine hK _ _ ⟨⟨_,⟨SB_7.out,VC_7.out.box⟩⟩,rfl⟩ ?_
 clear hK K
 try simp only [opsAt,List.getElem?_toArray,List.getElem?_cons_succ,List.getElem?_cons_zero]
 refine wpQuiet_nil ?_
 refine effs_done ?_
 have hl2:((puOf b).v1.cells ⟨⟨A1,e1⟩,⟨A2,e2⟩⟩) = [Value.int .i64 se.life,.int .i64 se.p0,.int .i64 se.p1,.int .i64 se.p2,.int .i64 se.p3,.int .i64 nl,.int .i64 nh,.slice A1 se.fld.length e1,.slice A2 se.grv.length e2,.bool se.emp,.bool se.ply,.bool se.kpt,.int .i64 se.mul,.int .i64 se.act]:=by
  rw [HVS.out]
  simp only [vsOf,Vs.cells,Sl.v,List.length_map]
  rw [HNN.out.1,HNN.out.2.1]
 rw [← hl2] at HK9
 refine HKK.out _ _ _ _ _ _ _ _ _ _ _ _ _ _ _ _ _ _ _ _ _ _ _ _ _ _ _ _ _ _ _ _ ⟨⟨A1,e1⟩,⟨A2,e2⟩⟩ _ ⟨?_,HK9.out,VC_7.out,FX_7.out,FV_7.out⟩
 rw [HVS.out]
 refine ⟨?_,?_⟩
 ·show XOwns _ _ _ _ _ (se.fld.map (obI b.objs)).length _ _
  rw [List.length_map]
  exact FF_7.out
 ·show XOwns _ _ _ _ _ (se.grv.map (obI b.objs)).length _ _
  rw [List.length_map]
  exact FG_7.out

end Go.Proofs.YtagpphelgghbpaaGreat
