/-
  Texts: Bnw, Bnn, Lit.
-/
import Derived.Test.YtagpphelgghbpaaGreatMk15
import Derived.Test.YtagpphelgghbpaaGreatMk13
set_option linter.unusedSimpArgs false
set_option linter.unusedVariables false
namespace Go.Proofs.YtagpphelgghbpaaGreat
open Go.RowKit

def newObs (d0 d1:List Int):List Ob:=(d0 ++ d1).mapIdx fun i c => ⟨i + 1,c,if i < d0.length then 0 else 1,0,0,0,0,0,0,false,false,false⟩
def idsF (a b:Nat):List Int:=(List.range (b - a)).map fun i => ((a + i + 1:Nat):Int)
def zse:Se:=⟨0,0,0,0,0,[],[],[],[],false,false,false,0,0⟩
def nbS (life l1:Int) (d0 d1:List Int) (q:Nat):Bd:=⟨(newObs d0 d1).take q,{ zse with life:=life,lib:=idsF 0 (min q d0.length) },{ zse with life:=l1,lib:=idsF d0.length (max q d0.length) },[],[],[],[],0,0,0,-1,0⟩
theorem newObs_len (d0 d1:List Int):(newObs d0 d1).length = d0.length + d1.length:=by unfold newObs;simp
theorem idsF_snoc {a b:Nat} (h:a ≤ b):idsF a (b + 1) = idsF a b ++ [((b + 1:Nat):Int)]:=by
 unfold idsF
 rw [show b + 1 - a = (b - a) + 1 by omega,List.range_succ,List.map_append,List.map_cons,List.map_nil,show a + (b - a) + 1 = b + 1 by omega]
theorem newObs_at {d0 d1:List Int} {q:Nat} {c:Int} (h:(d0 ++ d1)[q]? = some c):(newObs d0 d1)[q]? = some ⟨(q:Int) + 1,c,if q < d0.length then 0 else 1,0,0,0,0,0,0,false,false,false⟩:=by
 unfold newObs
 rw [List.getElem?_mapIdx,h]
 rfl
set_option maxRecDepth 100000 in
set_option maxHeartbeats 3200000 in
theorem nw_obj (w W:World) (g:Nat) (b:Bd) (m:BdM) (id c p:Int) (hB:Below w.heap.size w W) (hg:w.heap.size ≤ g) (hP:Blk W g 33 (b.cells m).toArray) (hO:XOwns W w.heap.size 46 12 m.O.A b.objs.length m.O.c (ocs b.objs)) (hn:b.objs.length ≤ 100000) (Q:Exit → Act → World → Prop) (t0 t1 t2 t3 t4 t5 t8 t9 t10 t13 t14 t15 t16 t17 t18 t19 t20 t21 t22 t23 t24 t25 t26 t27 t28 t29 t30 t31 t32 t33 t34 t35 t36 t37 t38 t39 t40 t41 t42 t43 t44 t45 t46 t47 t48 t49 t50 t51 t52 t53 t54 t55 t56 t57 t58 t59 t60 t61 t62 t63 t64 t65 t66 t67 t68 t69 t70 t71 t72 t73 t74 t75:Value)
  (hQ:∀ d v c a w,Q (.panic c) (Act.put a d v) w → Q (.panic c) a w)
  (hK:∀ (u54 u55 u56 u57 u58 u59 u60 u61 u62:Value) (s:Sl) (W9:World),Blk W9 g 33 (Bd.cells { b with objs:=b.objs ++ [(⟨id,c,p,0,0,0,0,0,0,false,false,false⟩:Ob)] } { m with O:=s }).toArray ∧ XOwns W9 w.heap.size 46 12 s.A (b.objs ++ [(⟨id,c,p,0,0,0,0,0,0,false,false,false⟩:Ob)]).length s.c (ocs (b.objs ++ [(⟨id,c,p,0,0,0,0,0,0,false,false,false⟩:Ob)])) ∧ (∀ (A:Option Addr) (n c:Nat) (xs:List Value),XOwns W w.heap.size 3 1 A n c xs → XOwns W9 w.heap.size 3 1 A n c xs) ∧ (∀ (k t:Nat) (cs:Array Value),t ≠ 46 → k ≠ g → Blk W k t cs → Blk W9 k t cs) ∧ Below w.heap.size w W9 ∧ W.heap.size ≤ W9.heap.size → Q .normal ⟨#[t0,t1,t2,t3,t4,t5,.pointer (some ⟨g,0,none⟩),.int .i64 p,t8,t9,t10,.int .i64 c,.int .i64 id,t13,t14,t15,t16,t17,t18,t19,t20,t21,t22,t23,t24,t25,t26,t27,t28,t29,t30,t31,t32,t33,t34,t35,t36,t37,t38,t39,t40,t41,t42,t43,t44,t45,t46,t47,t48,t49,t50,t51,t52,t53,u54,u55,u56,u57,u58,u59,u60,u61,u62,t63,t64,t65,t66,t67,t68,t69,t70,t71,t72,t73,t74,t75],[]⟩ W9) :
  Code.wp Tryz.prog (regOf Tryz.f19 15) Q ⟨#[t0,t1,t2,t3,t4,t5,.pointer (some ⟨g,0,none⟩),.int .i64 p,t8,t9,t10,.int .i64 c,.int .i64 id,t13,t14,t15,t16,t17,t18,t19,t20,t21,t22,t23,t24,t25,t26,t27,t28,t29,t30,t31,t32,t33,t34,t35,t36,t37,t38,t39,t40,t41,t42,t43,t44,t45,t46,t47,t48,t49,t50,t51,t52,t53,t54,t55,t56,t57,t58,t59,t60,t61,t62,t63,t64,t65,t66,t67,t68,t69,t70,t71,t72,t73,t74,t75],[]⟩ W:=by
 have HKK:=Lib.hid hK
 clear hK
 conv => arg 2;whnf
 obtain ⟨⟨OA,Oc⟩,hmO⟩:∃ x,m.O = x:=⟨_,rfl⟩
 obtain ⟨no,hno⟩:∃ x,b.objs.length = x:=⟨_,rfl⟩
 rw [hmO,hno] at hO
 rw [hno] at hn
 have HNO:=Lib.hid hno
 have HMO:=Lib.hid hmO
 have HB:=Lib.hid hB
 have HG:=Lib.hid hg
 have HP:=Lib.hid hP
 have HO:=Lib.hid hO
 have HQ:=Lib.hid hQ
 have hne_:Nonempty (In (fun W' => Blk W' g 33 (b.cells m).toArray)):=⟨⟨W,hP⟩⟩
 have x0:∀ s:In (fun W' => Blk W' g 33 (b.cells m).toArray),s.W.cell? ⟨g,0,none⟩ = some (.slice OA no Oc):=fun s => (s.h.at_ 0).trans (by show some (m.O.v b.objs.length) = _;rw [hmO,hno];rfl)
 have hgl:=hP.lt
 clear hno hmO hB hg hP hO hQ
 have hneT:Nonempty (In (fun _ => True)):=⟨⟨W,trivial⟩⟩
 refine wp_region_late2 (Ph (fun w' => ∃ s:In (fun W' => Blk W' g 33 (b.cells m).toArray),w' = s.W) (fun w' => ∃ s:In (fun _ => True),w' = s.W)) (fun w' => ∃ s:In (fun _ => True),w' = s.W) (fun w => ⟨⟨w,trivial⟩,rfl⟩) [9] [0,2,3,4] [1] (.one 5 [] (.one 6 [] (.one 7 [8] (.one 9 [] .done)))) (by kernel_rfl) (by kernel_rfl) HQ.out ⟨⟨_,HP.out.drew⟩,rfl⟩ ?_
 refine quiet_as (C':=(fun w' => ∃ s:In (fun _ => True),w' = s.W)) rfl ?_
 simp only [opsAt,List.getElem?_toArray,List.getElem?_cons_succ,List.getElem?_cons_zero]
 repeat (go_big_quiet_step (fail))
 refine wpQuiet_nil ?_
 refine quiet_as (C':=(fun w' => ∃ s:In (fun W' => Blk W' g 33 (b.cells m).toArray),w' = s.W)) rfl ?_
 try simp only [opsAt,List.getElem?_toArray,List.getElem?_cons_succ,List.getElem?_cons_zero]
 repeat (go_big_quiet_step (fail))
 refine wpQuiet_nil ?_
 obtain ⟨W_d,hwd⟩:∃ v,W.drew = v:=⟨_,rfl⟩
 have HBW_1:Hid (Below w.heap.size w W_d):=Lib.hid (by rw [← hwd];exact (HB.out).drew)
 have HBR_1:Hid (Below W.heap.size W W_d):=Lib.hid (by rw [← hwd];exact (Below.refl _ _).drew)
 have PB_1:=Lib.hid ((HP.out).call (show Below W.heap.size W W_d by rw [← hwd];exact (Below.refl _ _).drew))
 have FO_1:=Lib.hid ((HO.out).below (show Below W.heap.size W W_d by rw [← hwd];exact (Below.refl _ _).drew))
 rw [hwd]
 clear hwd
 have FI_0:Hid (∀ (A:Option Addr) (n c:Nat) (xs:List Value),XOwns W w.heap.size 3 1 A n c xs → XOwns W_d w.heap.size 3 1 A n c xs):=Lib.hid (fun A n c xs h => h.below HBR_1.out)
 have FB_0:Hid (∀ (k t:Nat) (cs:Array Value),t ≠ 46 → k ≠ g → Blk W k t cs → Blk W_d k t cs):=Lib.hid (fun k t cs h1 h2 h => h.call HBR_1.out)
 have FZ_0:Hid (W.heap.size ≤ W_d.heap.size):=Lib.hid HBR_1.out.size
 refine eff_as (C':=(fun w' => ∃ s:In (fun W' => Blk W' g 33 (b.cells m).toArray),w' = s.W)) rfl ?_
 (refine eff_lit rfl rfl (fun K hK => ?_))
 go_big_op
 refine ((show Calls Tryz.prog 50 #[.int .i64 id,.int .i64 c,.int .i64 p] W_d (fun e w' => e = .returned (.agg #[Value.int .i64 id,.int .i64 c,.int .i64 p,.int .i64 0,.int .i64 0,.int .i64 0,.int .i64 0,.int .i64 0,.int .i64 0,.bool false,.bool false,.bool false]) ∧ Below W_d.heap.size W_d w') from onew_any id c p W_d)).mono ?_
 rintro e W_2 ⟨rfl,hbW_2⟩
 have FI_3:Hid (∀ (A:Option Addr) (n c:Nat) (xs:List Value),XOwns W w.heap.size 3 1 A n c xs → XOwns W_2 w.heap.size 3 1 A n c xs):=Lib.hid (fun A n c xs h => (FI_0.out A n c xs h).below hbW_2)
 have FB_3:Hid (∀ (k t:Nat) (cs:Array Value),t ≠ 46 → k ≠ g → Blk W k t cs → Blk W_2 k t cs):=Lib.hid (fun k t cs h1 h2 h => (FB_0.out k t cs h1 h2 h).call hbW_2)
 have FZ_3:=Lib.hid (Nat.le_trans FZ_0.out hbW_2.size)
 have HBW_4:=Lib.hid (below_call HBW_1.out hbW_2 HBW_1.out.size)
 clear HBW_1
 have HBR_4:=Lib.hid (below_call HBR_1.out hbW_2 HBR_1.out.size)
 clear HBR_1
 have PB_4:=Lib.hid (PB_1.out.call hbW_2)
 clear PB_1
 have FO_4:=Lib.hid (FO_1.out.below hbW_2)
 clear FO_1
 clear hbW_2
 refine hK _ _ ⟨⟨_,PB_4.out⟩,rfl⟩ ?_
 clear hK K
 try simp only [opsAt,List.getElem?_toArray,List.getElem?_cons_succ,List.getElem?_cons_zero]
 refine wpQuiet_nil ?_
 refine eff_as (C':=(fun w' => ∃ s:In (fun W' => Blk W' g 33 (b.cells m).toArray),w' = s.W)) rfl ?_
 (refine eff_lit rfl rfl (fun K hK => ?_))
 go_big_op
 obtain ⟨W_5,hvW_5⟩:∃ v,(W_2.alloc (.cells #[Value.int .i64 id,.int .i64 c,.int .i64 p,.int .i64 0,.int .i64 0,.int .i64 0,.int .i64 0,.int .i64 0,.int .i64 0,.bool false,.bool false,.bool false] 46)) = v:=⟨_,rfl⟩
 have hbW_5:Below W_2.heap.size W_2 W_5:=by rw [← hvW_5];exact (Below.refl _ _).alloc (Nat.le_refl _) _
 obtain ⟨gL,hggL⟩:∃ v,W_2.heap.size = v:=⟨_,rfl⟩
 have hkW_5:Blk W_5 gL 46 #[Value.int .i64 id,.int .i64 c,.int .i64 p,.int .i64 0,.int .i64 0,.int .i64 0,.int .i64 0,.int .i64 0,.int .i64 0,.bool false,.bool false,.bool false]:=by rw [← hvW_5];exact Blk.mk_ _ _ _ _ hggL
 have HNgL:Hid (W.heap.size ≤ gL ∧ w.heap.size ≤ gL):=Lib.hid ⟨by rw [← hggL];exact HBR_4.out.size,by rw [← hggL];exact HBW_4.out.size⟩
 rw [hvW_5,hggL]
 have FI_6:Hid (∀ (A:Option Addr) (n c:Nat) (xs:List Value),XOwns W w.heap.size 3 1 A n c xs → XOwns W_5 w.heap.size 3 1 A n c xs):=Lib.hid (fun A n c xs h => (FI_3.out A n c xs h).below hbW_5)
 have FB_6:Hid (∀ (k t:Nat) (cs:Array Value),t ≠ 46 → k ≠ g → Blk W k t cs → Blk W_5 k t cs):=Lib.hid (fun k t cs h1 h2 h => (FB_3.out k t cs h1 h2 h).call hbW_5)
 have FZ_6:=Lib.hid (Nat.le_trans FZ_3.out hbW_5.size)
 have LT_7:=Lib.hid (hkW_5)
 have HBW_7:=Lib.hid (below_call HBW_4.out hbW_5 HBW_4.out.size)
 clear HBW_4
 have HBR_7:=Lib.hid (below_call HBR_4.out hbW_5 HBR_4.out.size)
 clear HBR_4
 have PB_7:=Lib.hid (PB_4.out.call hbW_5)
 clear PB_4
 have FO_7:=Lib.hid (FO_4.out.below hbW_5)
 clear FO_4
 clear hkW_5 hvW_5 hggL hbW_5
 refine hK _ _ ⟨⟨_,PB_7.out⟩,rfl⟩ ?_
 clear hK K
 try simp only [opsAt,List.getElem?_toArray,List.getElem?_cons_succ,List.getElem?_cons_zero]
 refine wpQuiet_nil ?_
 refine eff_as (C':=(fun w' => ∃ s:In (fun W' => Blk W' g 33 (b.cells m).toArray),w' = s.W)) rfl ?_
 (refine eff_lit rfl rfl (fun K hK => ?_))
 refine append_x_op (w:=W_5) (.tmp 55) (.tmp 60) 22 rfl w.heap.size 46 _ 12 80 tinfo_objs Tryz.underlying22 rfl (by decide) OA no Oc (ocs b.objs) rfl FO_7.out (some ⟨gL,0,none⟩) 1 1 (ocs [(⟨id,c,p,0,0,0,0,0,0,false,false,false⟩:Ob)]) rfl (reads_block LT_7.out 12 1 rfl) (one_ocs _) (by decide) (by omega) (by omega) HBW_7.out.size _ rfl ?_
 intro g8 c8 W_8 ho8 hg8 hi8 hl8
 simp only [Act.put,List.setIfInBounds_toArray,List.set_cons_succ,List.set_cons_zero]
 have hoo:=FO_7.out
 have hpp:=PB_7.out
 have HBW_9:=Lib.hid (HBW_7.out.grown hg8 HBW_7.out.size (fun q hq => (hoo.lt q hq).1))
 have PB_9:=Lib.hid (hpp.grown hg8 (fun e => hoo.apart_blk hpp (by decide) e.symm))
 have FI_9:Hid (∀ (A:Option Addr) (n c:Nat) (xs:List Value),XOwns W w.heap.size 3 1 A n c xs → XOwns W_8 w.heap.size 3 1 A n c xs):=Lib.hid (fun A n c xs h => (FI_6.out A n c xs h).grown hg8 ((FI_6.out A n c xs h).apart hoo (by decide)))
 have FB_9:Hid (∀ (k t:Nat) (cs:Array Value),t ≠ 46 → k ≠ g → Blk W k t cs → Blk W_8 k t cs):=Lib.hid (fun k t cs h1 h2 h => (FB_6.out k t cs h1 h2 h).grown hg8 (fun e => hoo.apart_blk (FB_6.out k t cs h1 h2 h) (fun e => h1 e.symm) e.symm))
 have FN_9:=Lib.hid ho8
 have FZ_9:=Lib.hid (Nat.le_trans FZ_6.out hg8.size)
 clear ho8 hg8 hi8 hl8 hoo hpp
 refine hK _ _ ⟨⟨_,PB_9.out⟩,rfl⟩ ?_
 clear hK K
 try simp only [opsAt,List.getElem?_toArray,List.getElem?_cons_succ,List.getElem?_cons_zero]
 repeat (go_big_quiet_step (fail))
 refine wpQuiet_nil ?_
 refine eff_as (C':=(fun w' => ∃ s:In (fun _ => True),w' = s.W)) rfl ?_
 (refine eff_lit rfl rfl (fun K hK => ?_))
 have q9:=(PB_9.out.at_ 0).trans rfl
 have f9:=PB_9.out.free 0
 have l9:=PB_9.out.lt
 go_big_op
 obtain ⟨W_10,hv9⟩:∃ v,W_8.setCell ⟨g,0,none⟩ (.slice (some ⟨g8,0,none⟩) (no + 1) c8) = v:=⟨_,rfl⟩
 have hg9:W_8.grownBy W_10 (some g):=by rw [← hv9];exact only_setCell (only_refl _ _) (.inl rfl) _
 have hk9:=PB_9.out.put 0 (.slice (some ⟨g8,0,none⟩) (no + 1) c8)
 rw [hv9] at hk9
 rw [hv9]
 clear q9 f9 l9 hv9
 have hG9:=HG.out
 have hpp:=PB_9.out
 have HE9:Hid (XOwns W_10 w.heap.size 46 12 (some ⟨g8,0,none⟩) (no + 1) c8 (ocs b.objs ++ ocs [(⟨id,c,p,0,0,0,0,0,0,false,false,false⟩:Ob)]) ∧ (∀ (A:Option Addr) (n c:Nat) (xs:List Value),XOwns W w.heap.size 3 1 A n c xs → XOwns W_10 w.heap.size 3 1 A n c xs) ∧ (∀ (k t:Nat) (cs:Array Value),t ≠ 46 → k ≠ g → Blk W k t cs → Blk W_10 k t cs) ∧ Below w.heap.size w W_10 ∧ W.heap.size ≤ W_10.heap.size):=Lib.hid ⟨FN_9.out.blk_ hpp hg9 (by decide),fun A n c xs h => (FI_9.out A n c xs h).blk_ hpp hg9 (by decide),fun k t cs h1 h2 h => (FB_9.out k t cs h1 h2 h).grown hg9 (fun e => by injection e with e;exact h2 e),HBW_9.out.grown hg9 HBW_9.out.size (fun q hq => by injection hq with hq;omega),Nat.le_trans FZ_9.out hg9.size⟩
 have HK9:=Lib.hid hk9
 clear hk9 hg9 hG9 hpp
 refine hK _ _ ⟨⟨_,trivial⟩,rfl⟩ ?_
 clear hK K
 try simp only [opsAt,List.getElem?_toArray,List.getElem?_cons_succ,List.getElem?_cons_zero]
 refine wpQuiet_nil ?_
 refine effs_done ?_
 have hPC:(b.cells m).toArray.setIfInBounds 0 (.slice (some ⟨g8,0,none⟩) (no + 1) c8) = (Bd.cells { b with objs:=b.objs ++ [(⟨id,c,p,0,0,0,0,0,0,false,false,false⟩:Ob)] } { m with O:=⟨some ⟨g8,0,none⟩,c8⟩ }).toArray:=by
  simp only [Bd.cells,Sl.v,List.setIfInBounds_toArray,List.set_cons_zero,List.length_append,List.length_cons,List.length_nil]
  rw [HNO.out]
 have hk9:=HK9.out
 rw [hPC] at hk9
 refine HKK.out _ _ _ _ _ _ _ _ _ ⟨some ⟨g8,0,none⟩,c8⟩ _ ⟨hk9,?_,HE9.out.2⟩
 show XOwns _ _ _ _ _ (b.objs ++ [_]).length _ _
 rw [List.length_append,HNO.out,show ocs (b.objs ++ [(⟨id,c,p,0,0,0,0,0,0,false,false,false⟩:Ob)]) = ocs b.objs ++ ocs [(⟨id,c,p,0,0,0,0,0,0,false,false,false⟩:Ob)] by simp [ocs]]
 exact HE9.out.1

def Bd.seti (b:Bd) (q:Nat) (l:List Int):Bd:=match q with
 | 0 => { b with s0:={ b.s0 with lib:=l } }
 | 1 => { b with s0:={ b.s0 with hand:=l } }
 | 2 => { b with s0:={ b.s0 with fld:=l } }
 | 3 => { b with s0:={ b.s0 with grv:=l } }
 | 4 => { b with s1:={ b.s1 with lib:=l } }
 | 5 => { b with s1:={ b.s1 with hand:=l } }
 | 6 => { b with s1:={ b.s1 with fld:=l } }
 | 7 => { b with s1:={ b.s1 with grv:=l } }
 | _ => { b with att:=l }
theorem li_same (b:Bd) (l:List Int) {k:Nat} (hk:k < 8):(b.seti k l).li k = l:=by
 rcases (show k = 0 ∨ k = 1 ∨ k = 2 ∨ k = 3 ∨ k = 4 ∨ k = 5 ∨ k = 6 ∨ k = 7 by omega) with rfl | rfl | rfl | rfl | rfl | rfl | rfl | rfl <;> rfl
theorem li_other (b:Bd) (l:List Int) {k q:Nat} (hk:k < 8) (hne:q ≠ k):(b.seti k l).li q = b.li q:=by
 rcases (show k = 0 ∨ k = 1 ∨ k = 2 ∨ k = 3 ∨ k = 4 ∨ k = 5 ∨ k = 6 ∨ k = 7 by omega) with rfl | rfl | rfl | rfl | rfl | rfl | rfl | rfl <;> rcases q with _ | _ | _ | _ | _ | _ | _ | _ | q <;> first | rfl | exact absurd rfl hne
theorem seti_rest (b:Bd) (l:List Int) {k:Nat} (hk:k < 8):(b.seti k l).objs = b.objs ∧ (b.seti k l).stk = b.stk ∧ (b.seti k l).que = b.que ∧ (b.seti k l).att = b.att ∧ (b.seti k l).blk = b.blk:=by
 rcases (show k = 0 ∨ k = 1 ∨ k = 2 ∨ k = 3 ∨ k = 4 ∨ k = 5 ∨ k = 6 ∨ k = 7 by omega) with rfl | rfl | rfl | rfl | rfl | rfl | rfl | rfl <;> exact ⟨rfl,rfl,rfl,rfl,rfl⟩
theorem cells_seti (b:Bd) (m:BdM) (s:Sl) (l:List Int) {k:Nat} (hk:k < 8):(b.cells m).toArray.setIfInBounds (offL k) (s.v l.length) = ((b.seti k l).cells (m.set k s)).toArray:=by
 rcases (show k = 0 ∨ k = 1 ∨ k = 2 ∨ k = 3 ∨ k = 4 ∨ k = 5 ∨ k = 6 ∨ k = 7 by omega) with rfl | rfl | rfl | rfl | rfl | rfl | rfl | rfl <;> (simp only [Bd.cells,Se.cells,List.cons_append,List.nil_append,offL,Nat.reduceLT,if_true,if_false,Nat.reduceAdd,List.setIfInBounds_toArray,List.set_cons_succ,List.set_cons_zero];rfl)
theorem sl_O (m:BdM) (s:Sl) (q:Nat):({ m with O:=s }:BdM).sl q = m.sl q:=by rcases q with _ | _ | _ | _ | _ | _ | _ | _ | q <;> rfl
theorem li_O (b:Bd) (l:List Ob) (q:Nat):({ b with objs:=l }:Bd).li q = b.li q:=by rcases q with _ | _ | _ | _ | _ | _ | _ | _ | q <;> rfl
theorem ints_app {W W':World} {B:Nat} {b:Bd} {m:BdM} {k:Nat} {l':List Int} {g8 c8:Nat} (hk:k < 8) (hl:∀ q,q < 9 → XOwns W B 3 1 (m.sl q).A (b.li q).length (m.sl q).c (ics (b.li q))) (hap:∀ q r,q < 9 → r < 9 → q ≠ r → Apart (m.sl q) (m.sl r))
  (hg:W.grownBy W' (blkOf (m.sl k).A)) (hi:blkOf (m.sl k).A = some g8 ∨ W.heap.size ≤ g8) (ho:XOwns W' B 3 1 (some ⟨g8,0,none⟩) l'.length c8 (ics l')) :
  (∀ q,q < 9 → XOwns W' B 3 1 ((m.set k ⟨some ⟨g8,0,none⟩,c8⟩).sl q).A ((b.seti k l').li q).length ((m.set k ⟨some ⟨g8,0,none⟩,c8⟩).sl q).c (ics ((b.seti k l').li q))) ∧ (∀ q r,q < 9 → r < 9 → q ≠ r → Apart ((m.set k ⟨some ⟨g8,0,none⟩,c8⟩).sl q) ((m.set k ⟨some ⟨g8,0,none⟩,c8⟩).sl r)):=by
 have hne8:∀ r,r < 9 → r ≠ k → blkOf (m.sl r).A ≠ some g8:=fun r hr hrk he => by
  rcases hi with h1 | h1
  ·rcases hap r k hr (by omega) hrk with h2 | h2
   ·rw [h2] at he;cases he
   ·exact h2 (by rw [he,h1])
  ·have:=((hl r hr).lt g8 he).2
   omega
 refine ⟨fun q hq => ?_,fun q r hq hr hqr => ?_⟩
 ·by_cases e:q = k
  ·subst e
   rw [sl_same _ _ hk,li_same _ _ hk]
   exact ho
  ·rw [sl_other _ _ hk e,li_other _ _ hk e]
   exact (hl q hq).grown hg (hap q k hq (by omega) e)
 ·by_cases e:q = k
  ·subst e
   rw [sl_same _ _ hk,sl_other _ _ hk (fun h => hqr h.symm)]
   exact .inr (fun h => hne8 r hr (fun h => hqr h.symm) h.symm)
  ·by_cases e':r = k
   ·subst e'
    rw [sl_same _ _ hk,sl_other _ _ hk e]
    exact .inr (hne8 q hq e)
   ·rw [sl_other _ _ hk e,sl_other _ _ hk e']
    exact hap q r hq hr hqr
structure NwS (w:World) (b:Bd) (m:BdM) (g:Nat) (DA EA:Option Addr) (n0 Dc n1 Ec:Nat) (W:World):Prop where
 P:Blk W g 33 (b.cells m).toArray
 O:XOwns W w.heap.size 46 12 m.O.A b.objs.length m.O.c (ocs b.objs)
 l:∀ q,q < 9 → XOwns W w.heap.size 3 1 (m.sl q).A (b.li q).length (m.sl q).c (ics (b.li q))
 ap:∀ q r,q < 9 → r < 9 → q ≠ r → Apart (m.sl q) (m.sl r)
 E:m.S = ⟨none,0⟩ ∧ m.Q = ⟨none,0⟩ ∧ m.BK = ⟨none,0⟩ ∧ m.ST = [] ∧ m.QT = []
 res:Blk W (w.heap.size + 1) 33 zbd
 bx:Blk W w.heap.size 57 #[.slice DA n0 Dc,.slice EA n1 Ec]
 gB:w.heap.size + 1 < g
 bel:Below w.heap.size w W
section
variable {w:World} {b:Bd} {m:BdM} {g:Nat} {DA EA:Option Addr} {n0 Dc n1 Ec:Nat} {W W':World}
theorem NwS.below (h:NwS w b m g DA EA n0 Dc n1 Ec W) (hb:Below W.heap.size W W'):NwS w b m g DA EA n0 Dc n1 Ec W' :=
 ⟨h.P.call hb,h.O.below hb,fun q hq => (h.l q hq).below hb,h.ap,h.E,h.res.call hb,h.bx.call hb,h.gB,below_call h.bel hb h.bel.size⟩
theorem NwS.setP (h:NwS w b m g DA EA n0 Dc n1 Ec W) {o:Nat} {u:Value} {b':Bd} (hc:(b.cells m).toArray.setIfInBounds o u = (b'.cells m).toArray) (eO:b'.objs = b.objs) (el:∀ q,b'.li q = b.li q):NwS w b' m g DA EA n0 Dc n1 Ec (W.setCell ⟨g,o,none⟩ u):=by
 have hg:W.grownBy (W.setCell ⟨g,o,none⟩ u) (some g):=only_setCell (only_refl _ _) (.inl rfl) _
 have hP:=h.P.put o u
 rw [hc] at hP
 have hgB:=h.gB
 exact ⟨hP,by rw [eO];exact h.O.blk_ h.P hg (by decide),fun q hq => by rw [el];exact (h.l q hq).blk_ h.P hg (by decide),h.ap,h.E,h.res.grown hg (fun e => by injection e with e;omega),h.bx.grown hg (fun e => by injection e with e;omega),hgB,h.bel.grown hg h.bel.size (fun q hq => by injection hq with hq;omega)⟩
theorem NwS.life0 (d0 d1:List Int) (life:Int) (q:Nat) (h:NwS w (nbS 0 0 d0 d1 q) m g DA EA n0 Dc n1 Ec W):NwS w (nbS life 0 d0 d1 q) m g DA EA n0 Dc n1 Ec (W.setCell ⟨g,1,none⟩ (.int .i64 life)) :=
 h.setP rfl rfl (fun q => by rcases q with _ | _ | _ | _ | _ | _ | _ | _ | q <;> rfl)
theorem NwS.life1 (d0 d1:List Int) (life:Int) (q:Nat) (h:NwS w (nbS life 0 d0 d1 q) m g DA EA n0 Dc n1 Ec W):NwS w (nbS life life d0 d1 q) m g DA EA n0 Dc n1 Ec (W.setCell ⟨g,15,none⟩ (.int .i64 life)) :=
 h.setP rfl rfl (fun q => by rcases q with _ | _ | _ | _ | _ | _ | _ | _ | q <;> rfl)
theorem NwS.obj (h:NwS w b m g DA EA n0 Dc n1 Ec W) {o:Ob} {s:Sl} (h5:Blk W' g 33 (Bd.cells { b with objs:=b.objs ++ [o] } { m with O:=s }).toArray ∧ XOwns W' w.heap.size 46 12 s.A (b.objs ++ [o]).length s.c (ocs (b.objs ++ [o])) ∧ (∀ (A:Option Addr) (n c:Nat) (xs:List Value),XOwns W w.heap.size 3 1 A n c xs → XOwns W' w.heap.size 3 1 A n c xs) ∧ (∀ (k t:Nat) (cs:Array Value),t ≠ 46 → k ≠ g → Blk W k t cs → Blk W' k t cs) ∧ Below w.heap.size w W' ∧ W.heap.size ≤ W'.heap.size):NwS w { b with objs:=b.objs ++ [o] } { m with O:=s } g DA EA n0 Dc n1 Ec W':=by
 have hgB:=h.gB
 exact ⟨h5.1,h5.2.1,fun q hq => by rw [sl_O,li_O];exact h5.2.2.1 _ _ _ _ (h.l q hq),fun q r hq hr hne => by rw [sl_O,sl_O];exact h.ap q r hq hr hne,h.E,h5.2.2.2.1 _ _ _ (by decide) (by omega) h.res,h5.2.2.2.1 _ _ _ (by decide) (by omega) h.bx,hgB,h5.2.2.2.2.1⟩
theorem NwS.app (h:NwS w b m g DA EA n0 Dc n1 Ec W) {k:Nat} (hk:k < 8) {l':List Int} {g8 c8:Nat} (hg:W.grownBy W' (blkOf (m.sl k).A)) (hi:blkOf (m.sl k).A = some g8 ∨ W.heap.size ≤ g8) (ho:XOwns W' w.heap.size 3 1 (some ⟨g8,0,none⟩) l'.length c8 (ics l')) :
  NwS w (b.seti k l') (m.set k ⟨some ⟨g8,0,none⟩,c8⟩) g DA EA n0 Dc n1 Ec (W'.setCell ⟨g,offL k,none⟩ (.slice (some ⟨g8,0,none⟩) l'.length c8)) ∧ Blk W' g 33 (b.cells m).toArray:=by
 have hX:=h.l k (by omega)
 have hP:=h.P.grown hg (fun e => hX.apart_blk h.P (by decide) e.symm)
 have hb:=h.bel.grown hg h.bel.size (fun q hq => (hX.lt q hq).1)
 obtain ⟨h1,h2⟩:=ints_app hk h.l h.ap hg hi ho
 have hO:=h.O.grown hg (h.O.apart hX (by decide))
 have hr:=h.res.grown hg (fun e => hX.apart_blk h.res (by decide) e.symm)
 have hx:=h.bx.grown hg (fun e => hX.apart_blk h.bx (by decide) e.symm)
 have hg2:W'.grownBy (W'.setCell ⟨g,offL k,none⟩ (.slice (some ⟨g8,0,none⟩) l'.length c8)) (some g):=only_setCell (only_refl _ _) (.inl rfl) _
 have hP2:=hP.put (offL k) (.slice (some ⟨g8,0,none⟩) l'.length c8)
 rw [show Value.slice (some ⟨g8,0,none⟩) l'.length c8 = Sl.v ⟨some ⟨g8,0,none⟩,c8⟩ l'.length from rfl,cells_seti _ _ _ _ hk] at hP2
 have hgB:=h.gB
 have hs:=seti_rest b l' hk
 have ht:=set_rest m ⟨some ⟨g8,0,none⟩,c8⟩ hk
 refine ⟨⟨hP2,?_,fun q hq => (h1 q hq).blk_ hP hg2 (by decide),h2,?_,hr.grown hg2 (fun e => by injection e with e;omega),hx.grown hg2 (fun e => by injection e with e;omega),hgB,hb.grown hg2 hb.size (fun q hq => by injection hq with hq;omega)⟩,hP⟩
 ·rw [hs.1,ht.1]
  exact hO.blk_ hP hg2 (by decide)
 ·rw [ht.2.1,ht.2.2.1,ht.2.2.2.2.2.2,ht.2.2.2.1,ht.2.2.2.2.1]
  exact h.E
end
set_option maxRecDepth 100000 in
set_option maxHeartbeats 3200000 in
theorem nw_lib0 (p:Nat) (hp:p = 0) (w W:World) (g:Nat) (b:Bd) (m:BdM) (id:Int) (DA EA:Option Addr) (n0 Dc n1 Ec:Nat) (hF:NwS w b m g DA EA n0 Dc n1 Ec W) (hn:(b.li 0).length ≤ 500) (Q:Exit → Act → World → Prop) (t0 t1 t2 t3 t4 t5 t6 t7 t8 t10 t11 t13 t14 t15 t16 t17 t18 t19 t20 t21 t22 t23 t24 t25 t26 t27 t28 t29 t30 t31 t32 t33 t34 t35 t36 t37 t38 t39 t40 t41 t42 t43 t44 t45 t46 t47 t48 t49 t50 t51 t52 t53 t54 t55 t56 t57 t58 t59 t60 t61 t62 t63 t64 t65 t66 t67 t68 t69 t70 t71 t72 t73 t74 t75:Value)
  (hQ:∀ d v c a w,Q (.panic c) (Act.put a d v) w → Q (.panic c) a w)
  (hK:∀ (u63 u64 u65 u66 u67 u68 u69 u70 u71 u72:Value) (s:Sl) (W9:World),NwS w (b.seti 0 (b.li 0 ++ [id])) (m.set 0 s) g DA EA n0 Dc n1 Ec W9 → Q .normal ⟨#[t0,t1,t2,t3,t4,t5,t6,t7,t8,.pointer (some ⟨g,1 + p * 14,none⟩),t10,t11,.int .i64 id,t13,t14,t15,t16,t17,t18,t19,t20,t21,t22,t23,t24,t25,t26,t27,t28,t29,t30,t31,t32,t33,t34,t35,t36,t37,t38,t39,t40,t41,t42,t43,t44,t45,t46,t47,t48,t49,t50,t51,t52,t53,t54,t55,t56,t57,t58,t59,t60,t61,t62,u63,u64,u65,u66,u67,u68,u69,u70,u71,u72,t73,t74,t75],[]⟩ W9) :
  Code.wp Tryz.prog (regOf Tryz.f19 16) Q ⟨#[t0,t1,t2,t3,t4,t5,t6,t7,t8,.pointer (some ⟨g,1 + p * 14,none⟩),t10,t11,.int .i64 id,t13,t14,t15,t16,t17,t18,t19,t20,t21,t22,t23,t24,t25,t26,t27,t28,t29,t30,t31,t32,t33,t34,t35,t36,t37,t38,t39,t40,t41,t42,t43,t44,t45,t46,t47,t48,t49,t50,t51,t52,t53,t54,t55,t56,t57,t58,t59,t60,t61,t62,t63,t64,t65,t66,t67,t68,t69,t70,t71,t72,t73,t74,t75],[]⟩ W:=by
 have HKK:=Lib.hid hK
 clear hK
 conv => arg 2;whnf
 subst hp
 obtain ⟨⟨LA,Lc⟩,hL⟩:∃ s,m.sl 0 = s:=⟨_,rfl⟩
 obtain ⟨nl,hnl⟩:∃ n,(b.li 0).length = n:=⟨_,rfl⟩
 have hX:=hF.l 0 (by decide)
 have hat:=cells_at b m (show 0 < 8 by decide)
 rw [hL,hnl] at hX hat
 have hc:W.cell? ⟨g,6,none⟩ = some (.slice LA nl Lc):=(hF.P.at_ 6).trans hat
 rw [hnl] at hn
 have hzb:=hF.bel.size
 obtain ⟨w6,hw6⟩:∃ w6,W.alloc (.cells #[.int .i64 id] 3) = w6:=⟨_,rfl⟩
 have hb6:Below W.heap.size W w6:=by rw [← hw6];exact (Below.refl _ _).alloc (Nat.le_refl _) _
 have HF6:=Lib.hid (hF.below hb6)
 have HOW6:=Lib.hid (hX.below hb6)
 have HBK6:Hid (Blk w6 W.heap.size 3 #[.int .i64 id]):=Lib.hid (by rw [← hw6];exact Blk.mk_ _ _ _ _ rfl)
 have HL:=Lib.hid hL
 have HNL:=Lib.hid hnl
 have HZ6:Hid (w.heap.size ≤ w6.heap.size):=Lib.hid HF6.out.bel.size
 clear hL hnl hX hat hF hb6
 go_wp2_with (first
  | (at_builtin;(refine append_x (w:=w6) ?_ (.tmp 67) (.tmp 69) 25 ?_ w.heap.size 3 (.int .i64 0) 1 8 tinfo_ints Tryz.underlying25 rfl (by decide) LA nl Lc (ics (b.li 0)) ?_ HOW6.out (some ⟨W.heap.size,0,none⟩) 1 1 (ics [id]) ?_ (reads_block HBK6.out 1 1 rfl) (ics_one _) (by decide) ?_ ?_ HZ6.out _ rfl ?_;rfl;rfl;rfl;rfl;omega;omega);intro g8 c8 w8 ho8 hg8 hi8 hl8;have HO8:Hid (XOwns w8 w.heap.size 3 1 (some ⟨g8,0,none⟩) (b.li 0 ++ [id]).length c8 (ics (b.li 0 ++ [id]))):=Lib.hid (by rw [List.length_append,HNL.out,show ics (b.li 0 ++ [id]) = ics (b.li 0) ++ ics [id] by simp [ics]];exact ho8);obtain ⟨HAP,hp8⟩:=HF6.out.app (k:=0) (by decide) (by rw [HL.out];exact hg8) (by rw [HL.out];exact hi8.imp (fun h => h) (fun e => by omega)) HO8.out;have HAP:=Lib.hid HAP;have q9:=(hp8.at_ 6).trans (cells_at b m (show 0 < 8 by decide));have f9:=hp8.free 6;clear hp8 ho8 hg8 hi8 HO8 HF6 HOW6 HBK6)
  | fail)
 have h:=HAP.out
 rw [show (b.li 0 ++ [id]).length = nl + 1 by rw [List.length_append,HNL.out];rfl] at h
 exact HKK.out _ _ _ _ _ _ _ _ _ _ _ _ h

set_option maxRecDepth 100000 in
set_option maxHeartbeats 3200000 in
theorem nw_lib1 (p:Nat) (hp:p = 1) (w W:World) (g:Nat) (b:Bd) (m:BdM) (id:Int) (DA EA:Option Addr) (n0 Dc n1 Ec:Nat) (hF:NwS w b m g DA EA n0 Dc n1 Ec W) (hn:(b.li 4).length ≤ 500) (Q:Exit → Act → World → Prop) (t0 t1 t2 t3 t4 t5 t6 t7 t8 t10 t11 t13 t14 t15 t16 t17 t18 t19 t20 t21 t22 t23 t24 t25 t26 t27 t28 t29 t30 t31 t32 t33 t34 t35 t36 t37 t38 t39 t40 t41 t42 t43 t44 t45 t46 t47 t48 t49 t50 t51 t52 t53 t54 t55 t56 t57 t58 t59 t60 t61 t62 t63 t64 t65 t66 t67 t68 t69 t70 t71 t72 t73 t74 t75:Value)
  (hQ:∀ d v c a w,Q (.panic c) (Act.put a d v) w → Q (.panic c) a w)
  (hK:∀ (u63 u64 u65 u66 u67 u68 u69 u70 u71 u72:Value) (s:Sl) (W9:World),NwS w (b.seti 4 (b.li 4 ++ [id])) (m.set 4 s) g DA EA n0 Dc n1 Ec W9 → Q .normal ⟨#[t0,t1,t2,t3,t4,t5,t6,t7,t8,.pointer (some ⟨g,1 + p * 14,none⟩),t10,t11,.int .i64 id,t13,t14,t15,t16,t17,t18,t19,t20,t21,t22,t23,t24,t25,t26,t27,t28,t29,t30,t31,t32,t33,t34,t35,t36,t37,t38,t39,t40,t41,t42,t43,t44,t45,t46,t47,t48,t49,t50,t51,t52,t53,t54,t55,t56,t57,t58,t59,t60,t61,t62,u63,u64,u65,u66,u67,u68,u69,u70,u71,u72,t73,t74,t75],[]⟩ W9) :
  Code.wp Tryz.prog (regOf Tryz.f19 16) Q ⟨#[t0,t1,t2,t3,t4,t5,t6,t7,t8,.pointer (some ⟨g,1 + p * 14,none⟩),t10,t11,.int .i64 id,t13,t14,t15,t16,t17,t18,t19,t20,t21,t22,t23,t24,t25,t26,t27,t28,t29,t30,t31,t32,t33,t34,t35,t36,t37,t38,t39,t40,t41,t42,t43,t44,t45,t46,t47,t48,t49,t50,t51,t52,t53,t54,t55,t56,t57,t58,t59,t60,t61,t62,t63,t64,t65,t66,t67,t68,t69,t70,t71,t72,t73,t74,t75],[]⟩ W:=by
 have HKK:=Lib.hid hK
 clear hK
 conv => arg 2;whnf
 subst hp
 obtain ⟨⟨LA,Lc⟩,hL⟩:∃ s,m.sl 4 = s:=⟨_,rfl⟩
 obtain ⟨nl,hnl⟩:∃ n,(b.li 4).length = n:=⟨_,rfl⟩
 have hX:=hF.l 4 (by decide)
 have hat:=cells_at b m (show 4 < 8 by decide)
 rw [hL,hnl] at hX hat
 have hc:W.cell? ⟨g,20,none⟩ = some (.slice LA nl Lc):=(hF.P.at_ 20).trans hat
 rw [hnl] at hn
 have hzb:=hF.bel.size
 obtain ⟨w6,hw6⟩:∃ w6,W.alloc (.cells #[.int .i64 id] 3) = w6:=⟨_,rfl⟩
 have hb6:Below W.heap.size W w6:=by rw [← hw6];exact (Below.refl _ _).alloc (Nat.le_refl _) _
 have HF6:=Lib.hid (hF.below hb6)
 have HOW6:=Lib.hid (hX.below hb6)
 have HBK6:Hid (Blk w6 W.heap.size 3 #[.int .i64 id]):=Lib.hid (by rw [← hw6];exact Blk.mk_ _ _ _ _ rfl)
 have HL:=Lib.hid hL
 have HNL:=Lib.hid hnl
 have HZ6:Hid (w.heap.size ≤ w6.heap.size):=Lib.hid HF6.out.bel.size
 clear hL hnl hX hat hF hb6
 go_wp2_with (first
  | (at_builtin;(refine append_x (w:=w6) ?_ (.tmp 67) (.tmp 69) 25 ?_ w.heap.size 3 (.int .i64 0) 1 8 tinfo_ints Tryz.underlying25 rfl (by decide) LA nl Lc (ics (b.li 4)) ?_ HOW6.out (some ⟨W.heap.size,0,none⟩) 1 1 (ics [id]) ?_ (reads_block HBK6.out 1 1 rfl) (ics_one _) (by decide) ?_ ?_ HZ6.out _ rfl ?_;rfl;rfl;rfl;rfl;omega;omega);intro g8 c8 w8 ho8 hg8 hi8 hl8;have HO8:Hid (XOwns w8 w.heap.size 3 1 (some ⟨g8,0,none⟩) (b.li 4 ++ [id]).length c8 (ics (b.li 4 ++ [id]))):=Lib.hid (by rw [List.length_append,HNL.out,show ics (b.li 4 ++ [id]) = ics (b.li 4) ++ ics [id] by simp [ics]];exact ho8);obtain ⟨HAP,hp8⟩:=HF6.out.app (k:=4) (by decide) (by rw [HL.out];exact hg8) (by rw [HL.out];exact hi8.imp (fun h => h) (fun e => by omega)) HO8.out;have HAP:=Lib.hid HAP;have q9:=(hp8.at_ 20).trans (cells_at b m (show 4 < 8 by decide));have f9:=hp8.free 20;clear hp8 ho8 hg8 hi8 HO8 HF6 HOW6 HBK6)
  | fail)
 have h:=HAP.out
 rw [show (b.li 4 ++ [id]).length = nl + 1 by rw [List.length_append,HNL.out];rfl] at h
 exact HKK.out _ _ _ _ _ _ _ _ _ _ _ _ h
theorem wp_op_by {P:Program} {op:Oper} {a:Act} {w w':World} {K:Act → World → Prop} {Q:Exit → Act → World → Prop} {v:Value} (h:(execOp a.eval op).run P w = .ok (.value v) w') (hk:K (a.put op.dst v) w'):op.wp P a w K Q:=by
 unfold Oper.wp
 rw [h]
 exact hk
theorem run_of_build {P:Program} {op:Oper} {ev:Operand → Value} {ty:TypeId} {parts:Array (Nat × Operand)} {parts':Array (Nat × Value)} {w:World} {cells:Array Value} (ho:op.op = .build ty parts) (hp:parts.map (fun (i,x) => (i,ev x)) = parts') (hb:P.built ty parts'.toList = some cells) :
  (execOp ev op).run P w = .ok (.value (.agg cells)) w:=by
 unfold execOp
 simp only [ho,hp,run_build w ty _ cells hb,Sem.run_bind,Sem.run_pure,Result.andThen_ok]
end Go.Proofs.YtagpphelgghbpaaGreat
