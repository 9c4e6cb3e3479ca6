/-
  Texts: Rcb.
-/
import Derived.Test.YtagpphelgghbpaaGreatMk45
import Derived.Test.YtagpphelgghbpaaGreatMk24
set_option linter.unusedSimpArgs false
set_option linter.unusedVariables false
namespace Go.Proofs.YtagpphelgghbpaaGreat
open Go.RowKit

structure RyL (w:World) (b:Bd) (k:Nat) (m:BdM) (W:World):Prop where
 O:XOwns W w.heap.size 46 12 m.O.A b.objs.length m.O.c (ocs b.objs)
 l:∀ q,q < k → XOwns W w.heap.size 3 1 (m.sl q).A (b.li q).length (m.sl q).c (ics (b.li q))
 ap:∀ q r,q < k → r < k → q ≠ r → Apart (m.sl q) (m.sl r)
 res:Blk W (w.heap.size + 1) 33 zbd
 bel:Below w.heap.size w W
theorem RyL.below {w:World} {b:Bd} {k:Nat} {m:BdM} {W W':World} (h:RyL w b k m W) (hb:Below W.heap.size W W'):RyL w b k m W':=⟨h.O.below hb,fun q hq => (h.l q hq).below hb,h.ap,h.res.call hb,below_call h.bel hb h.bel.size⟩
theorem RyL.store {w:World} {b:Bd} {k:Nat} {m:BdM} {W W':World} {cs:Array Value} (h:RyL w b k m W) (hP:Blk W w.heap.size 33 cs) (hg:W.grownBy W' (some w.heap.size)):RyL w b k m W' :=
 ⟨h.O.blk_ hP hg (by decide),fun q hq => (h.l q hq).blk_ hP hg (by decide),h.ap,h.res.grown hg (fun e => by injection e with e;omega),h.bel.grown hg h.bel.size (fun q hq => by injection hq with hq;omega)⟩
structure RyS (w:World) (b:Bd) (m0:BdM) (k:Nat) (m:BdM) (W:World):Prop where
 P:Blk W w.heap.size 33 (b.cells m).toArray
 L:RyL w b k m W
 e:∀ q,k ≤ q → q < 8 → m.sl q = m0.sl q
 r:m.S = m0.S ∧ m.Q = m0.Q ∧ m.AT = m0.AT ∧ m.BK = m0.BK
theorem RyS.below {w:World} {b:Bd} {m0:BdM} {k:Nat} {m:BdM} {W W':World} (h:RyS w b m0 k m W) (hb:Below W.heap.size W W'):RyS w b m0 k m W':=⟨h.P.call hb,h.L.below hb,h.e,h.r⟩
theorem RyS.step {w:World} {b:Bd} {m0 m:BdM} {k:Nat} {W W':World} (h:RyS w b m0 k m W) (hk:k < 8) (hb:Below W.heap.size W W') {A':Option Addr} {c':Nat} (hx:XOwns W' W.heap.size 3 1 A' (b.li k).length c' (ics (b.li k))) :
  RyS w b m0 (k + 1) (m.set k ⟨A',c'⟩) (W'.setCell ⟨w.heap.size,offL k,none⟩ (.slice A' (b.li k).length c')):=by
 have h1:=h.below hb
 have hg:W'.grownBy (W'.setCell ⟨w.heap.size,offL k,none⟩ (.slice A' (b.li k).length c')) (some w.heap.size):=only_setCell (only_refl _ _) (.inl rfl) _
 have hP:=h1.P.put (offL k) (.slice A' (b.li k).length c')
 have hc:=cells_set b m ⟨A',c'⟩ hk
 rw [show Sl.v ⟨A',c'⟩ (b.li k).length = .slice A' (b.li k).length c' from rfl] at hc
 rw [hc] at hP
 obtain ⟨eO,eS,eQ,eST,eQT,eAT,eBK⟩:=set_rest m ⟨A',c'⟩ hk
 have hx2:=hx.more h.L.bel.size
 have hL:=h1.L.store h1.P hg
 refine ⟨hP,⟨by rw [eO];exact hL.O,fun q hq => ?_,fun q r hq hr hne => ?_,hL.res,hL.bel⟩,fun q hq hq8 => ?_,by rw [eS,eQ,eAT,eBK];exact h.r⟩
 ·rcases Nat.lt_or_ge q k with hlt | hge
  ·rw [sl_other m _ hk (by omega)]
   exact hL.l q hlt
  ·obtain rfl:q = k:=by omega
   rw [sl_same m _ hk]
   exact hx2.blk_ h1.P hg (by decide)
 ·rcases Nat.lt_or_ge q k with hlt | hge
  ·rw [sl_other m _ hk (by omega:q ≠ k)]
   rcases Nat.lt_or_ge r k with hlt2 | hge2
   ·rw [sl_other m _ hk (by omega:r ≠ k)]
    exact h.L.ap q r hlt hlt2 hne
   ·obtain rfl:r = k:=by omega
    rw [sl_same m _ hk]
    exact (apart_new (h.L.l q hlt) hx).1
  ·obtain rfl:q = k:=by omega
   rw [sl_same m _ hk,sl_other m _ hk (by omega:r ≠ q)]
   exact (apart_new (h.L.l r (by omega)) hx).2
 ·rw [sl_other m _ hk (by omega)]
  exact h.e q (by omega) hq8
set_option maxRecDepth 100000 in
set_option maxHeartbeats 3200000 in
theorem rcp_r10 (w W:World) (b:Bd) (m0 m:BdM) (hR:BdR w b m0) (hBB:BdB b) (hS:RyS w b m0 8 m W) (Q:Exit → Act → World → Prop) (t0 t2 t3 t4 t5 t6 t7 t8 t9 t10 t11 t12 t13 t14 t15 t16 t17 t18 t19 t20 t21 t22 t23 t24 t25 t26 t27 t28 t29 t30 t31 t32 t33 t34 t35 t36 t37 t38 t39 t40 t41 t42 t43 t44 t45 t46 t47 t48 t49 t50 t51 t52 t53 t54 t55 t56 t57 t58 t59 t60 t61 t62 t63 t64:Value)
  (hQ:∀ d v c a w,Q (.panic c) (Act.put a d v) w → Q (.panic c) a w)
  (hK:∀ (u48 u49 u50 u51 u52 u53 u54 u55:Value) (sS sQ:Sl) (ST QT:List Sl) (W9:World),Blk W9 w.heap.size 33 (b.cells { m with S:=sS,Q:=sQ,ST:=ST,QT:=QT }).toArray ∧ IsO W9 w.heap.size sS b.stk ST ∧ IsO W9 w.heap.size sQ b.que QT ∧ RyL w b 8 m W9 → Q .normal ⟨#[t0,.pointer (some ⟨w.heap.size,0,none⟩),t2,t3,t4,t5,t6,t7,t8,t9,t10,t11,t12,t13,t14,t15,t16,t17,t18,t19,t20,t21,t22,t23,t24,t25,t26,t27,t28,t29,t30,t31,t32,t33,t34,t35,t36,t37,t38,t39,t40,t41,t42,t43,t44,t45,t46,t47,u48,u49,u50,u51,u52,u53,u54,u55,t56,t57,t58,t59,t60,t61,t62,t63,t64],[]⟩ W9) :
  Code.wp Tryz.prog (regOf Tryz.f8 10) Q ⟨#[t0,.pointer (some ⟨w.heap.size,0,none⟩),t2,t3,t4,t5,t6,t7,t8,t9,t10,t11,t12,t13,t14,t15,t16,t17,t18,t19,t20,t21,t22,t23,t24,t25,t26,t27,t28,t29,t30,t31,t32,t33,t34,t35,t36,t37,t38,t39,t40,t41,t42,t43,t44,t45,t46,t47,t48,t49,t50,t51,t52,t53,t54,t55,t56,t57,t58,t59,t60,t61,t62,t63,t64],[]⟩ W:=by
 have HKK:=Lib.hid hK
 clear hK
 conv => arg 2;whnf
 obtain ⟨⟨SA,Sc⟩,hmS⟩:∃ x,m0.S = x:=⟨_,rfl⟩
 obtain ⟨ns,hns⟩:∃ x,b.stk.length = x:=⟨_,rfl⟩
 obtain ⟨⟨QA,Qc⟩,hmQ⟩:∃ x,m0.Q = x:=⟨_,rfl⟩
 obtain ⟨nq,hnq⟩:∃ x,b.que.length = x:=⟨_,rfl⟩
 have HNN:=Lib.hid (And.intro hns hnq)
 have HC2:Hid (∀ W',Below w.heap.size w W' → Calls Tryz.prog 22 #[.slice SA ns Sc] W' (ItsEnd b.stk ns W')):=Lib.hid (fun W' hb => by
  have hS:=(hR.below hb).S
  rw [hmS] at hS
  exact rcopied_any W' ⟨SA,Sc⟩ b.stk m0.ST ns hS hns (by have:=hBB.S;omega) hBB.ST)
 have HC5:Hid (∀ W',Below w.heap.size w W' → Calls Tryz.prog 22 #[.slice QA nq Qc] W' (ItsEnd b.que nq W')):=Lib.hid (fun W' hb => by
  have hS:=(hR.below hb).Q
  rw [hmQ] at hS
  exact rcopied_any W' ⟨QA,Qc⟩ b.que m0.QT nq hS hnq (by have:=hBB.Q;omega) hBB.QT)
 have HP:=Lib.hid hS.P
 have HL8:=Lib.hid hS.L
 have hgB:=hS.P.lt
 have HQ:=Lib.hid hQ
 have hne_:Nonempty (In (fun W' => Blk W' w.heap.size 33 (b.cells m).toArray)):=⟨⟨W,hS.P⟩⟩
 have x29:∀ s:In (fun W' => Blk W' w.heap.size 33 (b.cells m).toArray),s.W.cell? ⟨w.heap.size,29,none⟩ = some (.slice SA ns Sc):=fun s => (s.h.at_ 29).trans (by show some (m.S.v b.stk.length) = _;rw [hS.r.1,hmS,hns];rfl)
 have x30:∀ s:In (fun W' => Blk W' w.heap.size 33 (b.cells m).toArray),s.W.cell? ⟨w.heap.size,30,none⟩ = some (.slice QA nq Qc):=fun s => (s.h.at_ 30).trans (by show some (m.Q.v b.que.length) = _;rw [hS.r.2.1,hmQ,hnq];rfl)
 clear hR hBB hS hQ hmS hns hmQ hnq
 have hneT:Nonempty (In (fun _ => True)):=⟨⟨W,trivial⟩⟩
 refine wp_region_late2 (Ph (fun w' => ∃ s:In (fun W' => Blk W' w.heap.size 33 (b.cells m).toArray),w' = s.W) (fun w' => ∃ s:In (fun _ => True),w' = s.W)) (fun w' => ∃ s:In (fun _ => True),w' = s.W) (fun w => ⟨⟨w,trivial⟩,rfl⟩) [7,9] [0,3] [1,4] (.one 2 [] (.one 5 [6] (.one 7 [8] (.one 9 [] .done)))) (by kernel_rfl) (by kernel_rfl) HQ.out ⟨⟨_,HP.out.drew⟩,rfl⟩ ?_
 refine quiet_as (C':=(fun w' => ∃ s:In (fun _ => True),w' = s.W)) rfl ?_
 simp only [opsAt,List.getElem?_toArray,List.getElem?_cons_succ,List.getElem?_cons_zero]
 repeat (go_big_quiet_step (fail))
 refine wpQuiet_nil ?_
 refine quiet_as (C':=(fun w' => ∃ s:In (fun W' => Blk W' w.heap.size 33 (b.cells m).toArray),w' = s.W)) rfl ?_
 try simp only [opsAt,List.getElem?_toArray,List.getElem?_cons_succ,List.getElem?_cons_zero]
 repeat (go_big_quiet_step (fail))
 refine wpQuiet_nil ?_
 obtain ⟨W_d,hwd⟩:∃ v,W.drew = v:=⟨_,rfl⟩
 have HBW_1:Hid (Below w.heap.size w W_d):=Lib.hid (by rw [← hwd];exact (HL8.out.bel).drew)
 have HBR_1:Hid (Below W.heap.size W W_d):=Lib.hid (by rw [← hwd];exact (Below.refl _ _).drew)
 have PB_1:=Lib.hid ((HP.out).call (show Below W.heap.size W W_d by rw [← hwd];exact (Below.refl _ _).drew))
 have RL_1:=Lib.hid ((HL8.out).below (show Below W.heap.size W W_d by rw [← hwd];exact (Below.refl _ _).drew))
 rw [hwd]
 clear hwd
 refine eff_as (C':=(fun w' => ∃ s:In (fun W' => Blk W' w.heap.size 33 (b.cells m).toArray),w' = s.W)) rfl ?_
 (refine eff_lit rfl rfl (fun K hK => ?_))
 go_big_op
 refine (HC2.out W_d HBW_1.out).mono ?_
 rintro e W_2 ⟨⟨A1,e1⟩,T1,rfl,hx,hbW_2⟩
 have FS_3:=Lib.hid ((hx.more HBW_1.out.size:IsO _ w.heap.size ⟨A1,e1⟩ b.stk T1))
 have HBW_3:=Lib.hid (below_call HBW_1.out hbW_2 HBW_1.out.size)
 clear HBW_1
 have HBR_3:=Lib.hid (below_call HBR_1.out hbW_2 HBR_1.out.size)
 clear HBR_1
 have PB_3:=Lib.hid (PB_1.out.call hbW_2)
 clear PB_1
 have RL_3:=Lib.hid (RL_1.out.below hbW_2)
 clear RL_1
 clear hbW_2
 clear hx
 refine hK _ _ ⟨⟨_,PB_3.out⟩,rfl⟩ ?_
 clear hK K
 try simp only [opsAt,List.getElem?_toArray,List.getElem?_cons_succ,List.getElem?_cons_zero]
 refine wpQuiet_nil ?_
 refine eff_as (C':=(fun w' => ∃ s:In (fun W' => Blk W' w.heap.size 33 (b.cells m).toArray),w' = s.W)) rfl ?_
 (refine eff_lit rfl rfl (fun K hK => ?_))
 go_big_op
 refine (HC5.out W_2 HBW_3.out).mono ?_
 rintro e W_4 ⟨⟨A2,e2⟩,T2,rfl,hx,hbW_4⟩
 have FQ_5:=Lib.hid ((hx.more HBW_3.out.size:IsO _ w.heap.size ⟨A2,e2⟩ b.que T2))
 have HBW_5:=Lib.hid (below_call HBW_3.out hbW_4 HBW_3.out.size)
 clear HBW_3
 have HBR_5:=Lib.hid (below_call HBR_3.out hbW_4 HBR_3.out.size)
 clear HBR_3
 have PB_5:=Lib.hid (PB_3.out.call hbW_4)
 clear PB_3
 have RL_5:=Lib.hid (RL_3.out.below hbW_4)
 clear RL_3
 have FS_5:=Lib.hid (FS_3.out.below hbW_4)
 clear FS_3
 clear hbW_4
 clear hx
 refine hK _ _ ⟨⟨_,PB_5.out⟩,rfl⟩ ?_
 clear hK K
 try simp only [opsAt,List.getElem?_toArray,List.getElem?_cons_succ,List.getElem?_cons_zero]
 repeat (go_big_quiet_step (fail))
 refine wpQuiet_nil ?_
 refine eff_as (C':=(fun w' => ∃ s:In (fun _ => True),w' = s.W)) rfl ?_
 (refine eff_lit rfl rfl (fun K hK => ?_))
 have q9:=(PB_5.out.at_ 29).trans rfl
 have f9:=PB_5.out.free 29
 have l9:=PB_5.out.lt
 go_big_op
 obtain ⟨W_6,hvW_6⟩:∃ v,W_4.setCell ⟨w.heap.size,29,none⟩ (.slice A1 ns e1) = v:=⟨_,rfl⟩
 have hg9:W_4.grownBy W_6 (some w.heap.size):=by rw [← hvW_6];exact only_setCell (only_refl _ _) (.inl rfl) _
 have hk9:=PB_5.out.put 29 (.slice A1 ns e1)
 rw [hvW_6] at hk9
 rw [hvW_6]
 clear q9 f9 l9 hvW_6
 have HBW_7:=Lib.hid (HBW_5.out.grown hg9 HBW_5.out.size (fun q hq => by injection hq with hq;omega))
 clear HBW_5
 have RL_7:=Lib.hid (RL_5.out.store PB_5.out hg9)
 clear RL_5
 have FS_7:=Lib.hid (FS_5.out.blk PB_5.out hg9 (by decide) (by decide))
 clear FS_5
 have FQ_7:=Lib.hid (FQ_5.out.blk PB_5.out hg9 (by decide) (by decide))
 clear FQ_5
 have PB_8:=Lib.hid hk9
 clear hk9 hg9 PB_5
 refine hK _ _ ⟨⟨_,trivial⟩,rfl⟩ ?_
 clear hK K
 try simp only [opsAt,List.getElem?_toArray,List.getElem?_cons_succ,List.getElem?_cons_zero]
 try simp only [Act.put]
 repeat (go_big_quiet_step (fail))
 refine wpQuiet_nil ?_
 refine eff_as (C':=(fun w' => ∃ s:In (fun _ => True),w' = s.W)) rfl ?_
 (refine eff_lit rfl rfl (fun K hK => ?_))
 have q9:=(PB_8.out.at_ 30).trans rfl
 have f9:=PB_8.out.free 30
 have l9:=PB_8.out.lt
 go_big_op
 obtain ⟨W_9,hvW_9⟩:∃ v,W_6.setCell ⟨w.heap.size,30,none⟩ (.slice A2 nq e2) = v:=⟨_,rfl⟩
 have hg9:W_6.grownBy W_9 (some w.heap.size):=by rw [← hvW_9];exact only_setCell (only_refl _ _) (.inl rfl) _
 have hk9:=PB_8.out.put 30 (.slice A2 nq e2)
 rw [hvW_9] at hk9
 rw [hvW_9]
 clear q9 f9 l9 hvW_9
 have HBW_10:=Lib.hid (HBW_7.out.grown hg9 HBW_7.out.size (fun q hq => by injection hq with hq;omega))
 clear HBW_7
 have RL_10:=Lib.hid (RL_7.out.store PB_8.out hg9)
 clear RL_7
 have FS_10:=Lib.hid (FS_7.out.blk PB_8.out hg9 (by decide) (by decide))
 clear FS_7
 have FQ_10:=Lib.hid (FQ_7.out.blk PB_8.out hg9 (by decide) (by decide))
 clear FQ_7
 have PB_11:=Lib.hid hk9
 clear hk9 hg9 PB_8
 refine hK _ _ ⟨⟨_,trivial⟩,rfl⟩ ?_
 clear hK K
 try simp only [opsAt,List.getElem?_toArray,List.getElem?_cons_succ,List.getElem?_cons_zero]
 refine wpQuiet_nil ?_
 refine effs_done ?_
 have hPC:((b.cells m).toArray.setIfInBounds 29 (.slice A1 ns e1)).setIfInBounds 30 (.slice A2 nq e2) = (b.cells { m with S:=⟨A1,e1⟩,Q:=⟨A2,e2⟩,ST:=T1,QT:=T2 }).toArray:=by
  simp only [Bd.cells,Se.cells,Sl.v,List.cons_append,List.nil_append,List.setIfInBounds_toArray,List.set_cons_succ,List.set_cons_zero]
  rw [HNN.out.1,HNN.out.2]
 have hPB:=PB_11.out
 rw [hPC] at hPB
 exact HKK.out _ _ _ _ _ _ _ _ ⟨A1,e1⟩ ⟨A2,e2⟩ T1 T2 _ ⟨hPB,FS_10.out,FQ_10.out,RL_10.out⟩

theorem copy_last (b:Bd) (m:BdM) (A B:Option Addr) (c d:Nat):(((b.cells m).toArray.setIfInBounds 31 (.slice A b.att.length c)).setIfInBounds 32 (.slice B b.blk.length d)) = (b.cells { m with AT:=⟨A,c⟩,BK:=⟨B,d⟩ }).toArray:=by
 simp only [Bd.cells,Se.cells,Sl.v,List.cons_append,List.nil_append,List.setIfInBounds_toArray,List.set_cons_succ,List.set_cons_zero]
set_option maxRecDepth 100000 in
set_option maxHeartbeats 6400000 in
theorem rcopy_any (b:Bd) (m:BdM) (w:World) (hR:BdR w b m) (hBB:BdB b):Calls Tryz.prog 8 #[.agg (b.cells m).toArray] w (CopyEnd b w):=by
 have HR:=Lib.hid hR
 have HBB:=Lib.hid hBB
 obtain ⟨cs,hcs⟩:∃ cs,(b.cells m).toArray = cs:=⟨_,rfl⟩
 obtain ⟨⟨OA,Oc⟩,hmO⟩:∃ x,m.O = x:=⟨_,rfl⟩
 obtain ⟨no,hno⟩:∃ x,b.objs.length = x:=⟨_,rfl⟩
 obtain ⟨w2,hw2⟩:∃ w2,(w.alloc (.cells cs 33)).alloc (.cells zbd 33) = w2:=⟨_,rfl⟩
 have HB2:Hid (Below w.heap.size w w2):=Lib.hid (by rw [← hw2];exact ((Below.refl _ _).alloc (Nat.le_refl _) _).alloc (by simp) _)
 have HBX2:Hid (Blk w2 w.heap.size 33 (b.cells m).toArray):=Lib.hid (by rw [← hw2,hcs];exact (Blk.mk_ w _ _ _ rfl).alloc _)
 have HRS2:Hid (Blk w2 (w.heap.size + 1) 33 zbd):=Lib.hid (by rw [← hw2];exact Blk.mk_ _ _ _ _ (by simp))
 have HNO:=Lib.hid hno
 have HOR:Hid (Reads w2 12 OA no (ocs b.objs)):=Lib.hid (by have h:=(hR.below HB2.out).O;rw [hmO,hno] at h;exact h)
 have HOA:Hid (OA = none → Oc = 0):=Lib.hid (by have h:=hR.Oo;rw [hmO] at h;exact h.2.1)
 have HOB:Hid (no * 80 ≤ 140737488351232):=Lib.hid (by rw [← hno];exact hBB.O)
 have c0:w2.cell? ⟨w.heap.size,0,none⟩ = some (.slice OA no Oc):=(HBX2.out.at_ 0).trans (by show some (m.O.v b.objs.length) = _;rw [hmO,hno];rfl)
 rw [hcs]
 unfold zbd at hw2
 clear hR hBB hcs hmO hno
 go_enter Tryz.func8,Tryz.ntmps8
 go_wp2_with (first
  | (at_builtin;refine append_nil (w:=w2) rfl (.const (.slice none 0 0)) (.tmp 6) 22 rfl 46 _ 12 80 tinfo_objs Tryz.underlying22 rfl (by decide) rfl OA no Oc (ocs b.objs) rfl HOA.out HOR.out (one_ocs _) (by have:=HOB.out;omega) (by have:=HOB.out;omega) ?_;intro A1 e1 W1 hx1 hb1;simp only [Act.put,List.setIfInBounds_toArray,List.set_cons_succ,List.set_cons_zero];have HX1:=Lib.hid hx1;have HB1:=Lib.hid hb1;have hq1:=(HBX2.out.call hb1);have q1:W1.cell? ⟨w.heap.size,0,none⟩ = some (.slice OA no Oc):=(hb1.cell (p:=⟨w.heap.size,0,none⟩) HBX2.out.lt).trans c0;have f1:=hq1.free 0;have l1:=hq1.lt;clear hx1 hb1 hq1 c0)
  | fail)
 have HF0:Hid (RyS w b m 0 { m with O:=⟨A1,e1⟩ } (W1.setCell ⟨w.heap.size,0,none⟩ (.slice A1 no e1))):=Lib.hid (by
  have hP1:=HBX2.out.call HB1.out
  have hg:W1.grownBy (W1.setCell ⟨w.heap.size,0,none⟩ (.slice A1 no e1)) (some w.heap.size):=only_setCell (only_refl _ _) (.inl rfl) _
  have hP:=hP1.put 0 (.slice A1 no e1)
  rw [show ((b.cells m).toArray.setIfInBounds 0 (.slice A1 no e1)) = (b.cells { m with O:=⟨A1,e1⟩ }).toArray by rw [← HNO.out];rfl] at hP
  refine ⟨hP,⟨?_,fun q hq => absurd hq (by omega),fun q r hq => absurd hq (by omega),(HRS2.out.call HB1.out).grown hg (fun e => by injection e with e;omega),(below_call HB2.out HB1.out HB2.out.size).grown hg (below_call HB2.out HB1.out HB2.out.size).size (fun q hq => by injection hq with hq;omega)⟩,fun q _ hq => by rcases q with _ | _ | _ | _ | _ | _ | _ | _ | q <;> first | rfl | omega,rfl,rfl,rfl,rfl⟩
  show XOwns _ _ _ _ _ b.objs.length _ _
  rw [HNO.out]
  exact (HX1.out.more HB2.out.size).blk_ hP1 hg (by decide))
 clear q1 f1 l1 hw2
 go_loopw [3] (fun i W => ∃ (p:Nat) (m':BdM),p ≤ 2 ∧ i = .int .i64 p ∧ Hid (RyS w b m (4 * p) m' W)) (fun i _ => 2 - (intOf i).toNat)
 case atStart => exact ⟨0,_,by omega,rfl,HF0⟩
 case round =>
  obtain ⟨p,m0,hp,rfl,HS0⟩:=hrel
  clear HF0
  by_cases hp2:p < 2
  ·have hp2':(p:Int) < 2:=by omega
   have hp0:decide ((p:Int) < 0) = false:=decide_eq_false (by omega)
   have HP2:=Lib.hid hp2
   obtain ⟨⟨LA0,Lc0⟩,hL0⟩:∃ s,m.sl (4 * p) = s:=⟨_,rfl⟩
   obtain ⟨nl0,hn0⟩:∃ n,(b.li (4 * p)).length = n:=⟨_,rfl⟩
   have HL0:Hid ((∀ W,Below w.heap.size w W → Reads W 1 LA0 nl0 (ics (b.li (4 * p)))) ∧ (LA0 = none → Lc0 = 0) ∧ nl0 ≤ 17592186044416 ∧ (b.li (4 * p)).length = nl0 ∧ m.sl (4 * p) = ⟨LA0,Lc0⟩ ∧ offL (4 * p) = 1 + p * 14 + 5 ∧ 4 * p < 8):=Lib.hid ⟨fun W hb => by (have h:=((HR.out.below hb).li (q:=4 * p) (by omega)).row;rw [hL0,hn0] at h;exact h),by (have h:=(HR.out.li (q:=4 * p) (by omega)).ok.2.1;rw [hL0] at h;exact h),by rw [← hn0];exact HBB.out.l _ (by omega),hn0,hL0,by unfold offL;split <;> omega,by omega⟩
   clear hL0 hn0
   have c5:wr.cell? ⟨w.heap.size,1 + p * 14 + 5,none⟩ = some (.slice LA0 nl0 Lc0):=by
    rw [← HL0.out.2.2.2.2.2.1]
    refine (HS0.out.P.at_ _).trans ((cells_at b m0 HL0.out.2.2.2.2.2.2).trans ?_)
    rw [HS0.out.e (4 * p) (Nat.le_refl _) HL0.out.2.2.2.2.2.2,HL0.out.2.2.2.2.1,HL0.out.2.2.2.1]
    rfl
   obtain ⟨⟨LA1,Lc1⟩,hL1⟩:∃ s,m.sl (4 * p + 1) = s:=⟨_,rfl⟩
   obtain ⟨nl1,hn1⟩:∃ n,(b.li (4 * p + 1)).length = n:=⟨_,rfl⟩
   have HL1:Hid ((∀ W,Below w.heap.size w W → Reads W 1 LA1 nl1 (ics (b.li (4 * p + 1)))) ∧ (LA1 = none → Lc1 = 0) ∧ nl1 ≤ 17592186044416 ∧ (b.li (4 * p + 1)).length = nl1 ∧ m.sl (4 * p + 1) = ⟨LA1,Lc1⟩ ∧ offL (4 * p + 1) = 1 + p * 14 + 6 ∧ 4 * p + 1 < 8):=Lib.hid ⟨fun W hb => by (have h:=((HR.out.below hb).li (q:=4 * p + 1) (by omega)).row;rw [hL1,hn1] at h;exact h),by (have h:=(HR.out.li (q:=4 * p + 1) (by omega)).ok.2.1;rw [hL1] at h;exact h),by rw [← hn1];exact HBB.out.l _ (by omega),hn1,hL1,by unfold offL;split <;> omega,by omega⟩
   clear hL1 hn1
   obtain ⟨⟨LA2,Lc2⟩,hL2⟩:∃ s,m.sl (4 * p + 2) = s:=⟨_,rfl⟩
   obtain ⟨nl2,hn2⟩:∃ n,(b.li (4 * p + 2)).length = n:=⟨_,rfl⟩
   have HL2:Hid ((∀ W,Below w.heap.size w W → Reads W 1 LA2 nl2 (ics (b.li (4 * p + 2)))) ∧ (LA2 = none → Lc2 = 0) ∧ nl2 ≤ 17592186044416 ∧ (b.li (4 * p + 2)).length = nl2 ∧ m.sl (4 * p + 2) = ⟨LA2,Lc2⟩ ∧ offL (4 * p + 2) = 1 + p * 14 + 7 ∧ 4 * p + 2 < 8):=Lib.hid ⟨fun W hb => by (have h:=((HR.out.below hb).li (q:=4 * p + 2) (by omega)).row;rw [hL2,hn2] at h;exact h),by (have h:=(HR.out.li (q:=4 * p + 2) (by omega)).ok.2.1;rw [hL2] at h;exact h),by rw [← hn2];exact HBB.out.l _ (by omega),hn2,hL2,by unfold offL;split <;> omega,by omega⟩
   clear hL2 hn2
   obtain ⟨⟨LA3,Lc3⟩,hL3⟩:∃ s,m.sl (4 * p + 3) = s:=⟨_,rfl⟩
   obtain ⟨nl3,hn3⟩:∃ n,(b.li (4 * p + 3)).length = n:=⟨_,rfl⟩
   have HL3:Hid ((∀ W,Below w.heap.size w W → Reads W 1 LA3 nl3 (ics (b.li (4 * p + 3)))) ∧ (LA3 = none → Lc3 = 0) ∧ nl3 ≤ 17592186044416 ∧ (b.li (4 * p + 3)).length = nl3 ∧ m.sl (4 * p + 3) = ⟨LA3,Lc3⟩ ∧ offL (4 * p + 3) = 1 + p * 14 + 8 ∧ 4 * p + 3 < 8):=Lib.hid ⟨fun W hb => by (have h:=((HR.out.below hb).li (q:=4 * p + 3) (by omega)).row;rw [hL3,hn3] at h;exact h),by (have h:=(HR.out.li (q:=4 * p + 3) (by omega)).ok.2.1;rw [hL3] at h;exact h),by rw [← hn3];exact HBB.out.l _ (by omega),hn3,hL3,by unfold offL;split <;> omega,by omega⟩
   clear hL3 hn3
   clear hp2 hp
   go_wp2_with (first
    | (at_builtin;refine append_nil (w:=wr) rfl (.const (.slice none 0 0)) (.tmp 20) 25 rfl 3 _ 1 8 tinfo_ints Tryz.underlying25 rfl (by decide) rfl LA0 nl0 Lc0 (ics (b.li (4 * p))) rfl HL0.out.2.1 (HL0.out.1 _ HS0.out.L.bel) (ics_one _) (by have:=HL0.out.2.2.1;omega) (by have:=HL0.out.2.2.1;omega) ?_;intro A11 e11 W11 hx hb;simp only [Act.put,List.setIfInBounds_toArray,List.set_cons_succ,List.set_cons_zero];have hP11:=HS0.out.P.call hb;have HX11:=Lib.hid hx;have HB11:=Lib.hid hb;have q11:∃ u,W11.cell? ⟨w.heap.size,1 + p * 14 + 5,none⟩ = some u:=(by have h:=(hP11.at_ _).trans (cells_at b _ HL0.out.2.2.2.2.2.2);rw [HL0.out.2.2.2.2.2.1] at h;exact ⟨_,h⟩);obtain ⟨u11,q11⟩:=q11;have f11:=hP11.free (1 + p * 14 + 5);have l11:=hP11.lt;have HS1:Hid (RyS w b m (4 * p + 1) (BdM.set _ (4 * p) ⟨A11,e11⟩) (W11.setCell ⟨w.heap.size,1 + p * 14 + 5,none⟩ (.slice A11 nl0 e11))):=Lib.hid (by have h:=HS0.out.step HL0.out.2.2.2.2.2.2 HB11.out (A':=A11) (c':=e11) (by rw [HL0.out.2.2.2.1];exact HX11.out);rw [HL0.out.2.2.2.1,HL0.out.2.2.2.2.2.1] at h;exact h);have c6:(W11.setCell ⟨w.heap.size,1 + p * 14 + 5,none⟩ (.slice A11 nl0 e11)).cell? ⟨w.heap.size,1 + p * 14 + 6,none⟩ = some (.slice LA1 nl1 Lc1):=(by rw [← HL1.out.2.2.2.2.2.1];refine (HS1.out.P.at_ _).trans ((cells_at b _ HL1.out.2.2.2.2.2.2).trans ?_);rw [HS1.out.e (4 * p + 1) (Nat.le_refl _) HL1.out.2.2.2.2.2.2,HL1.out.2.2.2.2.1,HL1.out.2.2.2.1] <;> rfl);clear hx hb hP11)
    | (at_builtin;refine append_nil (w:=(W11.setCell ⟨w.heap.size,1 + p * 14 + 5,none⟩ (.slice A11 nl0 e11))) rfl (.const (.slice none 0 0)) (.tmp 28) 25 rfl 3 _ 1 8 tinfo_ints Tryz.underlying25 rfl (by decide) rfl LA1 nl1 Lc1 (ics (b.li (4 * p + 1))) rfl HL1.out.2.1 (HL1.out.1 _ HS1.out.L.bel) (ics_one _) (by have:=HL1.out.2.2.1;omega) (by have:=HL1.out.2.2.1;omega) ?_;intro A12 e12 W12 hx hb;simp only [Act.put,List.setIfInBounds_toArray,List.set_cons_succ,List.set_cons_zero];have hP12:=HS1.out.P.call hb;have HX12:=Lib.hid hx;have HB12:=Lib.hid hb;have q12:∃ u,W12.cell? ⟨w.heap.size,1 + p * 14 + 6,none⟩ = some u:=(by have h:=(hP12.at_ _).trans (cells_at b _ HL1.out.2.2.2.2.2.2);rw [HL1.out.2.2.2.2.2.1] at h;exact ⟨_,h⟩);obtain ⟨u12,q12⟩:=q12;have f12:=hP12.free (1 + p * 14 + 6);have l12:=hP12.lt;have HS2:Hid (RyS w b m (4 * p + 2) (BdM.set _ (4 * p + 1) ⟨A12,e12⟩) (W12.setCell ⟨w.heap.size,1 + p * 14 + 6,none⟩ (.slice A12 nl1 e12))):=Lib.hid (by have h:=HS1.out.step HL1.out.2.2.2.2.2.2 HB12.out (A':=A12) (c':=e12) (by rw [HL1.out.2.2.2.1];exact HX12.out);rw [HL1.out.2.2.2.1,HL1.out.2.2.2.2.2.1] at h;exact h);have c7:(W12.setCell ⟨w.heap.size,1 + p * 14 + 6,none⟩ (.slice A12 nl1 e12)).cell? ⟨w.heap.size,1 + p * 14 + 7,none⟩ = some (.slice LA2 nl2 Lc2):=(by rw [← HL2.out.2.2.2.2.2.1];refine (HS2.out.P.at_ _).trans ((cells_at b _ HL2.out.2.2.2.2.2.2).trans ?_);rw [HS2.out.e (4 * p + 2) (Nat.le_refl _) HL2.out.2.2.2.2.2.2,HL2.out.2.2.2.2.1,HL2.out.2.2.2.1] <;> rfl);clear hx hb hP12)
    | (at_builtin;refine append_nil (w:=(W12.setCell ⟨w.heap.size,1 + p * 14 + 6,none⟩ (.slice A12 nl1 e12))) rfl (.const (.slice none 0 0)) (.tmp 36) 25 rfl 3 _ 1 8 tinfo_ints Tryz.underlying25 rfl (by decide) rfl LA2 nl2 Lc2 (ics (b.li (4 * p + 2))) rfl HL2.out.2.1 (HL2.out.1 _ HS2.out.L.bel) (ics_one _) (by have:=HL2.out.2.2.1;omega) (by have:=HL2.out.2.2.1;omega) ?_;intro A13 e13 W13 hx hb;simp only [Act.put,List.setIfInBounds_toArray,List.set_cons_succ,List.set_cons_zero];have hP13:=HS2.out.P.call hb;have HX13:=Lib.hid hx;have HB13:=Lib.hid hb;have q13:∃ u,W13.cell? ⟨w.heap.size,1 + p * 14 + 7,none⟩ = some u:=(by have h:=(hP13.at_ _).trans (cells_at b _ HL2.out.2.2.2.2.2.2);rw [HL2.out.2.2.2.2.2.1] at h;exact ⟨_,h⟩);obtain ⟨u13,q13⟩:=q13;have f13:=hP13.free (1 + p * 14 + 7);have l13:=hP13.lt;have HS3:Hid (RyS w b m (4 * p + 3) (BdM.set _ (4 * p + 2) ⟨A13,e13⟩) (W13.setCell ⟨w.heap.size,1 + p * 14 + 7,none⟩ (.slice A13 nl2 e13))):=Lib.hid (by have h:=HS2.out.step HL2.out.2.2.2.2.2.2 HB13.out (A':=A13) (c':=e13) (by rw [HL2.out.2.2.2.1];exact HX13.out);rw [HL2.out.2.2.2.1,HL2.out.2.2.2.2.2.1] at h;exact h);have c8:(W13.setCell ⟨w.heap.size,1 + p * 14 + 7,none⟩ (.slice A13 nl2 e13)).cell? ⟨w.heap.size,1 + p * 14 + 8,none⟩ = some (.slice LA3 nl3 Lc3):=(by rw [← HL3.out.2.2.2.2.2.1];refine (HS3.out.P.at_ _).trans ((cells_at b _ HL3.out.2.2.2.2.2.2).trans ?_);rw [HS3.out.e (4 * p + 3) (Nat.le_refl _) HL3.out.2.2.2.2.2.2,HL3.out.2.2.2.2.1,HL3.out.2.2.2.1] <;> rfl);clear hx hb hP13)
    | (at_builtin;refine append_nil (w:=(W13.setCell ⟨w.heap.size,1 + p * 14 + 7,none⟩ (.slice A13 nl2 e13))) rfl (.const (.slice none 0 0)) (.tmp 44) 25 rfl 3 _ 1 8 tinfo_ints Tryz.underlying25 rfl (by decide) rfl LA3 nl3 Lc3 (ics (b.li (4 * p + 3))) rfl HL3.out.2.1 (HL3.out.1 _ HS3.out.L.bel) (ics_one _) (by have:=HL3.out.2.2.1;omega) (by have:=HL3.out.2.2.1;omega) ?_;intro A14 e14 W14 hx hb;simp only [Act.put,List.setIfInBounds_toArray,List.set_cons_succ,List.set_cons_zero];have hP14:=HS3.out.P.call hb;have HX14:=Lib.hid hx;have HB14:=Lib.hid hb;have q14:∃ u,W14.cell? ⟨w.heap.size,1 + p * 14 + 8,none⟩ = some u:=(by have h:=(hP14.at_ _).trans (cells_at b _ HL3.out.2.2.2.2.2.2);rw [HL3.out.2.2.2.2.2.1] at h;exact ⟨_,h⟩);obtain ⟨u14,q14⟩:=q14;have f14:=hP14.free (1 + p * 14 + 8);have l14:=hP14.lt;have HS4:Hid (RyS w b m (4 * p + 4) (BdM.set _ (4 * p + 3) ⟨A14,e14⟩) (W14.setCell ⟨w.heap.size,1 + p * 14 + 8,none⟩ (.slice A14 nl3 e14))):=Lib.hid (by have h:=HS3.out.step HL3.out.2.2.2.2.2.2 HB14.out (A':=A14) (c':=e14) (by rw [HL3.out.2.2.2.1];exact HX14.out);rw [HL3.out.2.2.2.1,HL3.out.2.2.2.2.2.1] at h;exact h);clear hx hb hP14)
    | fail)
   have HS9:Hid (RyS w b m (4 * (p + 1)) _ _):=Lib.hid (by rw [show 4 * (p + 1) = 4 * p + 4 by omega];exact HS4.out)
   clear q11 f11 l11 q12 f12 l12 q13 f13 l13 q14 f14 l14 c5 c6 c7 c8
   go_wp2_with fail
   go_roundw
   case rel => exact ⟨p + 1,_,by have:=HP2.out;omega,by go_num,HS9⟩
   case measure => simp [intOf];have:=HP2.out;omega
  ·have hp2':decide ((p:Int) < 2) = false:=decide_eq_false (by omega)
   have HS8:Hid (RyS w b m 8 m0 wr):=Lib.hid (by have h:=HS0.out;rw [show 4 * p = 8 by omega] at h;exact h)
   clear HS0 hp hp2
   go_wp2_with fail
   refine rcp_r10 w wr b m m0 HR.out HBB.out HS8.out _ _ _ _ _ _ _ _ _ _ _ _ _ _ _ _ _ _ _ _ _ _ _ _ _ _ _ _ _ _ _ _ _ _ _ _ _ _ _ _ _ _ _ _ _ _ _ _ _ _ _ _ _ _ _ _ _ _ _ _ _ _ _ _ _ ?_ ?_
   ·exact fun d _ _ _ _ h => by cases d <;> exact h
   intro v48 v49 v50 v51 v52 v53 v54 v55 sS sQ ST QT W3 h3
   have HE3:=Lib.hid h3
   have HSR:=Lib.hid HS8.out.r
   clear h3 HS8
   obtain ⟨⟨TA,Tc⟩,hmT⟩:∃ x,m.AT = x:=⟨_,rfl⟩
   obtain ⟨na,hna⟩:∃ x,b.att.length = x:=⟨_,rfl⟩
   obtain ⟨⟨KA,Kc⟩,hmK⟩:∃ x,m.BK = x:=⟨_,rfl⟩
   obtain ⟨nk,hnk⟩:∃ x,b.blk.length = x:=⟨_,rfl⟩
   have HTR:Hid (∀ W,Below w.heap.size w W → Reads W 1 TA na (ics b.att) ∧ Reads W 2 KA nk (bcs b.blk)):=Lib.hid (fun W hb => by have h:=HR.out.below hb;exact ⟨by have h1:=h.AT.row;rw [hmT,hna] at h1;exact h1,by have h1:=h.BK;rw [hmK,hnk] at h1;exact h1⟩)
   have HTA:Hid ((TA = none → Tc = 0) ∧ (KA = none → Kc = 0)):=Lib.hid ⟨by have h:=HR.out.AT.ok.2.1;rw [hmT] at h;exact h,by have h:=HR.out.Bo.2.1;rw [hmK] at h;exact h⟩
   have HTB:Hid (na ≤ 17592186044416 ∧ nk * 16 ≤ 140737488351232):=Lib.hid ⟨by rw [← hna];exact HBB.out.l 8 (by decide),by rw [← hnk];exact HBB.out.K⟩
   have HNA:=Lib.hid (And.intro hna hnk)
   have c31:W3.cell? ⟨w.heap.size,31,none⟩ = some (.slice TA na Tc):=(HE3.out.1.at_ 31).trans (by show some (m0.AT.v b.att.length) = _;rw [HSR.out.2.2.1,hmT,hna];rfl)
   have c32:∀ W u,Below W3.heap.size W3 W → (W.setCell ⟨w.heap.size,31,none⟩ u).cell? ⟨w.heap.size,32,none⟩ = some (.slice KA nk Kc):=fun W u hb => (((HE3.out.1.call hb).put 31 u).at_ 32).trans (by show some (m0.BK.v b.blk.length) = _;rw [HSR.out.2.2.2,hmK,hnk];rfl)
   have HC32:=Lib.hid c32
   clear hmT hna hmK hnk c32
   obtain ⟨mP,hmP⟩:∃ x,({ m0 with S:=sS,Q:=sQ,ST:=ST,QT:=QT }:BdM) = x:=⟨_,rfl⟩
   have HMP:=Lib.hid hmP
   rw [hmP] at HE3
   clear hmP
   go_wp2_with (first
    | (at_builtin;refine append_nil (w:=W3) rfl (.const (.slice none 0 0)) (.tmp 57) 25 rfl 3 _ 1 8 tinfo_ints Tryz.underlying25 rfl (by decide) rfl TA na Tc (ics b.att) rfl HTA.out.1 (HTR.out _ HE3.out.2.2.2.bel).1 (ics_one _) (by have:=HTB.out.1;omega) (by have:=HTB.out.1;omega) ?_;intro A4 e4 W4 hx4 hb4;simp only [Act.put,List.setIfInBounds_toArray,List.set_cons_succ,List.set_cons_zero];have HX4:=Lib.hid hx4;have HB4:=Lib.hid hb4;have hq4:=(HE3.out.1.call hb4);obtain ⟨u4,q4⟩:∃ u,W4.cell? ⟨w.heap.size,31,none⟩ = some u:=⟨_,(hq4.at_ 31).trans rfl⟩;have f4:=hq4.free 31;have l4:=hq4.lt;have d32:=HC32.out W4 (.slice A4 na e4) hb4;have HG4:Hid (W4.grownBy (W4.setCell ⟨w.heap.size,31,none⟩ (.slice A4 na e4)) (some w.heap.size)):=Lib.hid (only_setCell (only_refl _ _) (.inl rfl) _);have HP5:Hid (Blk (W4.setCell ⟨w.heap.size,31,none⟩ (.slice A4 na e4)) w.heap.size 33 ((b.cells mP).toArray.setIfInBounds 31 (.slice A4 na e4))):=Lib.hid (hq4.put 31 _);have HL5:Hid (RyL w b 8 m0 (W4.setCell ⟨w.heap.size,31,none⟩ (.slice A4 na e4))):=Lib.hid ((HE3.out.2.2.2.below hb4).store hq4 HG4.out);clear hx4 hb4 hq4 c31)
    | (at_builtin;refine append_nil (w:=(W4.setCell ⟨w.heap.size,31,none⟩ (.slice A4 na e4))) rfl (.const (.slice none 0 0)) (.tmp 61) 30 rfl 84 _ 2 16 tinfo_blks Tryz.underlying30 rfl (by decide) rfl KA nk Kc (bcs b.blk) rfl HTA.out.2 (HTR.out _ HL5.out.bel).2 (one_bcs _) (by have:=HTB.out.2;omega) (by have:=HTB.out.2;omega) ?_;intro A6 e6 W6 hx6 hb6;simp only [Act.put,List.setIfInBounds_toArray,List.set_cons_succ,List.set_cons_zero];have HX6:=Lib.hid hx6;have HB6:=Lib.hid hb6;have hq6:=(HP5.out.call hb6);obtain ⟨u6,q6⟩:∃ u,W6.cell? ⟨w.heap.size,32,none⟩ = some u:=⟨_,(hq6.at_ 32).trans rfl⟩;have f6:=hq6.free 32;have l6:=hq6.lt;obtain ⟨BC,hBC⟩:∃ x,b.cells { mP with AT:=⟨A4,e4⟩,BK:=⟨A6,e6⟩ } = x:=⟨_,rfl⟩;have HG6:Hid (W6.grownBy (W6.setCell ⟨w.heap.size,32,none⟩ (.slice A6 nk e6)) (some w.heap.size)):=Lib.hid (only_setCell (only_refl _ _) (.inl rfl) _);have HP7:Hid (Blk (W6.setCell ⟨w.heap.size,32,none⟩ (.slice A6 nk e6)) w.heap.size 33 BC.toArray):=Lib.hid (by have h:=hq6.put 32 (.slice A6 nk e6);rw [← hBC,← copy_last b mP A4 A6 e4 e6,HNA.out.1,HNA.out.2];exact h);have HL7:Hid (RyL w b 8 m0 (W6.setCell ⟨w.heap.size,32,none⟩ (.slice A6 nk e6))):=Lib.hid ((HL5.out.below hb6).store hq6 HG6.out);have HBC:=Lib.hid hBC;have HLP:Hid ((Instr.loadAt 33 (.pointer (some ⟨w.heap.size,0,none⟩))).run Tryz.prog (W6.setCell ⟨w.heap.size,32,none⟩ (.slice A6 nk e6)) = .ok (.agg BC.toArray) (W6.setCell ⟨w.heap.size,32,none⟩ (.slice A6 nk e6))):=Lib.hid (HP7.out.mid BC _ (fun j v hj => by rw [Nat.zero_add];simpa using hj) Tryz.underlying33 rfl (by rw [size_board,← hBC];rfl));obtain ⟨W8,hst8,hk8,hg8⟩:=HL7.out.res.storeAll (ty:=33) BC (by rw [← hBC];rfl) (by rw [size_board,← hBC];rfl) (by rw [← hBC];exact one_bd _ _);have HST8:=Lib.hid hst8;have HK8:=Lib.hid (And.intro hk8 hg8);clear hx6 hb6 hq6 d32 hst8 hk8 hg8 hBC)
    | (refine wpList_load_by HLP.out rfl rfl rfl ?_;simp only [Act.put,List.setIfInBounds_toArray,List.set_cons_succ,List.set_cons_zero])
    | (refine wpList_store_by HST8.out rfl rfl rfl rfl ?_;simp only [Act.put,List.setIfInBounds_toArray,List.set_cons_succ,List.set_cons_zero])
    | fail)
   refine bodyPost_ret (v:=.agg BC.toArray) (ret_cell (fn:=Tryz.f8) (p:=2) rfl rfl HK8.out.1 Tryz.underlying33 rfl (by rw [size_board,← HBC.out];rfl)) rfl ?_
   obtain ⟨hg8,hP7,hL7⟩:=And.intro HK8.out.2 (And.intro HP7.out HL7.out)
   have hr8:=HL7.out.res
   refine ⟨{ mP with AT:=⟨A4,e4⟩,BK:=⟨A6,e6⟩ },by rw [HBC.out],?_,hL7.bel.grown hg8 hL7.bel.size (fun q hq => by injection hq with hq;omega)⟩
   have hS7:IsO W6 w.heap.size sS b.stk ST:=((HE3.out.2.1.below HB4.out).blk (HE3.out.1.call HB4.out) HG4.out (by decide) (by decide)).below HB6.out
   have hQ7:IsO W6 w.heap.size sQ b.que QT:=((HE3.out.2.2.1.below HB4.out).blk (HE3.out.1.call HB4.out) HG4.out (by decide) (by decide)).below HB6.out
   have hA5:XOwns W4 w.heap.size 3 1 A4 na e4 (ics b.att):=HX4.out.more HE3.out.2.2.2.bel.size
   have hA7:XOwns (W6.setCell ⟨w.heap.size,32,none⟩ (.slice A6 nk e6)) w.heap.size 3 1 A4 na e4 (ics b.att):=((hA5.blk_ (HE3.out.1.call HB4.out) HG4.out (by decide)).below HB6.out).blk_ (HP5.out.call HB6.out) HG6.out (by decide)
   have hK7:XOwns (W6.setCell ⟨w.heap.size,32,none⟩ (.slice A6 nk e6)) w.heap.size 84 2 A6 nk e6 (bcs b.blk):=(HX6.out.more HL5.out.bel.size).blk_ (HP5.out.call HB6.out) HG6.out (by decide)
   have hap4:∀ q,q < 8 → Apart (m0.sl q) ⟨A4,e4⟩ ∧ Apart ⟨A4,e4⟩ (m0.sl q):=fun q hq => apart_new (s:=m0.sl q) (t:=⟨A4,e4⟩) (HE3.out.2.2.2.l q hq) HX4.out
   have hsl:∀ q,q < 8 → ({ mP with AT:=⟨A4,e4⟩,BK:=⟨A6,e6⟩ }:BdM).sl q = m0.sl q:=fun q hq => by
    rw [← HMP.out]
    rcases q with _ | _ | _ | _ | _ | _ | _ | _ | q <;> first | rfl | omega
   have hO7:XOwns W8 w.heap.size 46 12 mP.O.A b.objs.length mP.O.c (ocs b.objs):=by rw [← HMP.out];exact hL7.O.blk_ hr8 hg8 (by decide)
   refine ⟨hO7,fun q hq => ?_,fun q r hq hr hne => ?_,?_,?_,?_⟩
   ·rcases Nat.lt_or_ge q 8 with h8 | h8
    ·rw [hsl q h8]
     exact (hL7.l q h8).blk_ hr8 hg8 (by decide)
    ·obtain rfl:q = 8:=by omega
     show XOwns W8 _ _ _ A4 b.att.length e4 (ics b.att)
     rw [HNA.out.1]
     exact hA7.blk_ hr8 hg8 (by decide)
   ·rcases Nat.lt_or_ge q 8 with h8 | h8
    ·rw [hsl q h8]
     rcases Nat.lt_or_ge r 8 with r8 | r8
     ·rw [hsl r r8]
      exact hL7.ap q r h8 r8 hne
     ·obtain rfl:r = 8:=by omega
      exact (hap4 q h8).1
    ·obtain rfl:q = 8:=by omega
     rcases Nat.lt_or_ge r 8 with r8 | r8
     ·rw [hsl r r8]
      exact (hap4 r r8).2
     ·omega
   ·show IsO W8 w.heap.size mP.S b.stk mP.ST
    rw [← HMP.out]
    exact (hS7.blk (HP5.out.call HB6.out) HG6.out (by decide) (by decide)).blk hr8 hg8 (by decide) (by decide)
   ·show IsO W8 w.heap.size mP.Q b.que mP.QT
    rw [← HMP.out]
    exact (hQ7.blk (HP5.out.call HB6.out) HG6.out (by decide) (by decide)).blk hr8 hg8 (by decide) (by decide)
   ·show XOwns W8 _ _ _ A6 b.blk.length e6 (bcs b.blk)
    rw [HNA.out.2]
    exact hK7.blk_ hr8 hg8 (by decide)
end Go.Proofs.YtagpphelgghbpaaGreat
