/-
  Texts: Bcp.
-/
import Derived.Test.YtagpphelgghbpaaGreatMk12
import Derived.Test.YtagpphelgghbpaaGreatMk13
import Derived.Test.YtagpphelgghbpaaGreatMk5
set_option linter.unusedSimpArgs false
set_option linter.unusedVariables false
namespace Go.Proofs.YtagpphelgghbpaaGreat
open Go.RowKit

def zbd:Array Value:=#[Value.slice none 0 0,.int .i64 0,.int .i64 0,.int .i64 0,.int .i64 0,.int .i64 0,.slice none 0 0,.slice none 0 0,.slice none 0 0,.slice none 0 0,.bool false,.bool false,.bool false,.int .i64 0,.int .i64 0,.int .i64 0,.int .i64 0,.int .i64 0,.int .i64 0,.int .i64 0,.slice none 0 0,.slice none 0 0,.slice none 0 0,.slice none 0 0,.bool false,.bool false,.bool false,.int .i64 0,.int .i64 0,.slice none 0 0,.slice none 0 0,.slice none 0 0,.slice none 0 0,.int .i64 0,.int .i64 0,.int .i64 0,.int .i64 0,.int .i64 0]
theorem off_board:offT 33:=by unfold offT;decide
set_option maxRecDepth 100000 in
set_option maxHeartbeats 3200000 in
theorem bcp1 (w W:World) (b:Bd) (m0 m:BdM) (hR:BdR w b m0) (hsm:BdSm b) (hB:Below w.heap.size w W) (hP:Blk W w.heap.size 33 (b.cells m).toArray) (hres:Blk W (w.heap.size + 1) 33 zbd) (eO:m.O = m0.O) (eA:m.AT = m0.AT) (eK:m.BK = m0.BK) (Q:Exit → Act → World → Prop) (t0 t2 t3 t4 t5 t6 t7 t8 t9 t10 t11 t12 t13 t14 t15 t16 t17 t18 t19 t20 t21 t22 t23 t24 t25 t26 t27 t28 t29 t30 t31 t32 t33 t34 t35 t36 t37 t38 t39 t40 t41 t42 t43 t44:Value)
  (hQ:∀ d v c a w,Q (.panic c) (Act.put a d v) w → Q (.panic c) a w)
  (hK:∀ (u6 u7 u8 u9 u10 u11 u12 u13 u14 u15 u16 u17:Value) (sO sA sK:Sl) (W9:World),Blk W9 w.heap.size 33 (b.cells { m with O:=sO,AT:=sA,BK:=sK }).toArray ∧ XOwns W9 w.heap.size 46 12 sO.A b.objs.length sO.c (ocs b.objs) ∧ XOwns W9 w.heap.size 3 1 sA.A b.att.length sA.c (ics b.att) ∧ XOwns W9 w.heap.size 84 2 sK.A b.blk.length sK.c (bcs b.blk) ∧ Blk W9 (w.heap.size + 1) 33 zbd ∧ Below w.heap.size w W9 → Q .normal ⟨#[t0,.pointer (some ⟨w.heap.size,0,none⟩),t2,t3,t4,t5,u6,u7,u8,u9,u10,u11,u12,u13,u14,u15,u16,u17,t18,t19,t20,t21,t22,t23,t24,t25,t26,t27,t28,t29,t30,t31,t32,t33,t34,t35,t36,t37,t38,t39,t40,t41,t42,t43,t44],[]⟩ W9) :
  Code.wp Tryz.prog (regOf Tryz.f25 1) Q ⟨#[t0,.pointer (some ⟨w.heap.size,0,none⟩),t2,t3,t4,t5,t6,t7,t8,t9,t10,t11,t12,t13,t14,t15,t16,t17,t18,t19,t20,t21,t22,t23,t24,t25,t26,t27,t28,t29,t30,t31,t32,t33,t34,t35,t36,t37,t38,t39,t40,t41,t42,t43,t44],[]⟩ W:=by
 have HKK:=Lib.hid hK
 clear hK
 conv => arg 2;whnf
 obtain ⟨⟨OA,Oc⟩,hmO⟩:∃ x,m0.O = x:=⟨_,rfl⟩
 obtain ⟨no,hno⟩:∃ x,b.objs.length = x:=⟨_,rfl⟩
 obtain ⟨⟨AA,Ac⟩,hmA⟩:∃ x,m0.AT = x:=⟨_,rfl⟩
 obtain ⟨na,hna⟩:∃ x,b.att.length = x:=⟨_,rfl⟩
 obtain ⟨⟨KA,Kc⟩,hmK⟩:∃ x,m0.BK = x:=⟨_,rfl⟩
 obtain ⟨nk,hnk⟩:∃ x,b.blk.length = x:=⟨_,rfl⟩
 have HNN:=Lib.hid (And.intro hno (And.intro hna hnk))
 have HC2:Hid (∀ W',Below w.heap.size w W' → Calls Tryz.prog 60 #[.slice OA no Oc] W' fun e w' => ∃ A' c',e = .returned (.slice A' no c') ∧ XOwns w' W'.heap.size 46 12 A' no c' (ocs b.objs) ∧ Below W'.heap.size W' w'):=Lib.hid (fun W' hb => by
  have h1:=(hR.below hb).O
  have h2:=(hR.below hb).Oo
  rw [hmO] at h1 h2
  rw [hno] at h1
  exact clone_objs OA no Oc (ocs b.objs) W' h1 (one_ocs _) h2.2.1 (by have:=hsm.O;omega))
 have HC5:Hid (∀ W',Below w.heap.size w W' → Calls Tryz.prog 61 #[.slice AA na Ac] W' fun e w' => ∃ A' c',e = .returned (.slice A' na c') ∧ XOwns w' W'.heap.size 3 1 A' na c' (ics b.att) ∧ Below W'.heap.size W' w'):=Lib.hid (fun W' hb => by
  have h1:=(hR.below hb).AT.row
  have h2:=(hR.below hb).AT.ok
  rw [hmA] at h1 h2
  rw [hna] at h1
  exact clone_ints AA na Ac (ics b.att) W' h1 (ics_one _) h2.2.1 (by have:=hsm.AT;omega))
 have HC8:Hid (∀ W',Below w.heap.size w W' → Calls Tryz.prog 62 #[.slice KA nk Kc] W' fun e w' => ∃ A' c',e = .returned (.slice A' nk c') ∧ XOwns w' W'.heap.size 84 2 A' nk c' (bcs b.blk) ∧ Below W'.heap.size W' w'):=Lib.hid (fun W' hb => by
  have h1:=(hR.below hb).BK
  have h2:=(hR.below hb).Bo
  rw [hmK] at h1 h2
  rw [hnk] at h1
  exact clone_blks KA nk Kc (bcs b.blk) W' h1 (one_bcs _) h2.2.1 (by have:=hsm.BK;omega))
 have HP:=Lib.hid hP
 have HB:=Lib.hid hB
 have HRES:=Lib.hid hres
 have HQ:=Lib.hid hQ
 have hne_:Nonempty (In (fun W' => Blk W' w.heap.size 33 (b.cells m).toArray)):=⟨⟨W,hP⟩⟩
 have x0:∀ s:In (fun W' => Blk W' w.heap.size 33 (b.cells m).toArray),s.W.cell? ⟨w.heap.size,0,none⟩ = some (.slice OA no Oc):=fun s => (s.h.at_ 0).trans (by show some (m.O.v b.objs.length) = _;rw [eO,hmO,hno];rfl)
 have x31:∀ s:In (fun W' => Blk W' w.heap.size 33 (b.cells m).toArray),s.W.cell? ⟨w.heap.size,31,none⟩ = some (.slice AA na Ac):=fun s => (s.h.at_ 31).trans (by show some (m.AT.v b.att.length) = _;rw [eA,hmA,hna];rfl)
 have x32:∀ s:In (fun W' => Blk W' w.heap.size 33 (b.cells m).toArray),s.W.cell? ⟨w.heap.size,32,none⟩ = some (.slice KA nk Kc):=fun s => (s.h.at_ 32).trans (by show some (m.BK.v b.blk.length) = _;rw [eK,hmK,hnk];rfl)
 have hgB:=hP.lt
 clear hR hsm hB hP hres hQ hmO hno eO hmA hna eA hmK hnk eK
 have hneT:Nonempty (In (fun _ => True)):=⟨⟨W,trivial⟩⟩
 refine wp_region_late2 (Ph (fun w' => ∃ s:In (fun W' => Blk W' w.heap.size 33 (b.cells m).toArray),w' = s.W) (fun w' => ∃ s:In (fun _ => True),w' = s.W)) (fun w' => ∃ s:In (fun _ => True),w' = s.W) (fun w => ⟨⟨w,trivial⟩,rfl⟩) [10,12,14] [0,3,6] [1,4,7] (.one 2 [] (.one 5 [] (.one 8 [9] (.one 10 [11] (.one 12 [13] (.one 14 [] .done)))))) (by kernel_rfl) (by kernel_rfl) HQ.out ⟨⟨_,HP.out.drew⟩,rfl⟩ ?_
 refine quiet_as (C':=(fun w' => ∃ s:In (fun _ => True),w' = s.W)) rfl ?_
 simp only [opsAt,List.getElem?_toArray,List.getElem?_cons_succ,List.getElem?_cons_zero]
 repeat (go_big_quiet_step (fail))
 refine wpQuiet_nil ?_
 refine quiet_as (C':=(fun w' => ∃ s:In (fun W' => Blk W' w.heap.size 33 (b.cells m).toArray),w' = s.W)) rfl ?_
 try simp only [opsAt,List.getElem?_toArray,List.getElem?_cons_succ,List.getElem?_cons_zero]
 repeat (go_big_quiet_step (fail))
 refine wpQuiet_nil ?_
 obtain ⟨W_d,hwd⟩:∃ v,W.drew = v:=⟨_,rfl⟩
 have HBW_1:Hid (Below w.heap.size w W_d):=Lib.hid (by rw [← hwd];exact (HB.out).drew)
 have HBR_1:Hid (Below W.heap.size W W_d):=Lib.hid (by rw [← hwd];exact (Below.refl _ _).drew)
 have PB_1:=Lib.hid ((HP.out).call (show Below W.heap.size W W_d by rw [← hwd];exact (Below.refl _ _).drew))
 have FR_1:=Lib.hid ((HRES.out).call (show Below W.heap.size W W_d by rw [← hwd];exact (Below.refl _ _).drew))
 rw [hwd]
 clear hwd
 refine eff_as (C':=(fun w' => ∃ s:In (fun W' => Blk W' w.heap.size 33 (b.cells m).toArray),w' = s.W)) rfl ?_
 (refine eff_lit rfl rfl (fun K hK => ?_))
 go_big_op
 refine (HC2.out W_d HBW_1.out).mono ?_
 rintro e W_2 ⟨A1,e1,rfl,hx,hbW_2⟩
 have FO_3:=Lib.hid (hx.more HBW_1.out.size)
 have HBW_3:=Lib.hid (below_call HBW_1.out hbW_2 HBW_1.out.size)
 clear HBW_1
 have HBR_3:=Lib.hid (below_call HBR_1.out hbW_2 HBR_1.out.size)
 clear HBR_1
 have PB_3:=Lib.hid (PB_1.out.call hbW_2)
 clear PB_1
 have FR_3:=Lib.hid (FR_1.out.call hbW_2)
 clear FR_1
 clear hbW_2
 clear hx
 refine hK _ _ ⟨⟨_,PB_3.out⟩,rfl⟩ ?_
 clear hK K
 try simp only [opsAt,List.getElem?_toArray,List.getElem?_cons_succ,List.getElem?_cons_zero]
 refine wpQuiet_nil ?_
 refine eff_as (C':=(fun w' => ∃ s:In (fun W' => Blk W' w.heap.size 33 (b.cells m).toArray),w' = s.W)) rfl ?_
 (refine eff_lit rfl rfl (fun K hK => ?_))
 go_big_op
 refine (HC5.out W_2 HBW_3.out).mono ?_
 rintro e W_4 ⟨A2,e2,rfl,hx,hbW_4⟩
 have FA_5:=Lib.hid (hx.more HBW_3.out.size)
 have HBW_5:=Lib.hid (below_call HBW_3.out hbW_4 HBW_3.out.size)
 clear HBW_3
 have HBR_5:=Lib.hid (below_call HBR_3.out hbW_4 HBR_3.out.size)
 clear HBR_3
 have PB_5:=Lib.hid (PB_3.out.call hbW_4)
 clear PB_3
 have FR_5:=Lib.hid (FR_3.out.call hbW_4)
 clear FR_3
 have FO_5:=Lib.hid (FO_3.out.below hbW_4)
 clear FO_3
 clear hbW_4
 clear hx
 refine hK _ _ ⟨⟨_,PB_5.out⟩,rfl⟩ ?_
 clear hK K
 try simp only [opsAt,List.getElem?_toArray,List.getElem?_cons_succ,List.getElem?_cons_zero]
 refine wpQuiet_nil ?_
 refine eff_as (C':=(fun w' => ∃ s:In (fun W' => Blk W' w.heap.size 33 (b.cells m).toArray),w' = s.W)) rfl ?_
 (refine eff_lit rfl rfl (fun K hK => ?_))
 go_big_op
 refine (HC8.out W_4 HBW_5.out).mono ?_
 rintro e W_6 ⟨A3,e3,rfl,hx,hbW_6⟩
 have FK_7:=Lib.hid (hx.more HBW_5.out.size)
 have HBW_7:=Lib.hid (below_call HBW_5.out hbW_6 HBW_5.out.size)
 clear HBW_5
 have HBR_7:=Lib.hid (below_call HBR_5.out hbW_6 HBR_5.out.size)
 clear HBR_5
 have PB_7:=Lib.hid (PB_5.out.call hbW_6)
 clear PB_5
 have FR_7:=Lib.hid (FR_5.out.call hbW_6)
 clear FR_5
 have FO_7:=Lib.hid (FO_5.out.below hbW_6)
 clear FO_5
 have FA_7:=Lib.hid (FA_5.out.below hbW_6)
 clear FA_5
 clear hbW_6
 clear hx
 refine hK _ _ ⟨⟨_,PB_7.out⟩,rfl⟩ ?_
 clear hK K
 try simp only [opsAt,List.getElem?_toArray,List.getElem?_cons_succ,List.getElem?_cons_zero]
 repeat (go_big_quiet_step (fail))
 refine wpQuiet_nil ?_
 refine eff_as (C':=(fun w' => ∃ s:In (fun _ => True),w' = s.W)) rfl ?_
 (refine eff_lit rfl rfl (fun K hK => ?_))
 have q9:=(PB_7.out.at_ 0).trans rfl
 have f9:=PB_7.out.free 0
 have l9:=PB_7.out.lt
 go_big_op
 obtain ⟨W_8,hvW_8⟩:∃ v,W_6.setCell ⟨w.heap.size,0,none⟩ (.slice A1 no e1) = v:=⟨_,rfl⟩
 have hg9:W_6.grownBy W_8 (some w.heap.size):=by rw [← hvW_8];exact only_setCell (only_refl _ _) (.inl rfl) _
 have hk9:=PB_7.out.put 0 (.slice A1 no e1)
 rw [hvW_8] at hk9
 rw [hvW_8]
 clear q9 f9 l9 hvW_8
 have HBW_9:=Lib.hid (HBW_7.out.grown hg9 HBW_7.out.size (fun q hq => by injection hq with hq;omega))
 clear HBW_7
 have FR_9:=Lib.hid (FR_7.out.grown hg9 (fun e => by injection e with e;omega))
 clear FR_7
 have FO_9:=Lib.hid (FO_7.out.blk_ PB_7.out hg9 (by decide))
 clear FO_7
 have FA_9:=Lib.hid (FA_7.out.blk_ PB_7.out hg9 (by decide))
 clear FA_7
 have FK_9:=Lib.hid (FK_7.out.blk_ PB_7.out hg9 (by decide))
 clear FK_7
 have PB_10:=Lib.hid hk9
 clear hk9 hg9 PB_7
 refine hK _ _ ⟨⟨_,trivial⟩,rfl⟩ ?_
 clear hK K
 try simp only [opsAt,List.getElem?_toArray,List.getElem?_cons_succ,List.getElem?_cons_zero]
 try simp only [Act.put]
 repeat (go_big_quiet_step (fail))
 refine wpQuiet_nil ?_
 refine eff_as (C':=(fun w' => ∃ s:In (fun _ => True),w' = s.W)) rfl ?_
 (refine eff_lit rfl rfl (fun K hK => ?_))
 have q9:=(PB_10.out.at_ 31).trans rfl
 have f9:=PB_10.out.free 31
 have l9:=PB_10.out.lt
 go_big_op
 obtain ⟨W_11,hvW_11⟩:∃ v,W_8.setCell ⟨w.heap.size,31,none⟩ (.slice A2 na e2) = v:=⟨_,rfl⟩
 have hg9:W_8.grownBy W_11 (some w.heap.size):=by rw [← hvW_11];exact only_setCell (only_refl _ _) (.inl rfl) _
 have hk9:=PB_10.out.put 31 (.slice A2 na e2)
 rw [hvW_11] at hk9
 rw [hvW_11]
 clear q9 f9 l9 hvW_11
 have HBW_12:=Lib.hid (HBW_9.out.grown hg9 HBW_9.out.size (fun q hq => by injection hq with hq;omega))
 clear HBW_9
 have FR_12:=Lib.hid (FR_9.out.grown hg9 (fun e => by injection e with e;omega))
 clear FR_9
 have FO_12:=Lib.hid (FO_9.out.blk_ PB_10.out hg9 (by decide))
 clear FO_9
 have FA_12:=Lib.hid (FA_9.out.blk_ PB_10.out hg9 (by decide))
 clear FA_9
 have FK_12:=Lib.hid (FK_9.out.blk_ PB_10.out hg9 (by decide))
 clear FK_9
 have PB_13:=Lib.hid hk9
 clear hk9 hg9 PB_10
 refine hK _ _ ⟨⟨_,trivial⟩,rfl⟩ ?_
 clear hK K
 try simp only [opsAt,List.getElem?_toArray,List.getElem?_cons_succ,List.getElem?_cons_zero]
 try simp only [Act.put]
 repeat (go_big_quiet_step (fail))
 refine wpQuiet_nil ?_
 refine eff_as (C':=(fun w' => ∃ s:In (fun _ => True),w' = s.W)) rfl ?_
 (refine eff_lit rfl rfl (fun K hK => ?_))
 have q9:=(PB_13.out.at_ 32).trans rfl
 have f9:=PB_13.out.free 32
 have l9:=PB_13.out.lt
 go_big_op
 obtain ⟨W_14,hvW_14⟩:∃ v,W_11.setCell ⟨w.heap.size,32,none⟩ (.slice A3 nk e3) = v:=⟨_,rfl⟩
 have hg9:W_11.grownBy W_14 (some w.heap.size):=by rw [← hvW_14];exact only_setCell (only_refl _ _) (.inl rfl) _
 have hk9:=PB_13.out.put 32 (.slice A3 nk e3)
 rw [hvW_14] at hk9
 rw [hvW_14]
 clear q9 f9 l9 hvW_14
 have HBW_15:=Lib.hid (HBW_12.out.grown hg9 HBW_12.out.size (fun q hq => by injection hq with hq;omega))
 clear HBW_12
 have FR_15:=Lib.hid (FR_12.out.grown hg9 (fun e => by injection e with e;omega))
 clear FR_12
 have FO_15:=Lib.hid (FO_12.out.blk_ PB_13.out hg9 (by decide))
 clear FO_12
 have FA_15:=Lib.hid (FA_12.out.blk_ PB_13.out hg9 (by decide))
 clear FA_12
 have FK_15:=Lib.hid (FK_12.out.blk_ PB_13.out hg9 (by decide))
 clear FK_12
 have PB_16:=Lib.hid hk9
 clear hk9 hg9 PB_13
 refine hK _ _ ⟨⟨_,trivial⟩,rfl⟩ ?_
 clear hK K
 try simp only [opsAt,List.getElem?_toArray,List.getElem?_cons_succ,List.getElem?_cons_zero]
 refine wpQuiet_nil ?_
 refine effs_done ?_
 have hPC:(((b.cells m).toArray.setIfInBounds 0 (.slice A1 no e1)).setIfInBounds 31 (.slice A2 na e2)).setIfInBounds 32 (.slice A3 nk e3) = (b.cells { m with O:=⟨A1,e1⟩,AT:=⟨A2,e2⟩,BK:=⟨A3,e3⟩ }).toArray:=by
  simp only [Bd.cells,Se.cells,Sl.v,List.cons_append,List.nil_append,List.setIfInBounds_toArray,List.set_cons_succ,List.set_cons_zero]
  rw [HNN.out.1,HNN.out.2.1,HNN.out.2.2]
 have hPB:=PB_16.out
 rw [hPC] at hPB
 refine HKK.out _ _ _ _ _ _ _ _ _ _ _ _ ⟨A1,e1⟩ ⟨A2,e2⟩ ⟨A3,e3⟩ _ ⟨hPB,?_,?_,?_,FR_15.out,HBW_15.out⟩
 ·show XOwns _ _ _ _ _ b.objs.length _ _
  rw [HNN.out.1];exact FO_15.out
 ·show XOwns _ _ _ _ _ b.att.length _ _
  rw [HNN.out.2.1];exact FA_15.out
 ·show XOwns _ _ _ _ _ b.blk.length _ _
  rw [HNN.out.2.2];exact FK_15.out

set_option maxRecDepth 100000 in
set_option maxHeartbeats 3200000 in
theorem bcp2 (w W:World) (b:Bd) (m0 m:BdM) (hR:BdR w b m0) (hsm:BdSm b) (hB:Below w.heap.size w W) (hP:Blk W w.heap.size 33 (b.cells m).toArray) (hres:Blk W (w.heap.size + 1) 33 zbd) (eS:m.S = m0.S) (eQ:m.Q = m0.Q) (hO9:XOwns W w.heap.size 46 12 m.O.A b.objs.length m.O.c (ocs b.objs)) (hA9:XOwns W w.heap.size 3 1 m.AT.A b.att.length m.AT.c (ics b.att)) (hK9:XOwns W w.heap.size 84 2 m.BK.A b.blk.length m.BK.c (bcs b.blk)) (Q:Exit → Act → World → Prop) (t0 t2 t3 t4 t5 t6 t7 t8 t9 t10 t11 t12 t13 t14 t15 t16 t17 t18 t19 t20 t21 t22 t23 t24 t25 t26 t27 t28 t29 t30 t31 t32 t33 t34 t35 t36 t37 t38 t39 t40 t41 t42 t43 t44:Value)
  (hQ:∀ d v c a w,Q (.panic c) (Act.put a d v) w → Q (.panic c) a w)
  (hK:∀ (u18 u19 u20 u21 u22 u23 u24 u25:Value) (sS sQ:Sl) (ST QT:List Sl) (W9:World),Blk W9 w.heap.size 33 (b.cells { m with S:=sS,Q:=sQ,ST:=ST,QT:=QT }).toArray ∧ IsO W9 w.heap.size sS b.stk ST ∧ IsO W9 w.heap.size sQ b.que QT ∧ XOwns W9 w.heap.size 46 12 m.O.A b.objs.length m.O.c (ocs b.objs) ∧ XOwns W9 w.heap.size 3 1 m.AT.A b.att.length m.AT.c (ics b.att) ∧ XOwns W9 w.heap.size 84 2 m.BK.A b.blk.length m.BK.c (bcs b.blk) ∧ Blk W9 (w.heap.size + 1) 33 zbd ∧ Below w.heap.size w W9 → Q .normal ⟨#[t0,.pointer (some ⟨w.heap.size,0,none⟩),t2,t3,t4,t5,t6,t7,t8,t9,t10,t11,t12,t13,t14,t15,t16,t17,u18,u19,u20,u21,u22,u23,u24,u25,t26,t27,t28,t29,t30,t31,t32,t33,t34,t35,t36,t37,t38,t39,t40,t41,t42,t43,t44],[]⟩ W9) :
  Code.wp Tryz.prog (regOf Tryz.f25 2) Q ⟨#[t0,.pointer (some ⟨w.heap.size,0,none⟩),t2,t3,t4,t5,t6,t7,t8,t9,t10,t11,t12,t13,t14,t15,t16,t17,t18,t19,t20,t21,t22,t23,t24,t25,t26,t27,t28,t29,t30,t31,t32,t33,t34,t35,t36,t37,t38,t39,t40,t41,t42,t43,t44],[]⟩ W:=by
 have HKK:=Lib.hid hK
 clear hK
 conv => arg 2;whnf
 obtain ⟨⟨SA,Sc⟩,hmS⟩:∃ x,m0.S = x:=⟨_,rfl⟩
 obtain ⟨ns,hns⟩:∃ x,b.stk.length = x:=⟨_,rfl⟩
 obtain ⟨⟨QA,Qc⟩,hmQ⟩:∃ x,m0.Q = x:=⟨_,rfl⟩
 obtain ⟨nq,hnq⟩:∃ x,b.que.length = x:=⟨_,rfl⟩
 have HNN:=Lib.hid (And.intro hns hnq)
 have HC2:Hid (∀ W',Below w.heap.size w W' → Calls Tryz.prog 63 #[.slice SA ns Sc] W' (ItsEnd b.stk ns W')):=Lib.hid (fun W' hb => by
  have hS:=(hR.below hb).S
  rw [hmS] at hS
  exact its_board ⟨SA,Sc⟩ ns b.stk m0.ST W' hS hns (by have:=hsm.S;omega) (fun x hx => by have:=hsm.ST x hx;omega))
 have HC5:Hid (∀ W',Below w.heap.size w W' → Calls Tryz.prog 63 #[.slice QA nq Qc] W' (ItsEnd b.que nq W')):=Lib.hid (fun W' hb => by
  have hS:=(hR.below hb).Q
  rw [hmQ] at hS
  exact its_board ⟨QA,Qc⟩ nq b.que m0.QT W' hS hnq (by have:=hsm.Q;omega) (fun x hx => by have:=hsm.QT x hx;omega))
 have HP:=Lib.hid hP
 have HB:=Lib.hid hB
 have HRES:=Lib.hid hres
 have HQ:=Lib.hid hQ
 have hne_:Nonempty (In (fun W' => Blk W' w.heap.size 33 (b.cells m).toArray)):=⟨⟨W,hP⟩⟩
 have x29:∀ s:In (fun W' => Blk W' w.heap.size 33 (b.cells m).toArray),s.W.cell? ⟨w.heap.size,29,none⟩ = some (.slice SA ns Sc):=fun s => (s.h.at_ 29).trans (by show some (m.S.v b.stk.length) = _;rw [eS,hmS,hns];rfl)
 have x30:∀ s:In (fun W' => Blk W' w.heap.size 33 (b.cells m).toArray),s.W.cell? ⟨w.heap.size,30,none⟩ = some (.slice QA nq Qc):=fun s => (s.h.at_ 30).trans (by show some (m.Q.v b.que.length) = _;rw [eQ,hmQ,hnq];rfl)
 have hgB:=hP.lt
 have HO9:=Lib.hid hO9
 have HA9:=Lib.hid hA9
 have HK9:=Lib.hid hK9
 clear hO9 hA9 hK9
 clear hR hsm hB hP hres hQ hmS hns eS hmQ hnq eQ
 have hneT:Nonempty (In (fun _ => True)):=⟨⟨W,trivial⟩⟩
 refine wp_region_late2 (Ph (fun w' => ∃ s:In (fun W' => Blk W' w.heap.size 33 (b.cells m).toArray),w' = s.W) (fun w' => ∃ s:In (fun _ => True),w' = s.W)) (fun w' => ∃ s:In (fun _ => True),w' = s.W) (fun w => ⟨⟨w,trivial⟩,rfl⟩) [7,9] [0,3] [1,4] (.one 2 [] (.one 5 [6] (.one 7 [8] (.one 9 [] .done)))) (by kernel_rfl) (by kernel_rfl) HQ.out ⟨⟨_,HP.out.drew⟩,rfl⟩ ?_
 refine quiet_as (C':=(fun w' => ∃ s:In (fun _ => True),w' = s.W)) rfl ?_
 simp only [opsAt,List.getElem?_toArray,List.getElem?_cons_succ,List.getElem?_cons_zero]
 repeat (go_big_quiet_step (fail))
 refine wpQuiet_nil ?_
 refine quiet_as (C':=(fun w' => ∃ s:In (fun W' => Blk W' w.heap.size 33 (b.cells m).toArray),w' = s.W)) rfl ?_
 try simp only [opsAt,List.getElem?_toArray,List.getElem?_cons_succ,List.getElem?_cons_zero]
 repeat (go_big_quiet_step (fail))
 refine wpQuiet_nil ?_
 obtain ⟨W_d,hwd⟩:∃ v,W.drew = v:=⟨_,rfl⟩
 have HBW_1:Hid (Below w.heap.size w W_d):=Lib.hid (by rw [← hwd];exact (HB.out).drew)
 have HBR_1:Hid (Below W.heap.size W W_d):=Lib.hid (by rw [← hwd];exact (Below.refl _ _).drew)
 have PB_1:=Lib.hid ((HP.out).call (show Below W.heap.size W W_d by rw [← hwd];exact (Below.refl _ _).drew))
 have FR_1:=Lib.hid ((HRES.out).call (show Below W.heap.size W W_d by rw [← hwd];exact (Below.refl _ _).drew))
 have GO_1:=Lib.hid ((HO9.out).below (show Below W.heap.size W W_d by rw [← hwd];exact (Below.refl _ _).drew))
 have GA_1:=Lib.hid ((HA9.out).below (show Below W.heap.size W W_d by rw [← hwd];exact (Below.refl _ _).drew))
 have GK_1:=Lib.hid ((HK9.out).below (show Below W.heap.size W W_d by rw [← hwd];exact (Below.refl _ _).drew))
 rw [hwd]
 clear hwd
 refine eff_as (C':=(fun w' => ∃ s:In (fun W' => Blk W' w.heap.size 33 (b.cells m).toArray),w' = s.W)) rfl ?_
 (refine eff_lit rfl rfl (fun K hK => ?_))
 go_big_op
 refine (HC2.out W_d HBW_1.out).mono ?_
 rintro e W_2 ⟨⟨A1,e1⟩,T1,rfl,hx,hbW_2⟩
 have FS_3:=Lib.hid ((hx.more HBW_1.out.size:IsO _ w.heap.size ⟨A1,e1⟩ b.stk T1))
 have HBW_3:=Lib.hid (below_call HBW_1.out hbW_2 HBW_1.out.size)
 clear HBW_1
 have HBR_3:=Lib.hid (below_call HBR_1.out hbW_2 HBR_1.out.size)
 clear HBR_1
 have PB_3:=Lib.hid (PB_1.out.call hbW_2)
 clear PB_1
 have FR_3:=Lib.hid (FR_1.out.call hbW_2)
 clear FR_1
 have GO_3:=Lib.hid (GO_1.out.below hbW_2)
 clear GO_1
 have GA_3:=Lib.hid (GA_1.out.below hbW_2)
 clear GA_1
 have GK_3:=Lib.hid (GK_1.out.below hbW_2)
 clear GK_1
 clear hbW_2
 clear hx
 refine hK _ _ ⟨⟨_,PB_3.out⟩,rfl⟩ ?_
 clear hK K
 try simp only [opsAt,List.getElem?_toArray,List.getElem?_cons_succ,List.getElem?_cons_zero]
 refine wpQuiet_nil ?_
 refine eff_as (C':=(fun w' => ∃ s:In (fun W' => Blk W' w.heap.size 33 (b.cells m).toArray),w' = s.W)) rfl ?_
 (refine eff_lit rfl rfl (fun K hK => ?_))
 go_big_op
 refine (HC5.out W_2 HBW_3.out).mono ?_
 rintro e W_4 ⟨⟨A2,e2⟩,T2,rfl,hx,hbW_4⟩
 have FQ_5:=Lib.hid ((hx.more HBW_3.out.size:IsO _ w.heap.size ⟨A2,e2⟩ b.que T2))
 have HBW_5:=Lib.hid (below_call HBW_3.out hbW_4 HBW_3.out.size)
 clear HBW_3
 have HBR_5:=Lib.hid (below_call HBR_3.out hbW_4 HBR_3.out.size)
 clear HBR_3
 have PB_5:=Lib.hid (PB_3.out.call hbW_4)
 clear PB_3
 have FR_5:=Lib.hid (FR_3.out.call hbW_4)
 clear FR_3
 have GO_5:=Lib.hid (GO_3.out.below hbW_4)
 clear GO_3
 have GA_5:=Lib.hid (GA_3.out.below hbW_4)
 clear GA_3
 have GK_5:=Lib.hid (GK_3.out.below hbW_4)
 clear GK_3
 have FS_5:=Lib.hid (FS_3.out.below hbW_4)
 clear FS_3
 clear hbW_4
 clear hx
 refine hK _ _ ⟨⟨_,PB_5.out⟩,rfl⟩ ?_
 clear hK K
 try simp only [opsAt,List.getElem?_toArray,List.getElem?_cons_succ,List.getElem?_cons_zero]
 repeat (go_big_quiet_step (fail))
 refine wpQuiet_nil ?_
 refine eff_as (C':=(fun w' => ∃ s:In (fun _ => True),w' = s.W)) rfl ?_
 (refine eff_lit rfl rfl (fun K hK => ?_))
 have q9:=(PB_5.out.at_ 29).trans rfl
 have f9:=PB_5.out.free 29
 have l9:=PB_5.out.lt
 go_big_op
 obtain ⟨W_6,hvW_6⟩:∃ v,W_4.setCell ⟨w.heap.size,29,none⟩ (.slice A1 ns e1) = v:=⟨_,rfl⟩
 have hg9:W_4.grownBy W_6 (some w.heap.size):=by rw [← hvW_6];exact only_setCell (only_refl _ _) (.inl rfl) _
 have hk9:=PB_5.out.put 29 (.slice A1 ns e1)
 rw [hvW_6] at hk9
 rw [hvW_6]
 clear q9 f9 l9 hvW_6
 have HBW_7:=Lib.hid (HBW_5.out.grown hg9 HBW_5.out.size (fun q hq => by injection hq with hq;omega))
 clear HBW_5
 have FR_7:=Lib.hid (FR_5.out.grown hg9 (fun e => by injection e with e;omega))
 clear FR_5
 have GO_7:=Lib.hid (GO_5.out.blk_ PB_5.out hg9 (by decide))
 clear GO_5
 have GA_7:=Lib.hid (GA_5.out.blk_ PB_5.out hg9 (by decide))
 clear GA_5
 have GK_7:=Lib.hid (GK_5.out.blk_ PB_5.out hg9 (by decide))
 clear GK_5
 have FS_7:=Lib.hid (FS_5.out.blk PB_5.out hg9 (by decide) (by decide))
 clear FS_5
 have FQ_7:=Lib.hid (FQ_5.out.blk PB_5.out hg9 (by decide) (by decide))
 clear FQ_5
 have PB_8:=Lib.hid hk9
 clear hk9 hg9 PB_5
 refine hK _ _ ⟨⟨_,trivial⟩,rfl⟩ ?_
 clear hK K
 try simp only [opsAt,List.getElem?_toArray,List.getElem?_cons_succ,List.getElem?_cons_zero]
 try simp only [Act.put]
 repeat (go_big_quiet_step (fail))
 refine wpQuiet_nil ?_
 refine eff_as (C':=(fun w' => ∃ s:In (fun _ => True),w' = s.W)) rfl ?_
 (refine eff_lit rfl rfl (fun K hK => ?_))
 have q9:=(PB_8.out.at_ 30).trans rfl
 have f9:=PB_8.out.free 30
 have l9:=PB_8.out.lt
 go_big_op
 obtain ⟨W_9,hvW_9⟩:∃ v,W_6.setCell ⟨w.heap.size,30,none⟩ (.slice A2 nq e2) = v:=⟨_,rfl⟩
 have hg9:W_6.grownBy W_9 (some w.heap.size):=by rw [← hvW_9];exact only_setCell (only_refl _ _) (.inl rfl) _
 have hk9:=PB_8.out.put 30 (.slice A2 nq e2)
 rw [hvW_9] at hk9
 rw [hvW_9]
 clear q9 f9 l9 hvW_9
 have HBW_10:=Lib.hid (HBW_7.out.grown hg9 HBW_7.out.size (fun q hq => by injection hq with hq;omega))
 clear HBW_7
 have FR_10:=Lib.hid (FR_7.out.grown hg9 (fun e => by injection e with e;omega))
 clear FR_7
 have GO_10:=Lib.hid (GO_7.out.blk_ PB_8.out hg9 (by decide))
 clear GO_7
 have GA_10:=Lib.hid (GA_7.out.blk_ PB_8.out hg9 (by decide))
 clear GA_7
 have GK_10:=Lib.hid (GK_7.out.blk_ PB_8.out hg9 (by decide))
 clear GK_7
 have FS_10:=Lib.hid (FS_7.out.blk PB_8.out hg9 (by decide) (by decide))
 clear FS_7
 have FQ_10:=Lib.hid (FQ_7.out.blk PB_8.out hg9 (by decide) (by decide))
 clear FQ_7
 have PB_11:=Lib.hid hk9
 clear hk9 hg9 PB_8
 refine hK _ _ ⟨⟨_,trivial⟩,rfl⟩ ?_
 clear hK K
 try simp only [opsAt,List.getElem?_toArray,List.getElem?_cons_succ,List.getElem?_cons_zero]
 refine wpQuiet_nil ?_
 refine effs_done ?_
 have hPC:((b.cells m).toArray.setIfInBounds 29 (.slice A1 ns e1)).setIfInBounds 30 (.slice A2 nq e2) = (b.cells { m with S:=⟨A1,e1⟩,Q:=⟨A2,e2⟩,ST:=T1,QT:=T2 }).toArray:=by
  simp only [Bd.cells,Se.cells,Sl.v,List.cons_append,List.nil_append,List.setIfInBounds_toArray,List.set_cons_succ,List.set_cons_zero]
  rw [HNN.out.1,HNN.out.2]
 have hPB:=PB_11.out
 rw [hPC] at hPB
 exact HKK.out _ _ _ _ _ _ _ _ ⟨A1,e1⟩ ⟨A2,e2⟩ T1 T2 _ ⟨hPB,FS_10.out,FQ_10.out,GO_10.out,GA_10.out,GK_10.out,FR_10.out,HBW_10.out⟩

end Go.Proofs.YtagpphelgghbpaaGreat
