/-
  Texts: Weq, Alk.
-/
import Derived.Test.YtagpphelgghbpaaGreatMk32
import Derived.Test.YtagpphelgghbpaaGreatMk23
import Derived.Test.YtagpphelgghbpaaGreatMk16
set_option linter.unusedSimpArgs false
set_option linter.unusedVariables false
namespace Go.Proofs.YtagpphelgghbpaaGreat
open Go.RowKit

theorem bequal_any (A B:Option Addr) (n c n' c':Nat) (xs ys:List Int) (w:World) (hx:BReads w A n xs) (hy:BReads w B n' ys) :
  Calls Tryz.prog 105 #[.slice A n c,.slice B n' c'] w fun e w' => e = .returned (.bool (xs == ys)) ∧ w = w':=by
 have h1:=convert_bytes (P:=Tryz.prog) hx c 161 5 Tryz.underlying161 Tryz.underlying5 9 Tryz.underlying9
 have h2:=convert_bytes (P:=Tryz.prog) hy c' 161 5 Tryz.underlying161 Tryz.underlying5 9 Tryz.underlying9
 have h3:=Lib.hid (str_inj hx.2 hy.2)
 go_enter Tryz.func105,Tryz.ntmps105
 go_wp2
 go_ret
 exact ⟨by rw [← h3.out];rfl,rfl⟩
theorem vsN_wf {s:Vs} (h:VsF s):∀ z ∈ vsN s,wfI z:=by
 intro z hz
 unfold vsN at hz
 rcases List.mem_append.1 hz with hz | hz
 ·exact h.n z (by simp only [List.mem_cons,List.not_mem_nil,or_false] at hz ⊢;rcases hz with h | h | h | h | h | h | h <;> simp [h])
 rcases List.mem_append.1 hz with hz | hz
 ·exact obsN_wf h.F h.lF z hz
 rcases List.mem_append.1 hz with hz | hz
 ·exact obsN_wf h.G h.lG z hz
 simp only [List.mem_cons,List.not_mem_nil,or_false] at hz
 rcases hz with e | e | e | e | e
 ·rw [e];exact tf_wf _
 ·rw [e];exact tf_wf _
 ·rw [e];exact tf_wf _
 ·exact h.n z (by simp [e])
 ·exact h.n z (by simp [e])
theorem vwN_wf {who:Int} {v:Pu} {hd:List Ob} (h:VwF who v hd):∀ z ∈ vwN who v hd,wfI z:=by
 intro z hz
 unfold vwN at hz
 rcases List.mem_cons.1 hz with hz | hz
 ·rw [hz];exact h.who
 rcases List.mem_append.1 hz with hz | hz
 ·exact vsN_wf h.s0 z hz
 rcases List.mem_append.1 hz with hz | hz
 ·exact vsN_wf h.s1 z hz
 rcases List.mem_append.1 hz with hz | hz
 ·exact obsN_wf h.H h.lH z hz
 rcases List.mem_append.1 hz with hz | hz
 ·exact itsN_wf h.S h.lS z hz
 rcases List.mem_append.1 hz with hz | hz
 ·exact itsN_wf h.Q h.lQ z hz
 rcases List.mem_cons.1 hz with hz | hz
 ·rw [hz];exact wf_nat (by have:=h.lA;omega)
 rcases List.mem_append.1 hz with hz | hz
 ·exact h.A z hz
 rcases List.mem_cons.1 hz with hz | hz
 ·rw [hz];exact wf_nat (by have:=h.lK;omega)
 rcases List.mem_append.1 hz with hz | hz
 ·obtain ⟨x,hx,hz⟩:=List.mem_flatMap.1 hz
  exact h.K x hx z hz
 simp only [List.mem_cons,List.not_mem_nil,or_false] at hz
 rcases hz with e | e | e | e | e | e | e | e | e <;> first | (rw [e];unfold wfI;decide) | (rw [e];exact h.t _ (by simp))
theorem vis_eq {a b:List Int} (ha:∀ z ∈ a,wfI z) (hb:∀ z ∈ b,wfI z):(vis a == vis b) = decide (a = b):=by
 by_cases h:a = b
 ·subst h
  simp
 ·rw [decide_eq_false h]
  rw [beq_eq_false_iff_ne]
  exact fun e => h (vis_inj ha hb e)
set_option maxRecDepth 100000 in
set_option maxHeartbeats 3200000 in
theorem vequal_any (w:World) (who who':Int) (v v':Pu) (hd hd':List Ob) (pm pm':PuM) (HA HA':Option Addr) (Hc Hc':Nat) (hF:VwF who v hd) (hF':VwF who' v' hd') (hT:VwT w v hd pm HA) (hT':VwT w v' hd' pm' HA') :
  Calls Tryz.prog 73 #[.agg (vwc who (v.v0.cells pm.m0) (v.v1.cells pm.m1) (.slice HA hd.length Hc) (v.tail pm)).toArray,.agg (vwc who' (v'.v0.cells pm'.m0) (v'.v1.cells pm'.m1) (.slice HA' hd'.length Hc') (v'.tail pm')).toArray] w fun e w' => e = .returned (.bool (decide (vwN who v hd = vwN who' v' hd'))) ∧ Below w.heap.size w w':=by
 have HE:=Lib.hid (vis_eq (vwN_wf hF) (vwN_wf hF'))
 obtain ⟨gX,hgX⟩:∃ x,w.heap.size = x:=⟨_,rfl⟩
 have hl1:(vwc who (v.v0.cells pm.m0) (v.v1.cells pm.m1) (.slice HA hd.length Hc) (v.tail pm)).length = 43:=rfl
 have hl2:(vwc who' (v'.v0.cells pm'.m0) (v'.v1.cells pm'.m1) (.slice HA' hd'.length Hc') (v'.tail pm')).length = 43:=rfl
 obtain ⟨VA,hVA⟩:∃ x,vwc who (v.v0.cells pm.m0) (v.v1.cells pm.m1) (.slice HA hd.length Hc) (v.tail pm) = x:=⟨_,rfl⟩
 obtain ⟨VB,hVB⟩:∃ x,vwc who' (v'.v0.cells pm'.m0) (v'.v1.cells pm'.m1) (.slice HA' hd'.length Hc') (v'.tail pm') = x:=⟨_,rfl⟩
 rw [hVA] at hl1 ⊢
 rw [hVB] at hl2 ⊢
 obtain ⟨w4,hw4⟩:∃ x,(((w.alloc (.cells VA.toArray 98)).alloc (.cells VB.toArray 98)).alloc (.cells #[.slice none 0 0,.bool false] 163)).alloc (.cells #[.slice none 0 0,.bool false] 163) = x:=⟨_,rfl⟩
 have hb4:Below w.heap.size w w4:=by rw [← hw4];exact ((((Below.refl _ _).alloc (Nat.le_refl _) _).alloc (by simp) _).alloc (by simp;omega) _).alloc (by simp;omega) _
 have HKA:Hid (Blk w4 gX 98 VA.toArray):=Lib.hid (by rw [← hw4];exact (((Blk.mk_ w _ _ _ hgX).alloc _).alloc _).alloc _)
 have HKB:Hid (Blk w4 (gX + 1) 98 VB.toArray):=Lib.hid (by rw [← hw4];exact ((Blk.mk_ _ _ _ _ (by simp [hgX])).alloc _).alloc _)
 have HPX:Hid (Blk w4 (gX + 2) 163 #[.slice none 0 0,.bool false]):=Lib.hid (by rw [← hw4];exact (Blk.mk_ _ _ _ _ (by simp [hgX])).alloc _)
 have HPY:Hid (Blk w4 (gX + 3) 163 #[.slice none 0 0,.bool false]):=Lib.hid (by rw [← hw4];exact Blk.mk_ _ _ _ _ (by simp [hgX]))
 have HNEW:Hid (∀ (W:World) (p:Nat),Blk W p 163 #[.slice none 0 0,.bool false] → WrK W p [] ∧ ∀ j,¬ OwnB W p j):=Lib.hid (fun W p h => ⟨⟨⟨_,_,_,_,h,BOwns.nil _ _ _⟩,fun x hx => by cases hx⟩,fun j hj => by
  obtain ⟨ad,n,c,h1,_⟩:=hj
  have h2:W.cell? ⟨p,0,none⟩ = some (.slice none 0 0):=(h.at_ 0).trans rfl
  rw [h2] at h1
  cases h1⟩)
 have HLD:Hid (∀ (W:World) (g:Nat) (L:List Value),L.length = 43 → Blk W g 98 L.toArray → (Instr.loadAt 98 (.pointer (some ⟨g,0,none⟩))).run Tryz.prog W = .ok (.agg L.toArray) W):=Lib.hid (fun W g L hl h => h.mid L _ (fun j v hj => by rw [Nat.zero_add];simpa using hj) Tryz.underlying98 rfl (by rw [size_view,hl]))
 have HLA:=Lib.hid (HLD.out w4 gX VA hl1 HKA.out)
 have HCA:Hid (Calls Tryz.prog 104 #[.pointer (some ⟨gX + 2,0,none⟩),.agg VA.toArray] w4 (WrEnd (gX + 2) (vwN who v hd) w4)):=Lib.hid (by rw [← hVA];exact wview_any w4 (gX + 2) who v hd pm HA Hc (HNEW.out _ _ HPX.out).1 hF (hT.call hb4))
 have HTB:=Lib.hid (hT'.call hb4)
 have HFB:=Lib.hid hF'
 have HVB:=Lib.hid hVB
 have HL2:=Lib.hid hl2
 have HB4:=Lib.hid hb4
 have HGX:=Lib.hid hgX
 clear hF hF' hT hT' hb4 hVA hVB hl1 hl2
 go_enter Tryz.func73,Tryz.ntmps73
 go_wp2_with (first
  | (refine wpList_load_by HLA.out rfl rfl rfl ?_;simp only [Act.put,List.setIfInBounds_toArray,List.set_cons_succ,List.set_cons_zero])
  | (go_at_call 104;fail)
  | fail)
 refine HCA.out.mono ?_
 rintro e w5 ⟨rfl,hx5,hf5⟩
 have HX5:=Lib.hid hx5
 have hkx:=(HNEW.out _ _ HPX.out).1
 have hno:=(HNEW.out _ _ HPX.out).2
 have HKB5:=Lib.hid (HKB.out.wfk hf5 hkx (by decide))
 have HPY5:=Lib.hid (HPY.out.onlyF hf5.o (by
  rintro (h | h)
  ·omega
  ·exact hno _ h))
 have HTB5:=Lib.hid (HTB.out.wfk hf5 hkx)
 have HB5:=Lib.hid (HB4.out.trans (hf5.o.below HB4.out.size (fun i hi => by
  rcases hi with h | h
  ·have:=HGX.out;omega
  ·exact absurd h (hno i))))
 have HLB:=Lib.hid (HLD.out w5 (gX + 1) VB HL2.out HKB5.out)
 have HCB:Hid (Calls Tryz.prog 104 #[.pointer (some ⟨gX + 3,0,none⟩),.agg VB.toArray] w5 (WrEnd (gX + 3) (vwN who' v' hd') w5)):=Lib.hid (by rw [← HVB.out];exact wview_any w5 (gX + 3) who' v' hd' pm' HA' Hc' (HNEW.out _ _ HPY5.out).1 HFB.out HTB5.out)
 clear hx5 hf5 hkx hno HCA HLA hw4
 go_wp2_with (first
  | (refine wpList_load_by HLB.out rfl rfl rfl ?_;simp only [Act.put,List.setIfInBounds_toArray,List.set_cons_succ,List.set_cons_zero])
  | fail)
 refine HCB.out.mono ?_
 rintro e w6 ⟨rfl,hy6,hf6⟩
 have hno:=(HNEW.out _ _ HPY5.out).2
 obtain ⟨A1,n1,c1,b1,hp1,ho1⟩:=HX5.out
 obtain ⟨A2,n2,c2,b2,hp2,ho2⟩:=hy6
 have hnF:∀ i,i ≠ gX + 3 → ¬ (i = gX + 3 ∨ OwnB w5 (gX + 3) i):=fun i h1 h2 => by
  rcases h2 with h2 | h2
  ·exact h1 h2
  ·exact hno i h2
 have hp1':=hp1.onlyF hf6.o (hnF _ (by omega))
 have ho1':BOwns w6 0 5 A1 n1 c1 (vis (vwN who v hd)):=(ho1.x.onlyF hf6.o (fun i hi => hnF i (fun e => by
  subst e
  exact ho1.x.apart_blk HPY5.out (by decide) hi))).b ho1.2.1
 have HB6:=Lib.hid (HB5.out.trans (hf6.o.below HB5.out.size (fun i hi => by
  rcases hi with h | h
  ·have:=HGX.out;omega
  ·exact absurd h (hno i))))
 have c1x:w6.cell? ⟨gX + 2,0,none⟩ = some (.slice A1 n1 c1):=(hp1'.at_ 0).trans rfl
 have c2x:w6.cell? ⟨gX + 3,0,none⟩ = some (.slice A2 n2 c2):=(hp2.at_ 0).trans rfl
 have HBQ:=Lib.hid (bequal_any A1 A2 n1 c1 n2 c2 _ _ w6 ho1'.reads ho2.reads)
 clear hp1 hp2 ho1 ho2 hp1' ho1' hf6 hno hnF HCB HLB
 go_wp2_with (first
  | (go_at_call 105;refine HBQ.out.mono ?_;rintro e w_ ⟨rfl,rfl⟩)
  | fail)
 go_ret
 exact ⟨by rw [← HE.out];rfl,HB6.out⟩

theorem inR_wf {n a b:Int} (h:inR n a b = true) (ha:-1000000 ≤ a) (hb:b ≤ 1000000):wfI n:=by
 unfold inR at h
 simp only [Bool.and_eq_true,decide_eq_true_eq] at h
 unfold wfI
 omega
theorem obOk_wf {o:Ob} (h:obOk o = true):∀ x ∈ obN o,wfI x:=by
 simp only [obOk,Bool.and_eq_true] at h
 obtain ⟨⟨⟨⟨⟨⟨⟨⟨⟨h1,h2⟩,h3⟩,h4⟩,h5⟩,h6⟩,h7⟩,h8⟩,h9⟩,h10⟩:=h
 intro x hx
 simp only [obN,List.mem_cons,List.not_mem_nil,or_false] at hx
 rcases hx with e | e | e | e | e | e | e | e | e | e | e | e <;> rw [e]
 ·exact inR_wf h8 (by decide) (by decide)
 ·exact inR_wf h9 (by decide) (by decide)
 ·exact inR_wf h10 (by decide) (by decide)
 ·exact inR_wf h1 (by decide) (by decide)
 ·exact inR_wf h2 (by decide) (by decide)
 ·exact inR_wf h3 (by decide) (by decide)
 ·exact inR_wf h4 (by decide) (by decide)
 ·exact inR_wf h5 (by decide) (by decide)
 ·exact inR_wf h6 (by decide) (by decide)
 ·exact tf_wf _
 ·exact tf_wf _
 ·exact tf_wf _
theorem itOk_wf {q:Bool} {x:It} (h:itOk q x = true):∀ z ∈ itN x,wfI z:=by
 simp only [itOk,Bool.and_eq_true,decide_eq_true_eq] at h
 obtain ⟨⟨⟨⟨⟨⟨⟨h1,h2⟩,h3⟩,h4⟩,h5⟩,h6⟩,h7⟩,h8⟩:=h
 intro z hz
 unfold itN at hz
 rcases List.mem_append.1 hz with hz | hz
 ·simp only [List.mem_cons,List.not_mem_nil,or_false] at hz
  rcases hz with e | e | e | e | e <;> rw [e]
  ·exact inR_wf h1 (by decide) (by decide)
  ·exact inR_wf h2 (by decide) (by decide)
  ·exact inR_wf h3 (by decide) (by decide)
  ·exact inR_wf h4 (by decide) (by decide)
  ·exact wf_nat (by omega)
 ·obtain ⟨t,ht,hz⟩:=List.mem_flatMap.1 hz
  have h9:=List.all_eq_true.1 h8 t ht
  simp only [tgOk,Bool.and_eq_true] at h9
  simp only [tgN,List.mem_cons,List.not_mem_nil,or_false] at hz
  rcases hz with e | e <;> rw [e]
  ·exact inR_wf h9.1.1 (by decide) (by decide)
  ·exact inR_wf h9.1.2 (by decide) (by decide)
theorem vsF_of {b:Bd} (hv:b.Valid) {s:Se} (hs:seOk s = true) (hm:SeSm s b.objs):VsF (vsOf b.objs s):=by
 have hob:=obs_ok hv.2.2.2.2.2.1
 have hok:∀ i,(∃ o ∈ b.objs,o.id = i) → ∀ x ∈ obN (obI b.objs i),wfI x:=fun i hi => by
  obtain ⟨o,ho,rfl⟩:=hi
  rw [obI_of hob.2 ho]
  exact obOk_wf (hv.2.2.2.2.2.1.2.1 o ho).1
 simp only [seOk,Bool.and_eq_true] at hs
 obtain ⟨⟨⟨⟨⟨⟨h1,h2⟩,h3⟩,h4⟩,h5⟩,h6⟩,h7⟩:=hs
 refine ⟨fun z hz => ?_,fun o ho => ?_,fun o ho => ?_,?_,?_⟩
 ·simp only [vsOf,List.mem_cons,List.not_mem_nil,or_false] at hz
  rcases hz with e | e | e | e | e | e | e | e | e <;> rw [e]
  ·exact inR_wf h1 (by decide) (by decide)
  ·exact inR_wf h2 (by decide) (by decide)
  ·exact inR_wf h3 (by decide) (by decide)
  ·exact inR_wf h4 (by decide) (by decide)
  ·exact inR_wf h5 (by decide) (by decide)
  ·exact wf_nat (by have:=hm.L;omega)
  ·exact wf_nat (by have:=hm.H;omega)
  ·exact inR_wf h6 (by decide) (by decide)
  ·exact inR_wf h7 (by decide) (by decide)
 ·obtain ⟨i,hi,rfl⟩:=List.mem_map.1 ho
  exact hok i (hm.Fi i hi)
 ·obtain ⟨i,hi,rfl⟩:=List.mem_map.1 ho
  exact hok i (hm.Gi i hi)
 ·show (s.fld.map _).length ≤ 500
  rw [List.length_map]
  exact hm.F
 ·show (s.grv.map _).length ≤ 500
  rw [List.length_map]
  exact hm.G
theorem vwF_of {b:Bd} (hv:b.Valid) {k:Nat} (hk:k < 2):VwF (k:Int) (puOf b) ((seN b k).hand.map (obI b.objs)):=by
 have hm:=bd_sm hv
 have hob:=obs_ok hv.2.2.2.2.2.1
 have hok:∀ i,(∃ o ∈ b.objs,o.id = i) → ∀ x ∈ obN (obI b.objs i),wfI x:=fun i hi => by
  obtain ⟨o,ho,rfl⟩:=hi
  rw [obI_of hob.2 ho]
  exact obOk_wf (hv.2.2.2.2.2.1.2.1 o ho).1
 have hid:∀ i,(∃ o ∈ b.objs,o.id = i) → wfI i:=fun i hi => by
  obtain ⟨o,ho,rfl⟩:=hi
  have:=hob.1 o ho
  unfold wfI
  omega
 have hfl:∀ p i,i ∈ b.fld p → wfI i:=fun p i hi => by
  unfold Bd.fld at hi
  split at hi
  ·exact hid i (hm.s0.Fi i hi)
  ·exact hid i (hm.s1.Fi i hi)
 have hsk:SeSm (seN b k) b.objs:=by unfold seN;split;·exact hm.s0
                                    ·exact hm.s1
 have hn:=hv.1
 simp only [numOk,Bool.and_eq_true] at hn
 obtain ⟨⟨⟨⟨⟨⟨⟨n1,n2⟩,n3⟩,n4⟩,n5⟩,_⟩,_⟩,_⟩:=hn
 refine ⟨by unfold wfI;omega,vsF_of hv hv.2.1 hm.s0,vsF_of hv hv.2.2.1 hm.s1,fun o ho => ?_,by rw [List.length_map];exact hsk.H,fun x hx => itOk_wf (List.all_eq_true.1 hv.2.2.2.1 x hx),hm.ST,hm.S,fun x hx => itOk_wf (List.all_eq_true.1 hv.2.2.2.2.1 x hx),hm.QT,hm.Q,fun z hz => hfl _ z (hv.2.2.2.2.2.2.2.1 z hz),hm.AT,fun x hx z hz => ?_,hm.BK,fun z hz => ?_⟩
 ·obtain ⟨i,hi,rfl⟩:=List.mem_map.1 ho
  exact hok i (hsk.Hi i hi)
 ·have h9:=hv.2.2.2.2.2.2.2.2.2.2 x hx
  simp only [bkN,List.mem_cons,List.not_mem_nil,or_false] at hz
  rcases hz with e | e <;> rw [e]
  ·exact hfl _ _ h9.2
  ·exact hfl _ _ (hv.2.2.2.2.2.2.2.1 _ h9.1)
 ·simp only [puOf,List.mem_cons,List.not_mem_nil,or_false] at hz
  rcases hz with e | e | e | e | e <;> rw [e]
  ·exact inR_wf n2 (by decide) (by decide)
  ·exact inR_wf n1 (by decide) (by decide)
  ·exact inR_wf n3 (by decide) (by decide)
  ·exact inR_wf n4 (by decide) (by decide)
  ·exact inR_wf n5 (by decide) (by decide)
def flatB (b:Bd) (k:Nat):List Int:=vwN (k:Int) (puOf b) ((seN b k).hand.map (obI b.objs))
theorem built_prompt:Tryz.prog.built 92 [] = some #[.int .i64 0,.int .i64 0,.slice none 0 0]:=by kernel_rfl
theorem vwf_len (b:Bd) (k:Int) (x0 x1:VsM) (h:Value) (pm:PuM):(vwf b k x0 x1 h ((puOf b).tail pm)).length = 43:=rfl
theorem one_vwf (b:Bd) (k:Nat) (pm:PuM) (HA:Option Addr) (n Hc:Nat):∀ u ∈ vwf b k pm.m0 pm.m1 (.slice HA n Hc) ((puOf b).tail pm),u.oneCell' = true:=by
 intro u hu
 simp only [vwf,vwc,Pu.tail,List.mem_cons,List.mem_append,List.not_mem_nil,or_false] at hu
 rcases hu with rfl | hu | hu | rfl | (rfl | rfl | rfl | rfl | rfl | rfl | rfl | rfl | rfl) | rfl | rfl | rfl | rfl
 all_goals first
  | rfl
  | exact one_vs2 _ _ u hu
def AlkEnd (a b:Bd) (k:Nat) (w:World) (e:Ending) (w':World):Prop:=e = .returned (.tuple #[.bool (decide (flatB a k = flatB b k)),.int .i64 0]) ∧ Below w.heap.size w w'
def VoX (b:Bd) (k:Nat) (VC:List Value) (W:World):Prop:=∃ (pm:PuM) (HA:Option Addr) (Hc:Nat),VC = vwf b k pm.m0 pm.m1 (.slice HA (seN b k).hand.length Hc) ((puOf b).tail pm) ∧ VwT W (puOf b) ((seN b k).hand.map (obI b.objs)) pm HA
theorem VoX.call {b:Bd} {k:Nat} {VC:List Value} {W W':World} (h:VoX b k VC W) (hb:Below W.heap.size W W'):VoX b k VC W':=by
 obtain ⟨pm,HA,Hc,h1,h2⟩:=h
 exact ⟨pm,HA,Hc,h1,h2.call hb⟩
theorem vof_x (b:Bd) (m:BdM) (w:World) (k:Nat) (hk:k < 2) (h:BdR w b m) (hz:b.plc.length < 9223372036854775807) (hv:b.Valid) :
  Calls Tryz.prog 72 #[.agg (b.cells m).toArray,.agg #[.int .i64 0,.int .i64 0,.slice none 0 0],.int .i64 k] w fun e w' => ∃ VC:List Value,e = .returned (.tuple #[.agg VC.toArray,.int .i64 0]) ∧ VC.length = 43 ∧ (∀ u ∈ VC,u.oneCell' = true) ∧ VoX b k VC w' ∧ Below w.heap.size w w':=by
 refine (vof_any b m w k hk h hz hv).mono ?_
 rintro e w' ⟨pm,HA,Hc,rfl,hp,hx,hb⟩
 exact ⟨_,rfl,vwf_len _ _ _ _ _ _,one_vwf _ _ _ _ _ _,⟨pm,HA,Hc,rfl,VwT.of_o hp (by rw [List.length_map];exact hx)⟩,hb⟩
set_option maxRecDepth 100000 in
set_option maxHeartbeats 3200000 in
theorem salike_any (a b:Bd) (ma mb:BdM) (w:World) (k:Nat) (hk:k < 2) (hRa:BdR w a ma) (hRb:BdR w b mb) (hza:a.plc.length < 9223372036854775807) (hzb:b.plc.length < 9223372036854775807) (hva:a.Valid) (hvb:b.Valid) :
  Calls Tryz.prog 39 #[.agg (a.cells ma).toArray,.agg (b.cells mb).toArray,.int .i64 k] w (AlkEnd a b k w):=by
 have HFA:=Lib.hid (vwF_of hva hk)
 have HFB:=Lib.hid (vwF_of hvb hk)
 obtain ⟨ca,hca⟩:∃ x,(a.cells ma).toArray = x:=⟨_,rfl⟩
 obtain ⟨cb,hcb⟩:∃ x,(b.cells mb).toArray = x:=⟨_,rfl⟩
 have hsa:ca.toList.length = 38:=by rw [← hca];rfl
 have hsb:cb.toList.length = 38:=by rw [← hcb];rfl
 obtain ⟨w2,hw2⟩:∃ x,(w.alloc (.cells ca 33)).alloc (.cells cb 33) = x:=⟨_,rfl⟩
 have HB2:Hid (Below w.heap.size w w2):=Lib.hid (by rw [← hw2];exact ((Below.refl _ _).alloc (Nat.le_refl _) _).alloc (by simp) _)
 have HKA2:Hid (Blk w2 w.heap.size 33 ca):=Lib.hid (by rw [← hw2];exact (Blk.mk_ w _ _ _ rfl).alloc _)
 have HKB2:Hid (Blk w2 (w.heap.size + 1) 33 cb):=Lib.hid (by rw [← hw2];exact Blk.mk_ _ _ _ _ (by simp))
 have HLD:Hid (∀ (W:World) (g:Nat) (c:Array Value),c.toList.length = 38 → Blk W g 33 c → (Instr.loadAt 33 (.pointer (some ⟨g,0,none⟩))).run Tryz.prog W = .ok (.agg c) W):=Lib.hid (fun W g c hc hW => by
  have:=hW.mid (o:=0) (ty:=33) c.toList _ (fun j v hj => by rw [Nat.zero_add];simpa using hj) Tryz.underlying33 rfl (by rw [hc];exact size_board)
  rwa [Array.toArray_toList] at this)
 have HLV:Hid (∀ (W:World) (g:Nat) (VC:List Value),VC.length = 43 → Blk W g 98 VC.toArray → (Instr.loadAt 98 (.pointer (some ⟨g,0,none⟩))).run Tryz.prog W = .ok (.agg VC.toArray) W):=Lib.hid (fun W g VC hc hW => hW.mid VC _ (fun j v hj => by rw [Nat.zero_add];simpa using hj) Tryz.underlying98 rfl (by rw [size_view,hc]))
 have HL2:=Lib.hid (HLD.out w2 _ ca hsa HKA2.out)
 have HVA:Hid (Calls Tryz.prog 72 #[.agg ca,.agg #[.int .i64 0,.int .i64 0,.slice none 0 0],.int .i64 k] w2 fun e w' => ∃ VC:List Value,e = .returned (.tuple #[.agg VC.toArray,.int .i64 0]) ∧ VC.length = 43 ∧ (∀ u ∈ VC,u.oneCell' = true) ∧ VoX a k VC w' ∧ Below w2.heap.size w2 w'):=Lib.hid (by rw [← hca];exact vof_x a ma w2 k hk (hRa.below HB2.out) hza hva)
 have HVB:Hid (∀ W,Below w.heap.size w W → Calls Tryz.prog 72 #[.agg cb,.agg #[.int .i64 0,.int .i64 0,.slice none 0 0],.int .i64 k] W fun e w' => ∃ VC:List Value,e = .returned (.tuple #[.agg VC.toArray,.int .i64 0]) ∧ VC.length = 43 ∧ (∀ u ∈ VC,u.oneCell' = true) ∧ VoX b k VC w' ∧ Below W.heap.size W w'):=Lib.hid (fun W hW => by rw [← hcb];exact vof_x b mb W k hk (hRb.below hW) hzb hvb)
 have HSB:=Lib.hid hsb
 have hk2:k ≤ 1:=by omega
 rw [hca,hcb]
 clear hk hRa hRb hza hzb hva hvb hca hcb hsa hsb
 go_enter Tryz.func39,Tryz.ntmps39
 go_wp2_with (first
  | (refine wpList_load_by HL2.out rfl rfl rfl ?_;simp only [Act.put,List.setIfInBounds_toArray,List.set_cons_succ,List.set_cons_zero])
  | (refine wpList_op_by rfl (run_of_build (parts:=#[]) (parts':=#[]) rfl rfl built_prompt) ?_;simp only [Act.put,List.setIfInBounds_toArray,List.set_cons_succ,List.set_cons_zero])
  | fail)
 refine HVA.out.mono ?_
 rintro e w3 ⟨VA,rfl,hla,h1a,hxa,hb3⟩
 obtain ⟨gA,hgA⟩:∃ x,w3.heap.size = x:=⟨_,rfl⟩
 obtain ⟨zv,hzv⟩:∃ x,zvw = x:=⟨_,rfl⟩
 have hzl:zv.size = 43:=by rw [← hzv];rfl
 obtain ⟨w4,hst4,hk4,hg4⟩:=(Blk.mk_ w3 98 zv gA hgA).storeAll (ty:=98) VA (by rw [hla,hzl]) (by rw [size_view,hla]) h1a
 have hb34:Below w3.heap.size w3 w4:=((Below.refl _ _).alloc (Nat.le_refl _) _).grown hg4 (by simp) (fun q hq => by injection hq with hq;omega)
 have HB4:=Lib.hid (below_call (below_call HB2.out hb3 HB2.out.size) hb34 (below_call HB2.out hb3 HB2.out.size).size)
 have HKB4:=Lib.hid ((HKB2.out.call hb3).call hb34)
 have HXA4:=Lib.hid (hxa.call hb34)
 have HKV4:=Lib.hid hk4
 have HLA:=Lib.hid hla
 rw [← hzv] at hst4
 unfold zvw at hst4
 have HST4:=Lib.hid hst4
 have HL4:=Lib.hid (HLD.out w4 _ cb HSB.out HKB4.out)
 clear hxa hb3 hst4 hk4 hg4 hb34 h1a hla HVA HL2 HKA2 HB2 HKB2 hw2 hzv hzl
 go_wp2_with (first
  | (refine wpList_store_by HST4.out rfl rfl rfl rfl ?_;simp only [Act.put,List.setIfInBounds_toArray,List.set_cons_succ,List.set_cons_zero])
  | (refine wpList_load_by HL4.out rfl rfl rfl ?_;simp only [Act.put,List.setIfInBounds_toArray,List.set_cons_succ,List.set_cons_zero])
  | (refine wpList_op_by rfl (run_of_build (parts:=#[]) (parts':=#[]) rfl rfl built_prompt) ?_;simp only [Act.put,List.setIfInBounds_toArray,List.set_cons_succ,List.set_cons_zero])
  | fail)
 refine (HVB.out w4 HB4.out).mono ?_
 rintro e w5 ⟨VB,rfl,hlb,h1b,hxb,hb5⟩
 obtain ⟨gB,hgB⟩:∃ x,w5.heap.size = x:=⟨_,rfl⟩
 obtain ⟨zv,hzv⟩:∃ x,zvw = x:=⟨_,rfl⟩
 have hzl:zv.size = 43:=by rw [← hzv];rfl
 obtain ⟨w6,hst6,hk6,hg6⟩:=(Blk.mk_ w5 98 zv gB hgB).storeAll (ty:=98) VB (by rw [hlb,hzl]) (by rw [size_view,hlb]) h1b
 have hb56:Below w5.heap.size w5 w6:=((Below.refl _ _).alloc (Nat.le_refl _) _).grown hg6 (by simp) (fun q hq => by injection hq with hq;omega)
 have hb46:=below_call hb5 hb56 hb5.size
 have HB6:=Lib.hid (below_call HB4.out hb46 HB4.out.size)
 have HKV6:=Lib.hid (HKV4.out.call hb46)
 have HXA6:=Lib.hid (HXA4.out.call hb46)
 have HXB6:=Lib.hid (hxb.call hb56)
 rw [← hzv] at hst6
 unfold zvw at hst6
 have HST6:=Lib.hid hst6
 have HLA6:=Lib.hid (HLV.out w6 gA VA HLA.out HKV6.out)
 have HLB6:=Lib.hid (HLV.out w6 gB VB hlb hk6)
 have HEQ:Hid (Calls Tryz.prog 73 #[.agg VA.toArray,.agg VB.toArray] w6 fun e w' => e = .returned (.bool (decide (flatB a k = flatB b k))) ∧ Below w6.heap.size w6 w'):=Lib.hid (by
  obtain ⟨p1,H1,c1,e1,t1⟩:=HXA6.out
  obtain ⟨p2,H2,c2,e2,t2⟩:=HXB6.out
  have h:=vequal_any w6 (k:Int) (k:Int) (puOf a) (puOf b) _ _ p1 p2 H1 H2 c1 c2 HFA.out HFB.out t1 t2
  rw [List.length_map,List.length_map] at h
  rw [e1,e2]
  exact h)
 clear hxb hb5 hst6 hk6 hg6 hb56 hb46 h1b hlb HVB HL4 HKB4 HB4 HKV4 HXA4 HST4 hzv hzl hgA
 go_wp2_with (first
  | (refine wpList_store_by HST6.out rfl rfl rfl rfl ?_;simp only [Act.put,List.setIfInBounds_toArray,List.set_cons_succ,List.set_cons_zero])
  | (refine wpList_load_by HLA6.out rfl rfl rfl ?_;simp only [Act.put,List.setIfInBounds_toArray,List.set_cons_succ,List.set_cons_zero])
  | (refine wpList_load_by HLB6.out rfl rfl rfl ?_;simp only [Act.put,List.setIfInBounds_toArray,List.set_cons_succ,List.set_cons_zero])
  | fail)
 refine HEQ.out.mono ?_
 rintro e w7 ⟨rfl,hb7⟩
 have HB7:=Lib.hid (below_call HB6.out hb7 HB6.out.size)
 clear hb7 hgB
 go_wp2_with fail
 go_ret2
 exact ⟨rfl,HB7.out⟩
end Go.Proofs.YtagpphelgghbpaaGreat
