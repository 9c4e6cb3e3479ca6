/-
  Texts: Wrv.
-/
import Derived.Test.YtagpphelgghbpaaGreatMk31
import Derived.Test.YtagpphelgghbpaaGreatMk22
set_option linter.unusedSimpArgs false
set_option linter.unusedVariables false
namespace Go.Proofs.YtagpphelgghbpaaGreat
open Go.RowKit

theorem size_vseats:(Tryz.prog.info? 96).map (·.size) = some 28:=by decide +kernel
theorem vseats_idx (x y:Vs) (p q:VsM) {k:Nat} (hk:k < 2) (w:World):(Instr.index 96 (.agg (x.cells p ++ y.cells q).toArray) (.int .i64 k)).run Tryz.prog w = .ok (.agg ((if k = 0 then x.cells p else y.cells q)).toArray) w:=by
 rcases (show k = 0 ∨ k = 1 by omega) with rfl | rfl <;> simp [Instr.index,run_underlying Tryz.underlying96,asIntOf,go_sem,Vs.cells,Sl.v]
structure VsF (s:Vs):Prop where
 n:∀ z ∈ [s.life,s.p0,s.p1,s.p2,s.p3,s.lib,s.hand,s.mul,s.act],wfI z
 F:∀ o ∈ s.fld,∀ x ∈ obN o,wfI x
 G:∀ o ∈ s.grv,∀ x ∈ obN o,wfI x
 lF:s.fld.length ≤ 500
 lG:s.grv.length ≤ 500
structure VwF (who:Int) (v:Pu) (hd:List Ob):Prop where
 who:wfI who
 s0:VsF v.v0
 s1:VsF v.v1
 H:∀ o ∈ hd,∀ x ∈ obN o,wfI x
 lH:hd.length ≤ 500
 S:∀ x ∈ v.stk,∀ z ∈ itN x,wfI z
 S4:∀ x ∈ v.stk,x.tgs.length ≤ 4
 lS:v.stk.length ≤ 200
 Q:∀ x ∈ v.que,∀ z ∈ itN x,wfI z
 Q4:∀ x ∈ v.que,x.tgs.length ≤ 4
 lQ:v.que.length ≤ 200
 A:∀ z ∈ v.att,wfI z
 lA:v.att.length ≤ 500
 K:∀ x ∈ v.blk,∀ z ∈ bkN x,wfI z
 lK:v.blk.length ≤ 500
 t:∀ z ∈ [v.turn,v.actv,v.phs,v.hold,v.pas],wfI z
structure VwT (W:World) (v:Pu) (hd:List Ob) (pm:PuM) (HA:Option Addr):Prop where
 F0:RdT W 46 12 pm.m0.F.A v.v0.fld.length (ocs v.v0.fld)
 G0:RdT W 46 12 pm.m0.G.A v.v0.grv.length (ocs v.v0.grv)
 F1:RdT W 46 12 pm.m1.F.A v.v1.fld.length (ocs v.v1.fld)
 G1:RdT W 46 12 pm.m1.G.A v.v1.grv.length (ocs v.v1.grv)
 H:RdT W 46 12 HA hd.length (ocs hd)
 S:ItT W pm.S.A v.stk.length v.stk pm.ST
 Q:ItT W pm.Q.A v.que.length v.que pm.QT
 A:RdT W 3 1 pm.AT.A v.att.length (ics v.att)
 K:RdT W 84 2 pm.BK.A v.blk.length (bcs v.blk)
theorem VwT.wfk {W W':World} {v:Pu} {hd:List Ob} {pm:PuM} {HA:Option Addr} {p:Nat} {ns:List Int} (h:VwT W v hd pm HA) (hw:Wf p W W') (hp:WrK W p ns):VwT W' v hd pm HA :=
 ⟨h.F0.wfk hw hp (by decide),h.G0.wfk hw hp (by decide),h.F1.wfk hw hp (by decide),h.G1.wfk hw hp (by decide),h.H.wfk hw hp (by decide),h.S.wfk hw hp,h.Q.wfk hw hp,h.A.wfk hw hp (by decide),h.K.wfk hw hp (by decide)⟩
theorem VwT.call {W W':World} {v:Pu} {hd:List Ob} {pm:PuM} {HA:Option Addr} (h:VwT W v hd pm HA) (hb:Below W.heap.size W W'):VwT W' v hd pm HA :=
 ⟨h.F0.call hb,h.G0.call hb,h.F1.call hb,h.G1.call hb,h.H.call hb,h.S.call hb,h.Q.call hb,h.A.call hb,h.K.call hb⟩
theorem VwT.of_o {W:World} {B B' Hc:Nat} {v:Pu} {hd:List Ob} {pm:PuM} {HA:Option Addr} (h:PuO W B v pm) (hx:XOwns W B' 46 12 HA hd.length Hc (ocs hd)):VwT W v hd pm HA :=
 ⟨RdT.of_x h.v0.F,RdT.of_x h.v0.G,RdT.of_x h.v1.F,RdT.of_x h.v1.G,RdT.of_x hx,ItT.of_o h.S,ItT.of_o h.Q,RdT.of_x h.AT,RdT.of_x h.BK⟩
theorem obsN_len (l:List Ob):(obsN l).length = 1 + 12 * l.length:=by
 unfold obsN
 rw [List.length_cons]
 have:(l.flatMap obN).length = 12 * l.length:=by
  induction l with
  | nil => rfl
  | cons o l ih => rw [List.flatMap_cons,List.length_append,ih];simp [obN];omega
 omega
theorem obsN_wf {l:List Ob} (h:∀ o ∈ l,∀ x ∈ obN o,wfI x) (hl:l.length ≤ 500):∀ z ∈ obsN l,wfI z:=fun z hz => by
 unfold obsN at hz
 rcases List.mem_cons.1 hz with rfl | hz
 ·exact wf_nat (by omega)
 ·obtain ⟨o,ho,hz⟩:=List.mem_flatMap.1 hz
  exact h o ho z hz
theorem itsN_len' {l:List It} (h:∀ x ∈ l,x.tgs.length ≤ 4):(itsN l).length ≤ 1 + 13 * l.length:=by
 unfold itsN
 rw [List.length_cons]
 have:=itsN_len h
 omega
theorem itsN_wf {l:List It} (h:∀ x ∈ l,∀ z ∈ itN x,wfI z) (hl:l.length ≤ 200):∀ z ∈ itsN l,wfI z:=fun z hz => by
 unfold itsN at hz
 rcases List.mem_cons.1 hz with rfl | hz
 ·exact wf_nat (by omega)
 ·obtain ⟨o,ho,hz⟩:=List.mem_flatMap.1 hz
  exact h o ho z hz
def seV (v:Pu) (j:Nat):Vs:=if j = 0 then v.v0 else v.v1
def smV (m:PuM) (j:Nat):VsM:=if j = 0 then m.m0 else m.m1
def nsJ (who:Int) (v:Pu):Nat → List Int
 | 0 => [who]
 | 1 => [who] ++ vsN v.v0
 | _ => ([who] ++ vsN v.v0) ++ vsN v.v1
theorem nsJ_step (who:Int) (v:Pu) {j:Nat} (hj:j < 2):nsJ who v (j + 1) = nsJ who v j ++ vsN (seV v j):=by
 rcases (show j = 0 ∨ j = 1 by omega) with rfl | rfl <;> rfl
theorem vsN_len {s:Vs} (h:VsF s):(vsN s).length ≤ 12014:=by
 unfold vsN
 simp only [List.length_append,List.length_cons,List.length_nil,obsN_len]
 have:=h.lF
 have:=h.lG
 omega
theorem nsJ_len {who:Int} {v:Pu} {hd:List Ob} (h:VwF who v hd) {j:Nat} (hj:j ≤ 2):(nsJ who v j).length ≤ 24029:=by
 have h0:=vsN_len h.s0
 have h1:=vsN_len h.s1
 rcases (show j = 0 ∨ j = 1 ∨ j = 2 by omega) with rfl | rfl | rfl <;> simp only [nsJ,List.length_append,List.length_cons,List.length_nil] <;> omega
theorem wput_end (w:World) (p:Nat) (ns l:List Int) (e n c:Nat) (A:Option Addr) (hP:Wr w p ns) (hL:RdT w e 1 A n (ics l)) (he:e ≠ 5 ∧ e ≠ 163) (hw:∀ x ∈ l,wfI x) (hns:∀ x ∈ ns,wfI x) (hsz:ns.length + n ≤ 1000000) :
 Calls Tryz.prog 125 #[.pointer (some ⟨p,0,none⟩),.slice A n c] w (WrEnd p (ns ++ l) w):=wput_any w p ns l e n c A hP hL he hw hns hsz
theorem pool_rd {W:World} {g:Nat} {s:Vs} {m:VsM} (h:Blk W g 95 (s.cells m).toArray):RdT W 95 1 (some ⟨g,1,none⟩) 4 (ics [s.p0,s.p1,s.p2,s.p3]):=by
 refine ⟨⟨rfl,fun _ => ⟨⟨g,1,none⟩,rfl,h.lt,fun j u hu => ?_⟩⟩,fun _ j hj => ?_⟩
 ·have hj:j < 4:=by
   have:=(List.getElem?_eq_some_iff.1 hu).1
   simpa [ics] using this
  rw [Addr.add_lit]
  rw [h.at_]
  rcases (show j = 0 ∨ j = 1 ∨ j = 2 ∨ j = 3 by omega) with rfl | rfl | rfl | rfl <;> exact hu
 ·have:g = j:=Option.some.inj hj
  subst this
  exact ⟨_,h⟩
theorem one_vs2 (s:Vs) (m:VsM):∀ u ∈ s.cells m,u.oneCell' = true:=by
 intro u hu
 simp only [Vs.cells,Sl.v,List.mem_cons,List.not_mem_nil,or_false] at hu
 rcases hu with rfl | rfl | rfl | rfl | rfl | rfl | rfl | rfl | rfl | rfl | rfl | rfl | rfl | rfl <;> rfl
set_option maxRecDepth 100000 in
set_option maxHeartbeats 12800000 in
theorem wview_any (w:World) (p:Nat) (who:Int) (v:Pu) (hd:List Ob) (pm:PuM) (HA:Option Addr) (Hc:Nat) (hP:WrK w p []) (hF:VwF who v hd) (hT:VwT w v hd pm HA) :
  Calls Tryz.prog 104 #[.pointer (some ⟨p,0,none⟩),.agg (vwc who (v.v0.cells pm.m0) (v.v1.cells pm.m1) (.slice HA hd.length Hc) (v.tail pm)).toArray] w (WrEnd p (vwN who v hd) w):=by
 have HF0:=Lib.hid hF
 obtain ⟨gX,hgX⟩:∃ x,w.heap.size = x:=⟨_,rfl⟩
 obtain ⟨VC,hVC⟩:∃ x,(vwc who (v.v0.cells pm.m0) (v.v1.cells pm.m1) (.slice HA hd.length Hc) (v.tail pm)).toArray = x:=⟨_,rfl⟩
 have HVC:=Lib.hid hVC
 obtain ⟨w1,hw1⟩:∃ x,w.alloc (.cells VC 98) = x:=⟨_,rfl⟩
 have hb1:Below w.heap.size w w1:=by rw [← hw1];exact (Below.refl _ _).alloc (Nat.le_refl _) _
 have hk1:Blk w1 gX 98 VC:=by rw [← hw1];exact Blk.mk_ _ _ _ _ hgX
 have HB_w1:=Lib.hid hk1
 have HW_w1:=Lib.hid (hP.call hb1)
 have HF_w1:Hid (Wf p w w1):=Lib.hid (Wf.of_below hb1 hP.lt)
 have HT_w1:=Lib.hid (hT.call hb1)
 rw [hVC]
 clear hP hF hT hVC hb1 hk1
 go_enter Tryz.func104,Tryz.ntmps104
 have HPU:=Lib.hid (wput_lit w1 p w1.heap.size _ [who] HW_w1.out rfl (fun z hz => by rw [List.mem_singleton] at hz;rw [hz];exact HF0.out.who) (by simp))
 have c0:w1.cell? ⟨gX,0,none⟩ = some (.int .i64 who):=(HB_w1.out.at_ 0).trans (by rw [← HVC.out];rfl)
 go_wp2_with fail
 refine HPU.out.mono ?_
 intro e v1 h9
 have hk9:=h9.k HW_w1.out.w (fun z hz => by rw [List.mem_singleton] at hz;rw [hz];exact HF0.out.who)
 obtain ⟨rfl,-,hf9⟩:=h9
 have HW_v1:=Lib.hid hk9
 have HF_v1:=Lib.hid (HF_w1.out.trans hf9)
 have HB_v1:=Lib.hid (HB_w1.out.wfk hf9 HW_w1.out (by decide))
 have HT_v1:=Lib.hid (HT_w1.out.wfk hf9 HW_w1.out)
 clear hk9 hf9 HPU c0 HF_w1 HB_w1 HT_w1 HW_w1
 obtain ⟨SV,hSV⟩:∃ x,(v.v0.cells pm.m0 ++ v.v1.cells pm.m1).toArray = x:=⟨_,rfl⟩
 have HL28:Hid ((Instr.loadAt 96 (.pointer (some ⟨gX,1,none⟩))).run Tryz.prog v1 = .ok (.agg SV) v1):=Lib.hid (by
  rw [← hSV]
  refine HB_v1.out.mid _ _ (fun j v' hj => ?_) Tryz.underlying96 rfl size_vseats
  rw [← HVC.out]
  show ((_ :: (v.v0.cells pm.m0 ++ (v.v1.cells pm.m1 ++ _)):List Value).toArray)[1 + j]? = _
  rw [← List.append_assoc,List.getElem?_toArray,Nat.add_comm,List.getElem?_cons_succ,List.getElem?_append_left ((List.getElem?_eq_some_iff.1 hj).1)]
  exact hj)
 have HIX:Hid (∀ k:Nat,k < 2 → ∀ W,(Instr.index 96 (.agg SV) (.int .i64 k)).run Tryz.prog W = .ok (.agg ((seV v k).cells (smV pm k)).toArray) W):=Lib.hid (fun k hk W => by
  rw [← hSV]
  refine Eq.trans (vseats_idx v.v0 v.v1 pm.m0 pm.m1 hk W) ?_
  unfold seV smV
  split <;> rfl)
 clear hSV
 have HI0:Hid (WrK v1 p (nsJ who v 0) ∧ Wf p w v1 ∧ Blk v1 gX 98 VC ∧ VwT v1 v hd pm HA):=Lib.hid ⟨HW_v1.out,HF_v1.out,HB_v1.out,HT_v1.out⟩
 go_wp2_with (first | (refine wpList_load_by HL28.out rfl rfl rfl ?_;simp only [Act.put,List.setIfInBounds_toArray,List.set_cons_succ,List.set_cons_zero]) | fail)
 clear HL28 HW_v1 HF_v1 HB_v1 HT_v1 hw1
 go_loopw [17] (fun i W => ∃ j:Nat,j ≤ 2 ∧ i = .int .i64 j ∧ Hid (WrK W p (nsJ who v j) ∧ Wf p w W ∧ Blk W gX 98 VC ∧ VwT W v hd pm HA)) (fun i _ => 2 - (intOf i).toNat)
 case atStart => exact ⟨0,by omega,rfl,HI0⟩
 case round =>
  obtain ⟨j,hj,rfl,HI⟩:=hrel
  clear HI0
  by_cases hj2:j < 2
  ·have hj2':(j:Int) < 2:=by omega
   have HJ:=Lib.hid hj2
   have hix:=HIX.out j hj2
   obtain ⟨s,hs⟩:∃ x,seV v j = x:=⟨_,rfl⟩
   obtain ⟨sm,hsm⟩:∃ x,smV pm j = x:=⟨_,rfl⟩
   rw [hs,hsm] at hix
   have HSF:Hid (VsF s):=Lib.hid (by rw [← hs];unfold seV;split <;> first | exact HF0.out.s0 | exact HF0.out.s1)
   have HSR:Hid (∀ W,VwT W v hd pm HA → RdT W 46 12 sm.F.A s.fld.length (ocs s.fld) ∧ RdT W 46 12 sm.G.A s.grv.length (ocs s.grv)):=Lib.hid (fun W h => by
    rw [← hs,← hsm]
    unfold seV smV
    split <;> first | exact ⟨h.F0,h.G0⟩ | exact ⟨h.F1,h.G1⟩)
   have HST9:Hid (nsJ who v (j + 1) = nsJ who v j ++ vsN s):=Lib.hid (by rw [nsJ_step who v hj2,hs])
   obtain ⟨ns,hns⟩:∃ x,nsJ who v j = x:=⟨_,rfl⟩
   have HLN:Hid (ns.length ≤ 24029 ∧ s.fld.length ≤ 500 ∧ s.grv.length ≤ 500):=Lib.hid ⟨by rw [← hns];exact nsJ_len HF0.out hj,HSF.out.lF,HSF.out.lG⟩
   rw [hns] at HI HST9
   obtain ⟨SC,hSC⟩:∃ x,(s.cells sm).toArray = x:=⟨_,rfl⟩
   rw [hSC] at hix
   obtain ⟨gS,hgS⟩:∃ x,wr.heap.size = x:=⟨_,rfl⟩
   have hZ:=Blk.mk_ wr 95 #[.int .i64 0,.int .i64 0,.int .i64 0,.int .i64 0,.int .i64 0,.int .i64 0,.int .i64 0,.slice none 0 0,.slice none 0 0,.bool false,.bool false,.bool false,.int .i64 0,.int .i64 0] gS hgS
   obtain ⟨u0,hst,hB6,hg6⟩:=hZ.storeAll (ty:=95) (s.cells sm) rfl (by rw [size_vseat];rfl) (one_vs2 _ _)
   have hb6:Below wr.heap.size wr u0:=((Below.refl _ _).alloc (Nat.le_refl _) _).grown hg6 (by simp) (fun q hq => by injection hq with hq;omega)
   have HW_u0:=Lib.hid (HI.out.1.call hb6)
   have HF_u0:=Lib.hid (HI.out.2.1.then hb6)
   have HB_u0:=Lib.hid (HI.out.2.2.1.call hb6)
   have HT_u0:=Lib.hid (HI.out.2.2.2.call hb6)
   have HG_u0:=Lib.hid hB6
   rw [hSC] at hst
   have HST:=Lib.hid hst
   clear hst hB6 hg6 hb6 hZ HI hSC hs hsm hns
   have HPU:=Lib.hid (wput_lit u0 p u0.heap.size _ [s.life] HW_u0.out rfl (fun z hz => HSF.out.n z (by rw [List.mem_singleton] at hz;simp [hz])) (by have:=HLN.out;simp only [List.length_append,List.length_cons,List.length_nil] at this ⊢;omega))
   have g0:u0.cell? ⟨gS,0,none⟩ = some (.int .i64 s.life):=(HG_u0.out.at_ 0).trans rfl
   go_wp2_with (first | (refine wpList_store_by HST.out rfl rfl rfl rfl ?_;simp only [Act.put,List.setIfInBounds_toArray,List.set_cons_succ,List.set_cons_zero]) | fail)
   refine HPU.out.mono ?_
   intro e v2 h9
   have hk9:=h9.k HW_u0.out.w (fun z hz => HSF.out.n z (by rw [List.mem_singleton] at hz;simp [hz]))
   obtain ⟨rfl,-,hf9⟩:=h9
   have HW_v2:=Lib.hid hk9
   have HF_v2:=Lib.hid (HF_u0.out.trans hf9)
   have HB_v2:=Lib.hid (HB_u0.out.wfk hf9 HW_u0.out (by decide))
   have HT_v2:=Lib.hid (HT_u0.out.wfk hf9 HW_u0.out)
   have HG_v2:=Lib.hid (HG_u0.out.wfk hf9 HW_u0.out (by decide))
   clear HST hix hgS hk9 hf9 HPU g0 HF_u0 HB_u0 HT_u0 HG_u0 HW_u0
   have HPU:=Lib.hid (wput_end v2 p _ [s.p0,s.p1,s.p2,s.p3] 95 4 4 (some ⟨gS,1,none⟩) HW_v2.out.h (pool_rd HG_v2.out) (by decide) (fun z hz => HSF.out.n z (by simp only [List.mem_cons,List.not_mem_nil,or_false] at hz ⊢;rcases hz with h | h | h | h <;> simp [h])) HW_v2.out.w (by have:=HLN.out;simp only [List.length_append,List.length_cons,List.length_nil,List.length_map,obsN_len] at this ⊢;omega))
   go_wp2_with fail
   refine HPU.out.mono ?_
   intro e v3 h9
   have hk9:=h9.k HW_v2.out.w (fun z hz => HSF.out.n z (by simp only [List.mem_cons,List.not_mem_nil,or_false] at hz ⊢;rcases hz with h | h | h | h <;> simp [h]))
   obtain ⟨rfl,-,hf9⟩:=h9
   have HW_v3:=Lib.hid hk9
   have HF_v3:=Lib.hid (HF_v2.out.trans hf9)
   have HB_v3:=Lib.hid (HB_v2.out.wfk hf9 HW_v2.out (by decide))
   have HT_v3:=Lib.hid (HT_v2.out.wfk hf9 HW_v2.out)
   have HG_v3:=Lib.hid (HG_v2.out.wfk hf9 HW_v2.out (by decide))
   clear hk9 hf9 HPU  HF_v2 HB_v2 HT_v2 HG_v2 HW_v2
   have HPU:=Lib.hid (wput_lit v3 p v3.heap.size _ [s.lib,s.hand] HW_v3.out rfl (fun z hz => HSF.out.n z (by simp only [List.mem_cons,List.not_mem_nil,or_false] at hz ⊢;rcases hz with h | h <;> simp [h])) (by have:=HLN.out;simp only [List.length_append,List.length_cons,List.length_nil,List.length_map,obsN_len] at this ⊢;omega))
   have g5:v3.cell? ⟨gS,5,none⟩ = some (.int .i64 s.lib):=(HG_v3.out.at_ 5).trans rfl
   have g6:v3.cell? ⟨gS,6,none⟩ = some (.int .i64 s.hand):=(HG_v3.out.at_ 6).trans rfl
   go_wp2_with fail
   refine HPU.out.mono ?_
   intro e v4 h9
   have hk9:=h9.k HW_v3.out.w (fun z hz => HSF.out.n z (by simp only [List.mem_cons,List.not_mem_nil,or_false] at hz ⊢;rcases hz with h | h <;> simp [h]))
   obtain ⟨rfl,-,hf9⟩:=h9
   have HW_v4:=Lib.hid hk9
   have HF_v4:=Lib.hid (HF_v3.out.trans hf9)
   have HB_v4:=Lib.hid (HB_v3.out.wfk hf9 HW_v3.out (by decide))
   have HT_v4:=Lib.hid (HT_v3.out.wfk hf9 HW_v3.out)
   have HG_v4:=Lib.hid (HG_v3.out.wfk hf9 HW_v3.out (by decide))
   clear hk9 hf9 HPU g5 g6 HF_v3 HB_v3 HT_v3 HG_v3 HW_v3
   have HPU:=Lib.hid (wobjs_any v4 p _ s.fld s.fld.length sm.F.c sm.F.A HW_v4.out (HSR.out v4 HT_v4.out).1 HSF.out.F (by have:=HLN.out;simp only [List.length_append,List.length_cons,List.length_nil,List.length_map,obsN_len] at this ⊢;omega))
   have g7:v4.cell? ⟨gS,7,none⟩ = some (.slice sm.F.A s.fld.length sm.F.c):=(HG_v4.out.at_ 7).trans rfl
   go_wp2_with fail
   refine HPU.out.mono ?_
   intro e v5 h9
   have hk9:=h9.k HW_v4.out.w (obsN_wf HSF.out.F HSF.out.lF)
   obtain ⟨rfl,-,hf9⟩:=h9
   have HW_v5:=Lib.hid hk9
   have HF_v5:=Lib.hid (HF_v4.out.trans hf9)
   have HB_v5:=Lib.hid (HB_v4.out.wfk hf9 HW_v4.out (by decide))
   have HT_v5:=Lib.hid (HT_v4.out.wfk hf9 HW_v4.out)
   have HG_v5:=Lib.hid (HG_v4.out.wfk hf9 HW_v4.out (by decide))
   clear hk9 hf9 HPU g7 HF_v4 HB_v4 HT_v4 HG_v4 HW_v4
   have HPU:=Lib.hid (wobjs_any v5 p _ s.grv s.grv.length sm.G.c sm.G.A HW_v5.out (HSR.out v5 HT_v5.out).2 HSF.out.G (by have:=HLN.out;simp only [List.length_append,List.length_cons,List.length_nil,List.length_map,obsN_len] at this ⊢;omega))
   have g8:v5.cell? ⟨gS,8,none⟩ = some (.slice sm.G.A s.grv.length sm.G.c):=(HG_v5.out.at_ 8).trans rfl
   go_wp2_with fail
   refine HPU.out.mono ?_
   intro e v6 h9
   have hk9:=h9.k HW_v5.out.w (obsN_wf HSF.out.G HSF.out.lG)
   obtain ⟨rfl,-,hf9⟩:=h9
   have HW_v6:=Lib.hid hk9
   have HF_v6:=Lib.hid (HF_v5.out.trans hf9)
   have HB_v6:=Lib.hid (HB_v5.out.wfk hf9 HW_v5.out (by decide))
   have HT_v6:=Lib.hid (HT_v5.out.wfk hf9 HW_v5.out)
   have HG_v6:=Lib.hid (HG_v5.out.wfk hf9 HW_v5.out (by decide))
   clear hk9 hf9 HPU g8 HF_v5 HB_v5 HT_v5 HG_v5 HW_v5
   have HPU:=Lib.hid (wflag_lit v6 p v6.heap.size _ [s.emp,s.ply,s.kpt] HW_v6.out rfl (by have:=HLN.out;simp only [List.length_append,List.length_cons,List.length_nil,List.length_map,obsN_len] at this ⊢;omega))
   have g9:v6.cell? ⟨gS,9,none⟩ = some (.bool s.emp):=(HG_v6.out.at_ 9).trans rfl
   have g10:v6.cell? ⟨gS,10,none⟩ = some (.bool s.ply):=(HG_v6.out.at_ 10).trans rfl
   have g11:v6.cell? ⟨gS,11,none⟩ = some (.bool s.kpt):=(HG_v6.out.at_ 11).trans rfl
   go_wp2_with fail
   refine HPU.out.mono ?_
   intro e v7 h9
   have hk9:=h9.k HW_v6.out.w (tfs_wf _)
   obtain ⟨rfl,-,hf9⟩:=h9
   have HW_v7:=Lib.hid hk9
   have HF_v7:=Lib.hid (HF_v6.out.trans hf9)
   have HB_v7:=Lib.hid (HB_v6.out.wfk hf9 HW_v6.out (by decide))
   have HT_v7:=Lib.hid (HT_v6.out.wfk hf9 HW_v6.out)
   have HG_v7:=Lib.hid (HG_v6.out.wfk hf9 HW_v6.out (by decide))
   clear hk9 hf9 HPU g9 g10 g11 HF_v6 HB_v6 HT_v6 HG_v6 HW_v6
   have HPU:=Lib.hid (wput_lit v7 p v7.heap.size _ [s.mul,s.act] HW_v7.out rfl (fun z hz => HSF.out.n z (by simp only [List.mem_cons,List.not_mem_nil,or_false] at hz ⊢;rcases hz with h | h <;> simp [h])) (by have:=HLN.out;simp only [List.length_append,List.length_cons,List.length_nil,List.length_map,obsN_len] at this ⊢;omega))
   have g12:v7.cell? ⟨gS,12,none⟩ = some (.int .i64 s.mul):=(HG_v7.out.at_ 12).trans rfl
   have g13:v7.cell? ⟨gS,13,none⟩ = some (.int .i64 s.act):=(HG_v7.out.at_ 13).trans rfl
   go_wp2_with fail
   refine HPU.out.mono ?_
   intro e v8 h9
   have hk9:=h9.k HW_v7.out.w (fun z hz => HSF.out.n z (by simp only [List.mem_cons,List.not_mem_nil,or_false] at hz ⊢;rcases hz with h | h <;> simp [h]))
   obtain ⟨rfl,-,hf9⟩:=h9
   have HW_v8:=Lib.hid hk9
   have HF_v8:=Lib.hid (HF_v7.out.trans hf9)
   have HB_v8:=Lib.hid (HB_v7.out.wfk hf9 HW_v7.out (by decide))
   have HT_v8:=Lib.hid (HT_v7.out.wfk hf9 HW_v7.out)
   have HG_v8:=Lib.hid (HG_v7.out.wfk hf9 HW_v7.out (by decide))
   clear hk9 hf9 HPU g12 g13 HF_v7 HB_v7 HT_v7 HG_v7 HW_v7
   have HI9:Hid (WrK v8 p (nsJ who v (j + 1)) ∧ Wf p w v8 ∧ Blk v8 gX 98 VC ∧ VwT v8 v hd pm HA):=Lib.hid ⟨by
    rw [HST9.out]
    have h:=HW_v8.out
    simp only [vsN,List.append_assoc,List.cons_append,List.nil_append,List.map_cons,List.map_nil] at h ⊢
    exact h,HF_v8.out,HB_v8.out,HT_v8.out⟩
   clear HW_v8 HF_v8 HB_v8 HT_v8 HG_v8
   go_wp2_with fail
   go_roundw
   case rel => exact ⟨j + 1,by have:=HJ.out;omega,by go_num,HI9⟩
   case measure => simp [intOf];omega
  ·have hj2':decide ((j:Int) < 2) = false:=by simp;omega
   have hjj:j = 2:=by omega
   subst hjj
   have HLN:Hid ((nsJ who v 2).length ≤ 24029):=Lib.hid (nsJ_len HF0.out (by omega))
   have HW_wr:=Lib.hid HI.out.1
   have HF_wr:=Lib.hid HI.out.2.1
   have HB_wr:=Lib.hid HI.out.2.2.1
   have HT_wr:=Lib.hid HI.out.2.2.2
   clear HI hj HIX
   have HPU:=Lib.hid (wobjs_any wr p _ hd hd.length Hc HA HW_wr.out HT_wr.out.H HF0.out.H (by have:=HLN.out;have:=HF0.out.lH;have:=HF0.out.lS;have:=HF0.out.lQ;have:=HF0.out.lA;have:=HF0.out.lK;have:=itsN_len' HF0.out.S4;have:=itsN_len' HF0.out.Q4;(try simp only [List.length_append,List.length_cons,List.length_nil,List.length_map,obsN_len] at *);omega))
   have c29:wr.cell? ⟨gX,29,none⟩ = some (.slice HA hd.length Hc):=(HB_wr.out.at_ 29).trans (by rw [← HVC.out];rfl)
   go_wp2_with fail
   refine HPU.out.mono ?_
   intro e v9 h9
   have hk9:=h9.k HW_wr.out.w (obsN_wf HF0.out.H HF0.out.lH)
   obtain ⟨rfl,-,hf9⟩:=h9
   have HW_v9:=Lib.hid hk9
   have HF_v9:=Lib.hid (HF_wr.out.trans hf9)
   have HB_v9:=Lib.hid (HB_wr.out.wfk hf9 HW_wr.out (by decide))
   have HT_v9:=Lib.hid (HT_wr.out.wfk hf9 HW_wr.out)
   clear hk9 hf9 HPU c29 HF_wr HB_wr HT_wr HW_wr
   have HPU:=Lib.hid (wits_any v9 p _ v.stk pm.ST v.stk.length pm.S.c pm.S.A HW_v9.out HT_v9.out.S rfl HF0.out.S HF0.out.S4 (by have:=HLN.out;have:=HF0.out.lH;have:=HF0.out.lS;have:=HF0.out.lQ;have:=HF0.out.lA;have:=HF0.out.lK;have:=itsN_len' HF0.out.S4;have:=itsN_len' HF0.out.Q4;(try simp only [List.length_append,List.length_cons,List.length_nil,List.length_map,obsN_len] at *);omega))
   have c30:v9.cell? ⟨gX,30,none⟩ = some (.slice pm.S.A v.stk.length pm.S.c):=(HB_v9.out.at_ 30).trans (by rw [← HVC.out];rfl)
   go_wp2_with fail
   refine HPU.out.mono ?_
   intro e v10 h9
   have hk9:=h9.k HW_v9.out.w (itsN_wf HF0.out.S HF0.out.lS)
   obtain ⟨rfl,-,hf9⟩:=h9
   have HW_v10:=Lib.hid hk9
   have HF_v10:=Lib.hid (HF_v9.out.trans hf9)
   have HB_v10:=Lib.hid (HB_v9.out.wfk hf9 HW_v9.out (by decide))
   have HT_v10:=Lib.hid (HT_v9.out.wfk hf9 HW_v9.out)
   clear hk9 hf9 HPU c30 HF_v9 HB_v9 HT_v9 HW_v9
   have HPU:=Lib.hid (wits_any v10 p _ v.que pm.QT v.que.length pm.Q.c pm.Q.A HW_v10.out HT_v10.out.Q rfl HF0.out.Q HF0.out.Q4 (by have:=HLN.out;have:=HF0.out.lH;have:=HF0.out.lS;have:=HF0.out.lQ;have:=HF0.out.lA;have:=HF0.out.lK;have:=itsN_len' HF0.out.S4;have:=itsN_len' HF0.out.Q4;(try simp only [List.length_append,List.length_cons,List.length_nil,List.length_map,obsN_len] at *);omega))
   have c31:v10.cell? ⟨gX,31,none⟩ = some (.slice pm.Q.A v.que.length pm.Q.c):=(HB_v10.out.at_ 31).trans (by rw [← HVC.out];rfl)
   go_wp2_with fail
   refine HPU.out.mono ?_
   intro e v11 h9
   have hk9:=h9.k HW_v10.out.w (itsN_wf HF0.out.Q HF0.out.lQ)
   obtain ⟨rfl,-,hf9⟩:=h9
   have HW_v11:=Lib.hid hk9
   have HF_v11:=Lib.hid (HF_v10.out.trans hf9)
   have HB_v11:=Lib.hid (HB_v10.out.wfk hf9 HW_v10.out (by decide))
   have HT_v11:=Lib.hid (HT_v10.out.wfk hf9 HW_v10.out)
   clear hk9 hf9 HPU c31 HF_v10 HB_v10 HT_v10 HW_v10
   have HPU:=Lib.hid (wsize_any v11 p _ (v.att.length:Int) 1000 HW_v11.out (wf_nat (by have:=HF0.out.lA;omega)) (by have:=HLN.out;have:=HF0.out.lH;have:=HF0.out.lS;have:=HF0.out.lQ;have:=HF0.out.lA;have:=HF0.out.lK;have:=itsN_len' HF0.out.S4;have:=itsN_len' HF0.out.Q4;(try simp only [List.length_append,List.length_cons,List.length_nil,List.length_map,obsN_len] at *);omega))
   have c32:v11.cell? ⟨gX,32,none⟩ = some (.slice pm.AT.A v.att.length pm.AT.c):=(HB_v11.out.at_ 32).trans (by rw [← HVC.out];rfl)
   go_wp2_with fail
   refine HPU.out.mono ?_
   intro e v12 h9
   have hk9:=h9.k HW_v11.out.w (fun z hz => by rw [List.mem_singleton] at hz;rw [hz];exact wf_nat (by have:=HF0.out.lA;have:=HF0.out.lK;omega))
   obtain ⟨rfl,-,hf9⟩:=h9
   have HW_v12:=Lib.hid hk9
   have HF_v12:=Lib.hid (HF_v11.out.trans hf9)
   have HB_v12:=Lib.hid (HB_v11.out.wfk hf9 HW_v11.out (by decide))
   have HT_v12:=Lib.hid (HT_v11.out.wfk hf9 HW_v11.out)
   clear hk9 hf9 HPU c32 HF_v11 HB_v11 HT_v11 HW_v11
   have HPU:=Lib.hid (wput_end v12 p _ v.att 3 v.att.length pm.AT.c pm.AT.A HW_v12.out.h HT_v12.out.A (by decide) HF0.out.A HW_v12.out.w (by have:=HLN.out;have:=HF0.out.lH;have:=HF0.out.lS;have:=HF0.out.lQ;have:=HF0.out.lA;have:=HF0.out.lK;have:=itsN_len' HF0.out.S4;have:=itsN_len' HF0.out.Q4;(try simp only [List.length_append,List.length_cons,List.length_nil,List.length_map,obsN_len] at *);omega))
   have c32:v12.cell? ⟨gX,32,none⟩ = some (.slice pm.AT.A v.att.length pm.AT.c):=(HB_v12.out.at_ 32).trans (by rw [← HVC.out];rfl)
   go_wp2_with fail
   refine HPU.out.mono ?_
   intro e v13 h9
   have hk9:=h9.k HW_v12.out.w (HF0.out.A)
   obtain ⟨rfl,-,hf9⟩:=h9
   have HW_v13:=Lib.hid hk9
   have HF_v13:=Lib.hid (HF_v12.out.trans hf9)
   have HB_v13:=Lib.hid (HB_v12.out.wfk hf9 HW_v12.out (by decide))
   have HT_v13:=Lib.hid (HT_v12.out.wfk hf9 HW_v12.out)
   clear hk9 hf9 HPU c32 HF_v12 HB_v12 HT_v12 HW_v12
   have HPU:=Lib.hid (wsize_any v13 p _ (v.blk.length:Int) 1000 HW_v13.out (wf_nat (by have:=HF0.out.lK;omega)) (by have:=HLN.out;have:=HF0.out.lH;have:=HF0.out.lS;have:=HF0.out.lQ;have:=HF0.out.lA;have:=HF0.out.lK;have:=itsN_len' HF0.out.S4;have:=itsN_len' HF0.out.Q4;(try simp only [List.length_append,List.length_cons,List.length_nil,List.length_map,obsN_len] at *);omega))
   have c33:v13.cell? ⟨gX,33,none⟩ = some (.slice pm.BK.A v.blk.length pm.BK.c):=(HB_v13.out.at_ 33).trans (by rw [← HVC.out];rfl)
   go_wp2_with fail
   refine HPU.out.mono ?_
   intro e v14 h9
   have hk9:=h9.k HW_v13.out.w (fun z hz => by rw [List.mem_singleton] at hz;rw [hz];exact wf_nat (by have:=HF0.out.lA;have:=HF0.out.lK;omega))
   obtain ⟨rfl,-,hf9⟩:=h9
   have HW_v14:=Lib.hid hk9
   have HF_v14:=Lib.hid (HF_v13.out.trans hf9)
   have HB_v14:=Lib.hid (HB_v13.out.wfk hf9 HW_v13.out (by decide))
   have HT_v14:=Lib.hid (HT_v13.out.wfk hf9 HW_v13.out)
   clear hk9 hf9 HPU c33 HF_v13 HB_v13 HT_v13 HW_v13
   obtain ⟨ms,hms⟩:∃ x,((((((nsJ who v 2 ++ obsN hd) ++ itsN v.stk) ++ itsN v.que) ++ [(v.att.length:Int)]) ++ v.att) ++ [(v.blk.length:Int)]) = x:=⟨_,rfl⟩
   have HMS:=Lib.hid hms
   have HLM:Hid (ms.length ≤ 40000):=Lib.hid (by
    rw [← hms]
    have:=HLN.out;have:=HF0.out.lH;have:=HF0.out.lS;have:=HF0.out.lQ;have:=HF0.out.lA;have:=HF0.out.lK;have:=itsN_len' HF0.out.S4;have:=itsN_len' HF0.out.Q4
    simp only [List.length_append,List.length_cons,List.length_nil,obsN_len] at *
    omega)
   have HI0:Hid (WrK v14 p (ms ++ (v.blk.take 0).flatMap bkN) ∧ Wf p w v14 ∧ Blk v14 gX 98 VC ∧ VwT v14 v hd pm HA):=Lib.hid ⟨by rw [List.take_zero,List.flatMap_nil,List.append_nil,← hms];exact HW_v14.out,HF_v14.out,HB_v14.out,HT_v14.out⟩
   have c33:v14.cell? ⟨gX,33,none⟩ = some (.slice pm.BK.A v.blk.length pm.BK.c):=(HB_v14.out.at_ 33).trans (by rw [← HVC.out];rfl)
   obtain ⟨nb,hnb⟩:∃ x,v.blk.length = x:=⟨_,rfl⟩
   obtain ⟨⟨KA,Kc⟩,hK⟩:∃ x,pm.BK = x:=⟨_,rfl⟩
   rw [hK,hnb] at c33
   have HNB:=Lib.hid hnb
   have HK:=Lib.hid hK
   have hnb5:nb ≤ 500:=by rw [← hnb];exact HF0.out.lK
   clear hms HW_v14 HF_v14 HB_v14 HT_v14 hnb hK
   go_wp2_with fail
   clear c33
   go_loopw [90] (fun i W => ∃ k:Nat,k ≤ nb ∧ i = .int .i64 k ∧ Hid (WrK W p (ms ++ (v.blk.take k).flatMap bkN) ∧ Wf p w W ∧ Blk W gX 98 VC ∧ VwT W v hd pm HA)) (fun i _ => nb - (intOf i).toNat)
   case atStart => exact ⟨0,Nat.zero_le _,rfl,HI0⟩
   case round =>
    obtain ⟨k,hk,rfl,HI⟩:=hrel
    clear HI0
    by_cases hkn:k < nb
    ·have hkn':(k:Int) < nb:=by omega
     obtain ⟨y,hy⟩:=get_of (l:=v.blk) (k:=k) (by rw [HNB.out];exact hkn)
     have hKr:=HI.out.2.2.2.K.r
     rw [HK.out,HNB.out] at hKr
     obtain ⟨ad2,rfl,-,g0,g1⟩:=blk_at hKr hy hkn
     have HT2:Hid (ms ++ (v.blk.take (k + 1)).flatMap bkN = (ms ++ (v.blk.take k).flatMap bkN) ++ [y.b,y.a]):=Lib.hid (by rw [take_snoc hy,List.flatMap_append];simp [bkN])
     have hw2:∀ z ∈ [y.b,y.a],wfI z:=HF0.out.K y (List.mem_of_getElem? hy)
     have HLE2:Hid ((ms ++ (v.blk.take k).flatMap bkN).length + 2 ≤ 1000000):=Lib.hid (by
      have h1:∀ l:List Bk,(l.flatMap bkN).length = 2 * l.length:=fun l => by
       induction l with
       | nil => rfl
       | cons t l ih => rw [List.flatMap_cons,List.length_append,ih];simp [bkN];omega
      rw [List.length_append,h1,List.length_take]
      have:=HLM.out
      omega)
     obtain ⟨wa,hwa⟩:∃ z,wr.alloc (.cells #[.int .i64 y.b,.int .i64 y.a] 84) = z:=⟨_,rfl⟩
     have hba:Below wr.heap.size wr wa:=by rw [← hwa];exact (Below.refl _ _).alloc (Nat.le_refl _) _
     have hka:Blk wa wr.heap.size 84 #[.int .i64 y.b,.int .i64 y.a]:=by rw [← hwa];exact Blk.mk_ _ _ _ _ rfl
     have HWKa:=Lib.hid (HI.out.1.call hba)
     have HFa:=Lib.hid (HI.out.2.1.then hba)
     have HBa:=Lib.hid (HI.out.2.2.1.call hba)
     have HTa:=Lib.hid (HI.out.2.2.2.call hba)
     have d0:=(hka.at_ 0).trans rfl
     have d1:=(hka.at_ 1).trans rfl
     have HPU2:=Lib.hid (wput_lit wa p wa.heap.size _ [y.b,y.a] HWKa.out rfl hw2 HLE2.out)
     have HW2:=Lib.hid hw2
     clear hy hka hba HI hw2 hKr
     go_wp2_with fail
     refine HPU2.out.mono ?_
     intro e wb hb
     have hkb:=hb.k HWKa.out.w HW2.out
     obtain ⟨rfl,-,hfb⟩:=hb
     have HIb:Hid (WrK wb p (ms ++ (v.blk.take (k + 1)).flatMap bkN) ∧ Wf p w wb ∧ Blk wb gX 98 VC ∧ VwT wb v hd pm HA):=Lib.hid ⟨by rw [HT2.out];exact hkb,HFa.out.trans hfb,HBa.out.wfk hfb HWKa.out (by decide),HTa.out.wfk hfb HWKa.out⟩
     clear hkb hfb d0 d1 hwa g0 g1
     go_wp2_with fail
     go_roundw
     case rel => exact ⟨k + 1,by omega,by go_num,HIb⟩
     case measure => simp [intOf];omega
    ·have HKE:Hid (k = nb):=Lib.hid (by omega)
     have hkd:decide ((k:Int) < nb) = false:=by simp;omega
     have HW_wr:Hid (WrK wr p (ms ++ v.blk.flatMap bkN)):=Lib.hid (by
      have h:=HI.out.1
      rw [List.take_of_length_le (by rw [HNB.out,HKE.out];exact Nat.le_refl _)] at h
      exact h)
     have HLQ:Hid ((ms ++ v.blk.flatMap bkN).length ≤ 50000):=Lib.hid (by
      have h1:∀ l:List Bk,(l.flatMap bkN).length = 2 * l.length:=fun l => by
       induction l with
       | nil => rfl
       | cons t l ih => rw [List.flatMap_cons,List.length_append,ih];simp [bkN];omega
      rw [List.length_append,h1]
      have:=HLM.out
      have:=HF0.out.lK
      omega)
     have HF_wr:=Lib.hid HI.out.2.1
     have HB_wr:=Lib.hid HI.out.2.2.1
     have HT_wr:=Lib.hid HI.out.2.2.2
     clear HI hk
     have HPU:=Lib.hid (wput_lit wr p wr.heap.size _ [v.turn,v.actv,v.phs,v.hold,v.pas,-1,0,0] HW_wr.out rfl (fun z hz => by simp only [List.mem_cons,List.not_mem_nil,or_false] at hz;rcases hz with h | h | h | h | h | h | h | h <;> first | (rw [h];unfold wfI;decide) | (rw [h];exact HF0.out.t _ (by simp))) (by have:=HLQ.out;(try simp only [List.length_append,List.length_cons,List.length_nil] at *);omega))
     have c34:wr.cell? ⟨gX,34,none⟩ = some (.int .i64 v.turn):=(HB_wr.out.at_ 34).trans (by rw [← HVC.out];rfl)
     have c35:wr.cell? ⟨gX,35,none⟩ = some (.int .i64 v.actv):=(HB_wr.out.at_ 35).trans (by rw [← HVC.out];rfl)
     have c36:wr.cell? ⟨gX,36,none⟩ = some (.int .i64 v.phs):=(HB_wr.out.at_ 36).trans (by rw [← HVC.out];rfl)
     have c37:wr.cell? ⟨gX,37,none⟩ = some (.int .i64 v.hold):=(HB_wr.out.at_ 37).trans (by rw [← HVC.out];rfl)
     have c38:wr.cell? ⟨gX,38,none⟩ = some (.int .i64 v.pas):=(HB_wr.out.at_ 38).trans (by rw [← HVC.out];rfl)
     have c39:wr.cell? ⟨gX,39,none⟩ = some (.int .i64 (-1)):=(HB_wr.out.at_ 39).trans (by rw [← HVC.out];rfl)
     have c40:wr.cell? ⟨gX,40,none⟩ = some (.int .i64 0):=(HB_wr.out.at_ 40).trans (by rw [← HVC.out];rfl)
     have c41:wr.cell? ⟨gX,41,none⟩ = some (.int .i64 0):=(HB_wr.out.at_ 41).trans (by rw [← HVC.out];rfl)
     go_wp2_with fail
     refine HPU.out.mono ?_
     intro e v15 h9
     have hk9:=h9.k HW_wr.out.w (fun z hz => by simp only [List.mem_cons,List.not_mem_nil,or_false] at hz;rcases hz with h | h | h | h | h | h | h | h <;> first | (rw [h];unfold wfI;decide) | (rw [h];exact HF0.out.t _ (by simp)))
     obtain ⟨rfl,-,hf9⟩:=h9
     have HW_v15:=Lib.hid hk9
     have HF_v15:=Lib.hid (HF_wr.out.trans hf9)
     have HB_v15:=Lib.hid (HB_wr.out.wfk hf9 HW_wr.out (by decide))
     have HT_v15:=Lib.hid (HT_wr.out.wfk hf9 HW_wr.out)
     clear hk9 hf9 HPU c34 c35 c36 c37 c38 c39 c40 c41 HF_wr HB_wr HT_wr HW_wr
     have HPU:=Lib.hid (wsize_any v15 p _ 0 20 HW_v15.out (by unfold wfI;decide) (by have:=HLQ.out;(try simp only [List.length_append,List.length_cons,List.length_nil] at *);omega))
     have c42:v15.cell? ⟨gX,42,none⟩ = some (.slice none 0 0):=(HB_v15.out.at_ 42).trans (by rw [← HVC.out];rfl)
     go_wp2_with fail
     refine HPU.out.mono ?_
     intro e v16 h9
     have hk9:=h9.k HW_v15.out.w (fun z hz => by rw [List.mem_singleton] at hz;rw [hz];unfold wfI;decide)
     obtain ⟨rfl,-,hf9⟩:=h9
     have HW_v16:=Lib.hid hk9
     have HF_v16:=Lib.hid (HF_v15.out.trans hf9)
     have HB_v16:=Lib.hid (HB_v15.out.wfk hf9 HW_v15.out (by decide))
     have HT_v16:=Lib.hid (HT_v15.out.wfk hf9 HW_v15.out)
     clear hk9 hf9 HPU c42 HF_v15 HB_v15 HT_v15 HW_v15
     have HEND:Hid (Wr v16 p (vwN who v hd)):=Lib.hid (by
      have h:=HW_v16.out.h
      rw [← HMS.out] at h
      simp only [nsJ,vwN,List.append_assoc,List.cons_append,List.nil_append] at h ⊢
      exact h)
     have c42:v16.cell? ⟨gX,42,none⟩ = some (.slice none 0 0):=(HB_v16.out.at_ 42).trans (by rw [← HVC.out];rfl)
     have hlt0:decide ((0:Int) < 0) = false:=by decide
     go_wp2_with fail
     go_loopw [129] (fun i W => i = .int .i64 0 ∧ W = v16) (fun i _ => 0)
     case atStart => exact ⟨rfl,rfl⟩
     case round =>
      obtain ⟨rfl,rfl⟩:=hrel
      go_wp2_with fail
      refine bodyPost_end (R:=WrEnd p (vwN who v hd) w) (v:=.tuple #[]) (by simp [results,Tryz.f104]) rfl ⟨rfl,HEND.out,HF_v16.out⟩
end Go.Proofs.YtagpphelgghbpaaGreat
