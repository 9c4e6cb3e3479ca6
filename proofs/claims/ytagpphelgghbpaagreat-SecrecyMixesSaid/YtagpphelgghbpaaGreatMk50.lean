/-
  Texts: Rve.
-/
import Derived.Test.YtagpphelgghbpaaGreatMk41
import Derived.Test.YtagpphelgghbpaaGreatMk40
set_option linter.unusedSimpArgs false
set_option linter.unusedVariables false
namespace Go.Proofs.YtagpphelgghbpaaGreat
open Go.RowKit

def lenS (b:Bd):Nat → Nat
 | 0 => 0
 | p + 1 => lenS b p + zlen (seN b p) 4
def onP (x:It):Bool:=decide (x.trg < 0)
theorem plc_len (b:Bd):b.plc.length = lenS b 2 + b.stk.countP onP:=by
 unfold Bd.plc onStk
 rw [List.length_append,List.length_append,List.length_map,List.length_map,List.length_map,List.countP_eq_length_filter]
 simp only [lenS,zlen_ids,seN,Nat.zero_add]
 rfl
theorem onP_snoc {l:List It} {k:Nat} {x:It} (h:l[k]? = some x):(l.take (k + 1)).countP onP = (l.take k).countP onP + if onP x = true then 1 else 0:=by
 rw [take_snoc h,List.countP_append]
 simp [List.countP_cons]
theorem onP_le (l:List It) (k:Nat):(l.take k).countP onP ≤ l.countP onP:=by
 rw [← List.take_append_drop k l,List.countP_append,List.take_append_drop]
 omega
theorem uniq_id {b:Bd} (h:incB b.objs = true) {o o2:Ob} (h1:o ∈ b.objs) (h2:o2 ∈ b.objs) (e:o.id = o2.id):o = o2:=by
 have hpw:=inc_pw _ h
 rw [List.pairwise_map] at hpw
 obtain ⟨i,hi,rfl⟩:=List.getElem_of_mem h1
 obtain ⟨j,hj,rfl⟩:=List.getElem_of_mem h2
 rcases Nat.lt_trichotomy i j with h | h | h
 ·have:=List.pairwise_iff_getElem.1 hpw i j hi hj h;omega
 ·subst h;rfl
 ·have:=List.pairwise_iff_getElem.1 hpw j i hj hi h;omega
def StkOk (b:Bd) (j:Nat):Prop:=∀ (i:Nat) (x:It),i < j → b.stk[i]? = some x → x.trg < 0 → ∃ o ∈ b.objs,o.id = x.id ∧ o.card = x.card
def ObsOk (b:Bd) (j:Nat):Prop:=(∀ (i:Nat) (o:Ob),i < j → b.objs[i]? = some o → obOk o = true ∧ plN b o.own o.id = 1) ∧ ∀ (q:Nat) (o1 o2:Ob),q + 1 < j → b.objs[q]? = some o1 → b.objs[q + 1]? = some o2 → o1.id < o2.id
theorem found_all {b:Bd} (h1:StkOk b b.stk.length) (h2:ObsOk b b.objs.length) (h3:b.plc.length = b.objs.length):plcR b:=by
 refine ⟨fun x hx => ?_,fun o ho => ?_,inc_of fun q o1 o2 g1 g2 => h2.2 q o1 o2 (List.getElem?_eq_some_iff.1 g2).1 g1 g2,h3⟩
 ·have hx1:=List.mem_filter.1 hx
  obtain ⟨i,hi,e⟩:=List.getElem_of_mem hx1.1
  exact h1 i x hi (by rw [List.getElem?_eq_getElem hi,e]) (of_decide_eq_true hx1.2)
 ·obtain ⟨i,hi,e⟩:=List.getElem_of_mem ho
  exact h2.1 i o hi (by rw [List.getElem?_eq_getElem hi,e])
set_option maxRecDepth 100000 in
set_option maxHeartbeats 12800000 in
theorem found_any (b:Bd) (m:BdM) (w:World) (h:BdR w b m) (hz:b.plc.length < 9223372036854775807) (hst:∀ x ∈ b.stk,-1 ≤ x.trg) :
  Calls Tryz.prog 33 #[.agg (b.cells m).toArray] w (BoolEnd (plcR b) w):=by
 have HR:=Lib.hid h
 have HZ:=Lib.hid hz
 have HPL:=Lib.hid (plc_len b)
 obtain ⟨cs,hcs⟩:∃ cs,(b.cells m).toArray = cs:=⟨_,rfl⟩
 have HCS:=Lib.hid hcs
 obtain ⟨⟨KA,Kc⟩,hK⟩:∃ s,m.S = s:=⟨_,rfl⟩
 obtain ⟨nk,hnk⟩:∃ n,b.stk.length = n:=⟨_,rfl⟩
 have hkk:nk ≤ 9223372036854775807:=by have:=h.S.ok;unfold Sl.ok at this;omega
 have HNK:=Lib.hid hnk
 have HKS:Hid (m.S = ⟨KA,Kc⟩):=Lib.hid hK
 obtain ⟨⟨OA,Oc⟩,hO⟩:∃ s,m.O = s:=⟨_,rfl⟩
 obtain ⟨no,hno⟩:∃ n,b.objs.length = n:=⟨_,rfl⟩
 have HNO:=Lib.hid hno
 have hoo:=h.Oo
 have HO:=Lib.hid h.O
 rw [hO,hno] at HO hoo
 have hn9:no ≤ 9223372036854775807:=Nat.le_trans hoo.1 hoo.2.2
 have E29:Hid (cs[29]? = some (.slice KA nk Kc)):=Lib.hid (by
  rw [← hcs]
  show some (m.S.v b.stk.length) = _
  rw [hK,hnk]
  rfl)
 have E0:Hid (cs[0]? = some (.slice OA no Oc)):=Lib.hid (by
  rw [← hcs]
  show some (m.O.v b.objs.length) = _
  rw [hO,hno]
  rfl)
 have HIDX:Hid (∀ W id,Below w.heap.size w W → Calls Tryz.prog 66 #[.agg cs,.int .i64 id] W (RIx b.objs id W)):=Lib.hid (fun W id hb => by rw [← hcs];exact rindex_any b m id W (h.below hb))
 have HPLC:Hid (∀ W (p:Nat) id,p < 2 → Below w.heap.size w W → Calls Tryz.prog 68 #[.agg cs,.int .i64 p,.int .i64 id] W fun e w' => e = .returned (.int .i64 (plN b p id:Nat)) ∧ Below W.heap.size W w'):=Lib.hid (fun W p id hp hb => by rw [← hcs];exact places_any b m W (h.below hb) hz hst p hp id)
 have HLD:Hid (∀ W,Blk W w.heap.size 33 cs → (Instr.loadAt 33 (.pointer (some ⟨w.heap.size,0,none⟩))).run Tryz.prog W = .ok (.agg cs) W):=Lib.hid (fun W hk => by
  rw [← hcs] at hk ⊢
  exact board_load hk)
 obtain ⟨w1,hw1⟩:∃ x,w.alloc (.cells cs 33) = x:=⟨_,rfl⟩
 have HI1:Hid (Blk w1 w.heap.size 33 cs ∧ Below w.heap.size w w1):=Lib.hid ⟨by rw [← hw1];exact Blk.mk_ w _ _ _ rfl,by rw [← hw1];exact (Below.refl _ _).alloc (Nat.le_refl _) _⟩
 rw [hcs]
 clear h hz hst hcs hK hnk hO hno hoo
 go_enter Tryz.func33,Tryz.ntmps33
 go_wp2_with fail
 clear hw1
 go_loopw [3,4] (fun y i W => ∃ p z:Nat,p ≤ 2 ∧ y = .int .i64 z ∧ i = .int .i64 p ∧ Hid (lenS b p = z) ∧ Hid (Blk W w.heap.size 33 cs ∧ Below w.heap.size w W)) (fun _ i _ => 2 - (intOf i).toNat)
 case atStart => exact ⟨0,0,Nat.zero_le _,rfl,rfl,Lib.hid rfl,HI1⟩
 case round =>
  obtain ⟨p,z,hp,rfl,rfl,HC,HI⟩:=hrel
  clear HI1
  by_cases hp2:p < 2
  ·have hp2':(p:Int) < 2:=by omega
   have HP2:=Lib.hid hp2
   obtain ⟨s,hs⟩:∃ x,seN b p = x:=⟨_,rfl⟩
   obtain ⟨sm,hsm⟩:∃ x,smN m p = x:=⟨_,rfl⟩
   have HS:=Lib.hid hs
   obtain ⟨av,hav⟩:∃ v,(Value.agg (s.cells sm).toArray) = v:=⟨_,rfl⟩
   have HLS:Hid ((Instr.loadAt 27 (.pointer (some ⟨w.heap.size,1 + p * 14,none⟩))).run Tryz.prog wr = .ok av wr):=Lib.hid (by
    have:=HI.out.1
    rw [← HCS.out] at this
    rw [← hav,← hs,← hsm]
    exact seat_load this hp2)
   have HZN:Hid (Calls Tryz.prog 38 #[av] wr fun e w' => e = .returned (zonV s sm) ∧ Below wr.heap.size wr w'):=Lib.hid (by rw [← hav];exact zones_any s sm wr)
   obtain ⟨zv,hzv⟩:∃ v,zonV s sm = v:=⟨_,rfl⟩
   have HIX:Hid (∀ k:Nat,k < 4 → ∀ W,(Instr.index 85 zv (.int .i64 k)).run Tryz.prog W = .ok (.slice (sm.zm k).A (s.zl k).length (sm.zm k).c) W):=Lib.hid (fun k hk W => by rw [← hzv];exact zon_idx s sm hk W)
   rw [hzv] at HZN
   have hp0:decide ((p:Int) < 0) = false:=decide_eq_false (by omega)
   clear hs hsm hav hzv hp2
   go_wp2_with (first
    | (refine wpList_load_by HLS.out rfl rfl rfl ?_;simp only [Act.put,List.setIfInBounds_toArray,List.set_cons_succ,List.set_cons_zero])
    | fail)
   refine HZN.out.mono ?_
   rintro e w2 ⟨rfl,hb2⟩
   have HI2:Hid (Blk w2 w.heap.size 33 cs ∧ Below w.heap.size w w2):=Lib.hid ⟨HI.out.1.call hb2,below_call HI.out.2 hb2 HI.out.2.size⟩
   clear hb2 HZN HLS HI
   go_wp2_with fail
   go_loopw [3,21] (fun y i W => ∃ k u:Nat,k ≤ 4 ∧ y = .int .i64 u ∧ i = .int .i64 k ∧ W = w2 ∧ Hid (z + zlen s k = u)) (fun _ i _ => 4 - (intOf i).toNat)
   case atStart => exact ⟨0,z,Nat.zero_le _,rfl,rfl,rfl,Lib.hid rfl⟩
   case round =>
    obtain ⟨k,u,hk,rfl,rfl,rfl,HU⟩:=hrel
    by_cases hk4:k < 4
    ·have hk4':(k:Int) < 4:=by omega
     have hix:=HIX.out k hk4
     obtain ⟨q,hq⟩:∃ q,(s.zl k).length = q:=⟨_,rfl⟩
     rw [hq] at hix
     have HU1:Hid (z + zlen s (k + 1) = u + q):=Lib.hid (by rw [zlen,← HU.out,hq];omega)
     have huq:u + q ≤ 9223372036854775807:=by
      have h1:=HU1.out
      have h2:=zlen_mono s (show k + 1 ≤ 4 by omega)
      have h3:=HPL.out
      have h4:=HZ.out
      have h5:=HC.out
      have h6:=HS.out
      have h7:=HP2.out
      rcases (show p = 0 ∨ p = 1 by omega) with rfl | rfl <;> simp only [lenS,h6] at h3 h5 <;> omega
     have hw:wrap64 ((u:Int) + (q:Int)) = ((u + q:Nat):Int):=by unfold wrap64;omega
     clear hq huq
     go_wp2_with fail
     go_roundw
     case rel => exact ⟨k + 1,u + q,by omega,by go_num,by go_num,trivial,HU1⟩
     case measure => simp [intOf];omega
    ·obtain rfl:k = 4:=by omega
     have HC1:Hid (lenS b (p + 1) = u):=Lib.hid (by rw [lenS,HS.out,HC.out];exact HU.out)
     clear hk4 hk
     go_wp2_with fail
     go_roundw
     case rel => exact ⟨p + 1,u,by have:=HP2.out;omega,rfl,by go_num,HC1,HI2⟩
     case measure => simp [intOf];have:=HP2.out;omega
  ·have HP22:Hid (p = 2):=Lib.hid (by omega)
   have hpd:decide ((p:Int) < 2) = false:=decide_eq_false (by omega)
   have HC:Hid (lenS b 2 = z):=Lib.hid (by rw [← HP22.out];exact HC.out)
   clear hp2 hp
   go_wp2_with fail
   go_loopw [3,7] (fun y i W => ∃ j u:Nat,j ≤ nk ∧ y = .int .i64 u ∧ i = .int .i64 j ∧ Hid (z + (b.stk.take j).countP onP = u ∧ StkOk b j) ∧ Hid (Blk W w.heap.size 33 cs ∧ Below w.heap.size w W)) (fun _ i _ => nk - (intOf i).toNat)
   case atStart => exact ⟨0,z,Nat.zero_le _,rfl,rfl,Lib.hid ⟨by simp,fun i x hi => absurd hi (by omega)⟩,HI⟩
   case round =>
    obtain ⟨j,u,hj,rfl,rfl,HU,HJ⟩:=hrel
    clear HI
    have c29:wr.cell? ⟨w.heap.size,29,none⟩ = some (.slice KA nk Kc):=(HJ.out.1.at_ 29).trans E29.out
    by_cases hjn:j < nk
    ·have hjn':(j:Int) < nk:=by omega
     have HJN:=Lib.hid hjn
     obtain ⟨x,hx⟩:=get_of (l:=b.stk) (k:=j) (by rw [HNK.out];exact hjn)
     have hS:=HR.out.S.below HJ.out.2
     rw [HKS.out] at hS
     obtain ⟨t,hzp,-,-,-⟩:=hS.at_ hx
     have hrow:=hS.row
     rw [HNK.out] at hrow
     obtain ⟨ad,hA,-,d0,d1,d2,d3,d4⟩:=item_at hrow hzp hjn
     simp only at hA
     subst hA
     have HXG:=Lib.hid hx
     clear hx hzp hrow hS
     obtain ⟨gX,hgX⟩:∃ g,wr.heap.size = g:=⟨_,rfl⟩
     obtain ⟨w5,hw5⟩:∃ w5,wr.alloc (.cells #[.int .i64 x.pl,.int .i64 x.id,.int .i64 x.card,.int .i64 x.trg,.slice t.A x.tgs.length t.c] 55) = w5:=⟨_,rfl⟩
     have hal:Below wr.heap.size wr w5:=by rw [← hw5];exact (Below.refl _ _).alloc (Nat.le_refl _) _
     have HBK:Hid (Blk w5 gX 55 #[.int .i64 x.pl,.int .i64 x.id,.int .i64 x.card,.int .i64 x.trg,.slice t.A x.tgs.length t.c]):=Lib.hid (by rw [← hw5];exact Blk.mk_ wr _ _ _ hgX)
     have HI5:Hid (Blk w5 w.heap.size 33 cs ∧ Below w.heap.size w w5):=Lib.hid ⟨HJ.out.1.call hal,below_call HJ.out.2 hal HJ.out.2.size⟩
     have p1:w5.cell? ⟨gX,1,none⟩ = some (.int .i64 x.id):=(HBK.out.at_ 1).trans rfl
     have p3:w5.cell? ⟨gX,3,none⟩ = some (.int .i64 x.trg):=(HBK.out.at_ 3).trans rfl
     clear hal
     by_cases ht:0 ≤ x.trg
     ·have ht1:decide (0 ≤ x.trg) = true:=decide_eq_true ht
      have HU1:Hid (z + (b.stk.take (j + 1)).countP onP = u ∧ StkOk b (j + 1)):=Lib.hid ⟨by
       rw [onP_snoc HXG.out,if_neg (by unfold onP;simp;omega)]
       exact HU.out.1,fun i y hi hy hty => by
       rcases Nat.lt_or_ge i j with g | g
       ·exact HU.out.2 i y g hy hty
       ·obtain rfl:i = j:=by omega
        rw [HXG.out] at hy
        have:=Option.some.inj hy
        subst this
        omega⟩
      clear ht
      go_wp2_with fail
      go_roundw
      case rel => exact ⟨j + 1,u,hjn,rfl,by go_num,HU1,HI5⟩
      case measure => simp [intOf];omega
     ·have ht1:decide (0 ≤ x.trg) = false:=decide_eq_false ht
      have HTN:Hid (x.trg < 0):=Lib.hid (by omega)
      have HU0:Hid (z + (b.stk.take (j + 1)).countP onP = u + 1):=Lib.hid (by
       rw [onP_snoc HXG.out,if_pos (by unfold onP;simp;omega)]
       have:=HU.out.1
       omega)
      have hu:u + 1 ≤ 9223372036854775807:=by
       have h1:=HU0.out
       have h2:=onP_le b.stk (j + 1)
       have h3:=HPL.out
       have h4:=HZ.out
       have h5:=HC.out
       omega
      have hwu:wrap64 ((u:Int) + 1) = ((u + 1:Nat):Int):=by unfold wrap64;omega
      have HIXC:=Lib.hid (HIDX.out w5 x.id HI5.out.2)
      clear ht hu
      go_wp2_with (first
       | (refine wpList_load_by (HLD.out _ HI5.out.1) rfl rfl rfl ?_;simp only [Act.put,List.setIfInBounds_toArray,List.set_cons_succ,List.set_cons_zero])
       | fail)
      refine HIXC.out.mono ?_
      rintro e w6 ⟨hb6,hR⟩
      have HI6:Hid (Blk w6 w.heap.size 33 cs ∧ Below w.heap.size w w6):=Lib.hid ⟨HI5.out.1.call hb6,below_call HI5.out.2 hb6 HI5.out.2.size⟩
      have HBK6:=Lib.hid (HBK.out.call hb6)
      clear hb6 HIXC hw5 p1 p3 c29 hgX d0 d1 d2 d3 d4
      rcases hR with ⟨i,o,rfl,hio,hid⟩ | ⟨rfl,hnone⟩
      ·have hin:i < no:=by rw [← HNO.out];exact (List.getElem?_eq_some_iff.1 hio).1
       have hin':(i:Int) < no:=by omega
       have hi0:decide ((i:Int) < 0) = false:=decide_eq_false (by omega)
       have q0:w6.cell? ⟨w.heap.size,0,none⟩ = some (.slice OA no Oc):=(HI6.out.1.at_ 0).trans E0.out
       have q2:w6.cell? ⟨gX,2,none⟩ = some (.int .i64 x.card):=(HBK6.out.at_ 2).trans rfl
       obtain ⟨ao,rfl,-,-,f1,-⟩:=obj_at (HO.out.below HI6.out.2) hio hin
       have HIO:=Lib.hid (And.intro hio hid)
       clear hio hid
       by_cases hc:o.card = x.card
       ·have hcb:(o.card != x.card) = false:=by simp [hc]
        have HU1:Hid (z + (b.stk.take (j + 1)).countP onP = u + 1 ∧ StkOk b (j + 1)):=Lib.hid ⟨HU0.out,fun i2 y hi hy hty => by
         rcases Nat.lt_or_ge i2 j with g | g
         ·exact HU.out.2 i2 y g hy hty
         ·obtain rfl:i2 = j:=by omega
          rw [HXG.out] at hy
          have:=Option.some.inj hy
          subst this
          exact ⟨o,List.mem_of_getElem? HIO.out.1,HIO.out.2,hc⟩⟩
        clear hc
        go_wp2_with fail
        go_quiet (fail)
        go_wp2_with fail
        go_roundw
        case rel => exact ⟨j + 1,u + 1,hjn,by go_num,by go_num,HU1,Lib.hid ⟨HI6.out.1.call (below_drewN (Below.refl _ _) _),below_drewN HI6.out.2 _⟩⟩
        case measure => simp [intOf];omega
       ·have hcb:(o.card != x.card) = true:=by simp [hc]
        have HBAD:Hid (¬ plcR b):=Lib.hid (fun hp => by
         obtain ⟨o2,ho2,e1,e2⟩:=hp.1 x (List.mem_filter.2 ⟨List.mem_of_getElem? HXG.out,by simpa using HTN.out⟩)
         have:=uniq_id hp.2.2.1 (List.mem_of_getElem? HIO.out.1) ho2 (by rw [HIO.out.2,e1])
         subst this
         exact hc e2)
        clear hc
        go_wp2_with fail
        go_quiet (fail)
        go_wp2_with fail
        go_ret
        exact ⟨false,rfl,⟨fun h => (by cases h),fun h => absurd h HBAD.out⟩,below_drewN HI6.out.2 _⟩
      ·have HBAD:Hid (¬ plcR b):=Lib.hid (fun hp => by
        obtain ⟨o2,ho2,e1,e2⟩:=hp.1 x (List.mem_filter.2 ⟨List.mem_of_getElem? HXG.out,by simpa using HTN.out⟩)
        exact hnone o2 ho2 e1)
       clear hnone
       go_wp2_with fail
       go_quiet (fail)
       go_wp2_with fail
       go_ret
       exact ⟨false,rfl,⟨fun h => (by cases h),fun h => absurd h HBAD.out⟩,below_drewN HI6.out.2 _⟩
    ·obtain rfl:j = nk:=by omega
     have HPE:Hid (b.plc.length = u):=Lib.hid (by
      have h1:=HU.out.1
      rw [List.take_of_length_le (by rw [HNK.out];exact Nat.le_refl _)] at h1
      have h2:=HC.out
      have h3:=HPL.out
      omega)
     have HST:Hid (StkOk b b.stk.length):=Lib.hid (by rw [HNK.out];exact HU.out.2)
     clear HU HC hj hjn
     go_wp2_with fail
     go_loopw [10] (fun i W => ∃ j:Nat,j ≤ no ∧ i = .int .i64 j ∧ Hid (ObsOk b j) ∧ Hid (Blk W w.heap.size 33 cs ∧ Below w.heap.size w W)) (fun i _ => no - (intOf i).toNat)
     case atStart => exact ⟨0,Nat.zero_le _,rfl,Lib.hid ⟨fun i o h => absurd h (by omega),fun q o1 o2 h => absurd h (by omega)⟩,HJ⟩
     case round =>
      obtain ⟨j,hj,rfl,HE,HI⟩:=hrel
      clear HJ
      have c0:wr.cell? ⟨w.heap.size,0,none⟩ = some (.slice OA no Oc):=(HI.out.1.at_ 0).trans E0.out
      by_cases hjn:j < no
      ·have hjn':(j:Int) < no:=by omega
       have HJN:=Lib.hid hjn
       obtain ⟨o,ho⟩:=get_of (l:=b.objs) (k:=j) (by rw [HNO.out];exact hjn)
       obtain ⟨ad,rfl,hadl,d0,d1,d2,d3,d4,d5,d6,d7,d8,d9,d10,d11⟩:=obj_at (HO.out.below HI.out.2) ho hjn
       have HG:=Lib.hid ho
       obtain ⟨gX,hgX⟩:∃ g,wr.heap.size = g:=⟨_,rfl⟩
       obtain ⟨w5,hw5⟩:∃ w5,wr.alloc (.cells #[.int .i64 o.id,.int .i64 o.card,.int .i64 o.own,.int .i64 o.pow,.int .i64 o.tou,.int .i64 o.dam,.int .i64 o.cnt,.int .i64 o.pp,.int .i64 o.pt,.bool o.tap,.bool o.sick,.bool o.doom] 46) = w5:=⟨_,rfl⟩
       have hal:Below wr.heap.size wr w5:=by rw [← hw5];exact (Below.refl _ _).alloc (Nat.le_refl _) _
       have HBK:Hid (Blk w5 gX 46 #[.int .i64 o.id,.int .i64 o.card,.int .i64 o.own,.int .i64 o.pow,.int .i64 o.tou,.int .i64 o.dam,.int .i64 o.cnt,.int .i64 o.pp,.int .i64 o.pt,.bool o.tap,.bool o.sick,.bool o.doom]):=Lib.hid (by rw [← hw5];exact Blk.mk_ wr _ _ _ hgX)
       have HI5:Hid (Blk w5 w.heap.size 33 cs ∧ Below w.heap.size w w5):=Lib.hid ⟨HI.out.1.call hal,below_call HI.out.2 hal HI.out.2.size⟩
       obtain ⟨ov,hov⟩:∃ v,(Value.agg o.cells.toArray) = v:=⟨_,rfl⟩
       have HLO:Hid (∀ W,(∃ s:Later w5.heap.size w5,W = s.W) → (Instr.loadAt 46 (.pointer (some ⟨gX,0,none⟩))).run Tryz.prog W = .ok ov W):=Lib.hid (fun W hW => by
        obtain ⟨s,rfl⟩:=hW
        rw [← hov]
        exact (HBK.out.call s.h).mid o.cells _ (fun j v hj => by rw [Nat.zero_add];simpa [Ob.cells] using hj) Tryz.underlying46 rfl (by rw [size_object];rfl))
       have HLB:Hid (∀ W,(∃ s:Later w5.heap.size w5,W = s.W) → (Instr.loadAt 33 (.pointer (some ⟨w.heap.size,0,none⟩))).run Tryz.prog W = .ok (.agg cs) W):=Lib.hid (fun W hW => by
        obtain ⟨s,rfl⟩:=hW
        exact HLD.out _ (HI5.out.1.call s.h))
       have HOV:Hid (∀ s:Later w5.heap.size w5,Calls Tryz.prog 67 #[ov] s.W fun e w' => e = .returned (.bool (obOk o)) ∧ Below s.W.heap.size s.W w'):=Lib.hid (fun s => by rw [← hov];exact robj_any o s.W)
       have y0:∀ s:Later w5.heap.size w5,s.W.cell? ⟨w.heap.size,0,none⟩ = some (.slice (some ad) no Oc):=fun s => ((HI5.out.1.call s.h).at_ 0).trans E0.out
       have z0:∀ s:Later w5.heap.size w5,s.W.cell? ⟨gX,0,none⟩ = some (.int .i64 o.id):=fun s => ((HBK.out.call s.h).at_ 0).trans rfl
       have z2:∀ s:Later w5.heap.size w5,s.W.cell? ⟨gX,2,none⟩ = some (.int .i64 o.own):=fun s => ((HBK.out.call s.h).at_ 2).trans rfl
       clear hal hov ho
       obtain ⟨v,hv⟩:∃ v,obOk o = v:=⟨_,rfl⟩
       rw [hv] at HOV
       cases v with
       | false =>
        have HBAD:Hid (¬ plcR b):=Lib.hid (fun hp => by have h1:=(hp.2.1 o (List.mem_of_getElem? HG.out)).1;rw [hv] at h1;cases h1)
        clear hv
        go_wp2_with fail
        refine wp_region_later (B:=w5.heap.size) (w0:=w5) (Below.refl _ _) (by kernel_rfl) (by kernel_rfl) ?_
        refine wpQuiet_load_by HLO.out ⟨_,⟨⟨_,Below.refl _ _⟩,rfl⟩⟩ rfl rfl rfl ?_
        simp only [Act.put,List.setIfInBounds_toArray,List.set_cons_succ,List.set_cons_zero]
        go_big_quiet_step ((go_at_call 67;with_reducible exact Calls.later (Nat.le_refl _) (HOV.out _)))
        repeat (go_big_quiet_step (fail))
        refine wpQuiet_nil ?_
        intro _ hw'
        obtain ⟨s,hw2⟩:=hw'
        subst hw2
        obtain ⟨w7,hb7⟩:=s
        have HI7:Hid (Blk w7 w.heap.size 33 cs ∧ Below w.heap.size w w7):=Lib.hid ⟨HI5.out.1.call hb7,below_call HI5.out.2 hb7 HI5.out.2.size⟩
        clear y0 z0 z2
        go_wp2_with fail
        go_ret
        exact ⟨false,rfl,⟨fun h => (by cases h),fun h => absurd h HBAD.out⟩,HI7.out.2⟩
       | true =>
        have HOWN:Hid (∃ p:Nat,p < 2 ∧ o.own = (p:Int)):=Lib.hid (by
         have h1:=((obOk_iff o).1 hv).1
         exact ⟨o.own.toNat,by omega,by omega⟩)
        obtain ⟨p3,hp3,hop⟩:=HOWN.out
        have HPO:Hid (p3 < 2 ∧ o.own = (p3:Int)):=Lib.hid ⟨hp3,hop⟩
        rw [hop] at z2
        have HPC:Hid (∀ s:Later w5.heap.size w5,Calls Tryz.prog 68 #[.agg cs,.int .i64 p3,.int .i64 o.id] s.W fun e w' => e = .returned (.int .i64 (plN b p3 o.id:Nat)) ∧ Below s.W.heap.size s.W w'):=Lib.hid (fun s => HPLC.out s.W p3 o.id HPO.out.1 (below_call HI5.out.2 s.h HI5.out.2.size))
        obtain ⟨np,hnp⟩:∃ n,plN b p3 o.id = n:=⟨_,rfl⟩
        rw [hnp] at HPC
        have HNP:Hid (plN b o.own o.id = np):=Lib.hid (by rw [hop,hnp])
        have HOK:=Lib.hid hv
        clear hv hnp hop hp3 HOWN
        by_cases hj0:j = 0
        case pos =>
         have hjf:((0:Int) < (j:Int)) = False:=eq_false (by omega)
         have hjd:decide ((0:Int) < (j:Int)) = false:=decide_eq_false (by omega)
         have hjf2:(0 < j) = False:=eq_false (by omega)
         have hjd2:decide (0 < j) = false:=decide_eq_false (by omega)
         have HPAIR:Hid (∀ (o1 o2:Ob) (q:Nat),q + 1 = j → b.objs[q]? = some o1 → b.objs[q + 1]? = some o2 → o1.id < o2.id):=Lib.hid (fun o1 o2 q h => by omega)
         clear hj0
         by_cases hn1:np = 1
         case pos =>
          have hnb:((np:Int) != 1) = false:=by simp [hn1]
          have hnb2:(np != 1) = false:=by simp [hn1]
          have HE1:Hid (ObsOk b (j + 1)):=Lib.hid ⟨fun i o2 hi h2 => by
           rcases Nat.lt_or_ge i j with g | g
           ·exact HE.out.1 i o2 g h2
           ·obtain rfl:i = j:=by omega
            rw [HG.out] at h2
            rw [← Option.some.inj h2]
            exact ⟨HOK.out,by rw [HNP.out];exact hn1⟩,fun q o1 o2 hq h1 h2 => by
           rcases Nat.lt_or_ge (q + 1) j with g | g
           ·exact HE.out.2 q o1 o2 g h1 h2
           ·exact HPAIR.out o1 o2 q (by omega) h1 h2⟩
          clear hn1
          go_wp2_with fail
          refine wp_region_later (B:=w5.heap.size) (w0:=w5) (Below.refl _ _) (by kernel_rfl) (by kernel_rfl) ?_
          refine wpQuiet_load_by HLO.out ⟨_,⟨⟨_,Below.refl _ _⟩,rfl⟩⟩ rfl rfl rfl ?_
          simp only [Act.put,List.setIfInBounds_toArray,List.set_cons_succ,List.set_cons_zero]
          go_big_quiet_step ((go_at_call 67;with_reducible exact Calls.later (Nat.le_refl _) (HOV.out _)))
          iterate 18 (go_big_quiet_step (fail))
          refine wpQuiet_load_by HLB.out ⟨_,⟨⟨_,Below.refl _ _⟩,rfl⟩⟩ rfl rfl rfl ?_
          simp only [Act.put,List.setIfInBounds_toArray,List.set_cons_succ,List.set_cons_zero]
          repeat (go_big_quiet_step ((go_at_call 68;with_reducible exact Calls.later (Nat.le_refl _) (HPC.out _))))
          refine wpQuiet_nil ?_
          intro _ hw'
          obtain ⟨s,hw2⟩:=hw'
          subst hw2
          obtain ⟨w7,hb7⟩:=s
          have HI7:Hid (Blk w7 w.heap.size 33 cs ∧ Below w.heap.size w w7):=Lib.hid ⟨HI5.out.1.call hb7,below_call HI5.out.2 hb7 HI5.out.2.size⟩
          clear y0 z0 z2
          go_wp2_with fail
          go_roundw
          case rel => exact ⟨j + 1,HJN.out,by go_num,HE1,HI7⟩
          case measure => simp [intOf];have:=HJN.out;omega
         have hnb:((np:Int) != 1) = true:=by simp;omega
         have hnb2:(np != 1) = true:=by simp [hn1]
         have HBAD:Hid (¬ plcR b):=Lib.hid (fun hp => hn1 (by rw [← HNP.out];exact (hp.2.1 o (List.mem_of_getElem? HG.out)).2))
         clear hn1
         go_wp2_with fail
         refine wp_region_later (B:=w5.heap.size) (w0:=w5) (Below.refl _ _) (by kernel_rfl) (by kernel_rfl) ?_
         refine wpQuiet_load_by HLO.out ⟨_,⟨⟨_,Below.refl _ _⟩,rfl⟩⟩ rfl rfl rfl ?_
         simp only [Act.put,List.setIfInBounds_toArray,List.set_cons_succ,List.set_cons_zero]
         go_big_quiet_step ((go_at_call 67;with_reducible exact Calls.later (Nat.le_refl _) (HOV.out _)))
         iterate 18 (go_big_quiet_step (fail))
         refine wpQuiet_load_by HLB.out ⟨_,⟨⟨_,Below.refl _ _⟩,rfl⟩⟩ rfl rfl rfl ?_
         simp only [Act.put,List.setIfInBounds_toArray,List.set_cons_succ,List.set_cons_zero]
         repeat (go_big_quiet_step ((go_at_call 68;with_reducible exact Calls.later (Nat.le_refl _) (HPC.out _))))
         refine wpQuiet_nil ?_
         intro _ hw'
         obtain ⟨s,hw2⟩:=hw'
         subst hw2
         obtain ⟨w7,hb7⟩:=s
         have HI7:Hid (Blk w7 w.heap.size 33 cs ∧ Below w.heap.size w w7):=Lib.hid ⟨HI5.out.1.call hb7,below_call HI5.out.2 hb7 HI5.out.2.size⟩
         clear y0 z0 z2
         go_wp2_with fail
         go_ret
         exact ⟨false,rfl,⟨fun h => (by cases h),fun h => absurd h HBAD.out⟩,HI7.out.2⟩
        have hjp:(0:Int) < (j:Int):=by omega
        have hjp2:0 < j:=by omega
        obtain ⟨o1,ho1⟩:=get_of (l:=b.objs) (k:=j - 1) (by rw [HNO.out];omega)
        obtain ⟨ad2,e9,hadl5,f0,-⟩:=obj_at (HO.out.below HI5.out.2) ho1 (by omega)
        injection e9 with e9
        subst e9
        have hjm:((j:Int) - 1) = ((j - 1:Nat):Int):=by omega
        have f0':∀ s:Later w5.heap.size w5,s.W.cell? (ad.add ((j - 1) * 12)) = some (.int .i64 o1.id):=fun s => (s.h.cell (p:=ad.add ((j - 1) * 12)) (by unfold Addr.add;split <;> exact hadl5)).trans f0
        have hwj:wrap64 ((j:Int) - 1) = ((j - 1:Nat):Int):=by unfold wrap64;omega
        have hwj2:IntKind.i64.wrap ((j:Int) - 1) = ((j - 1:Nat):Int):=by rw [IntWalk.i64_in _ (by omega)];exact hjm
        have hj1n:(((j - 1:Nat)):Int) < no:=by omega
        have hj1z:(0:Int) ≤ ((j - 1:Nat):Int):=by omega
        have HO1:=Lib.hid ho1
        clear ho1 f0
        by_cases hge:o.id ≤ o1.id
        case pos =>
         have hged:decide (o.id ≤ o1.id) = true:=decide_eq_true hge
         have HBAD:Hid (¬ plcR b):=Lib.hid (fun hp => by
          have h1:=inc_at hp.2.2.1 HO1.out (by rw [Nat.sub_add_cancel hjp2];exact HG.out)
          omega)
         clear hge
         go_wp2_with fail
         refine wp_region_later (B:=w5.heap.size) (w0:=w5) (Below.refl _ _) (by kernel_rfl) (by kernel_rfl) ?_
         refine wpQuiet_load_by HLO.out ⟨_,⟨⟨_,Below.refl _ _⟩,rfl⟩⟩ rfl rfl rfl ?_
         simp only [Act.put,List.setIfInBounds_toArray,List.set_cons_succ,List.set_cons_zero]
         go_big_quiet_step ((go_at_call 67;with_reducible exact Calls.later (Nat.le_refl _) (HOV.out _)))
         repeat (go_big_quiet_step (fail))
         refine wpQuiet_nil ?_
         intro _ hw'
         obtain ⟨s,hw2⟩:=hw'
         subst hw2
         obtain ⟨w7,hb7⟩:=s
         have HI7:Hid (Blk w7 w.heap.size 33 cs ∧ Below w.heap.size w w7):=Lib.hid ⟨HI5.out.1.call hb7,below_call HI5.out.2 hb7 HI5.out.2.size⟩
         clear y0 z0 z2
         go_wp2_with fail
         go_ret
         exact ⟨false,rfl,⟨fun h => (by cases h),fun h => absurd h HBAD.out⟩,HI7.out.2⟩
        have hged:decide (o.id ≤ o1.id) = false:=decide_eq_false hge
        have HPAIR:Hid (∀ (o1 o2:Ob) (q:Nat),q + 1 = j → b.objs[q]? = some o1 → b.objs[q + 1]? = some o2 → o1.id < o2.id):=Lib.hid (fun p1 p2 q hq h1 h2 => by
         obtain rfl:q = j - 1:=by omega
         rw [Nat.sub_add_cancel hjp2,HG.out] at h2
         rw [HO1.out] at h1
         have e1:=Option.some.inj h1
         have e2:=Option.some.inj h2
         rw [← e1,← e2]
         omega)
        clear hge
        by_cases hn1:np = 1
        case pos =>
         have hnb:((np:Int) != 1) = false:=by simp [hn1]
         have hnb2:(np != 1) = false:=by simp [hn1]
         have HE1:Hid (ObsOk b (j + 1)):=Lib.hid ⟨fun i o2 hi h2 => by
          rcases Nat.lt_or_ge i j with g | g
          ·exact HE.out.1 i o2 g h2
          ·obtain rfl:i = j:=by omega
           rw [HG.out] at h2
           rw [← Option.some.inj h2]
           exact ⟨HOK.out,by rw [HNP.out];exact hn1⟩,fun q o1 o2 hq h1 h2 => by
          rcases Nat.lt_or_ge (q + 1) j with g | g
          ·exact HE.out.2 q o1 o2 g h1 h2
          ·exact HPAIR.out o1 o2 q (by omega) h1 h2⟩
         clear hn1
         go_wp2_with fail
         refine wp_region_later (B:=w5.heap.size) (w0:=w5) (Below.refl _ _) (by kernel_rfl) (by kernel_rfl) ?_
         refine wpQuiet_load_by HLO.out ⟨_,⟨⟨_,Below.refl _ _⟩,rfl⟩⟩ rfl rfl rfl ?_
         simp only [Act.put,List.setIfInBounds_toArray,List.set_cons_succ,List.set_cons_zero]
         go_big_quiet_step ((go_at_call 67;with_reducible exact Calls.later (Nat.le_refl _) (HOV.out _)))
         iterate 18 (go_big_quiet_step (fail))
         refine wpQuiet_load_by HLB.out ⟨_,⟨⟨_,Below.refl _ _⟩,rfl⟩⟩ rfl rfl rfl ?_
         simp only [Act.put,List.setIfInBounds_toArray,List.set_cons_succ,List.set_cons_zero]
         repeat (go_big_quiet_step ((go_at_call 68;with_reducible exact Calls.later (Nat.le_refl _) (HPC.out _))))
         refine wpQuiet_nil ?_
         intro _ hw'
         obtain ⟨s,hw2⟩:=hw'
         subst hw2
         obtain ⟨w7,hb7⟩:=s
         have HI7:Hid (Blk w7 w.heap.size 33 cs ∧ Below w.heap.size w w7):=Lib.hid ⟨HI5.out.1.call hb7,below_call HI5.out.2 hb7 HI5.out.2.size⟩
         clear y0 z0 z2
         go_wp2_with fail
         go_roundw
         case rel => exact ⟨j + 1,HJN.out,by go_num,HE1,HI7⟩
         case measure => simp [intOf];have:=HJN.out;omega
        have hnb:((np:Int) != 1) = true:=by simp;omega
        have hnb2:(np != 1) = true:=by simp [hn1]
        have HBAD:Hid (¬ plcR b):=Lib.hid (fun hp => hn1 (by rw [← HNP.out];exact (hp.2.1 o (List.mem_of_getElem? HG.out)).2))
        clear hn1
        go_wp2_with fail
        refine wp_region_later (B:=w5.heap.size) (w0:=w5) (Below.refl _ _) (by kernel_rfl) (by kernel_rfl) ?_
        refine wpQuiet_load_by HLO.out ⟨_,⟨⟨_,Below.refl _ _⟩,rfl⟩⟩ rfl rfl rfl ?_
        simp only [Act.put,List.setIfInBounds_toArray,List.set_cons_succ,List.set_cons_zero]
        go_big_quiet_step ((go_at_call 67;with_reducible exact Calls.later (Nat.le_refl _) (HOV.out _)))
        iterate 18 (go_big_quiet_step (fail))
        refine wpQuiet_load_by HLB.out ⟨_,⟨⟨_,Below.refl _ _⟩,rfl⟩⟩ rfl rfl rfl ?_
        simp only [Act.put,List.setIfInBounds_toArray,List.set_cons_succ,List.set_cons_zero]
        repeat (go_big_quiet_step ((go_at_call 68;with_reducible exact Calls.later (Nat.le_refl _) (HPC.out _))))
        refine wpQuiet_nil ?_
        intro _ hw'
        obtain ⟨s,hw2⟩:=hw'
        subst hw2
        obtain ⟨w7,hb7⟩:=s
        have HI7:Hid (Blk w7 w.heap.size 33 cs ∧ Below w.heap.size w w7):=Lib.hid ⟨HI5.out.1.call hb7,below_call HI5.out.2 hb7 HI5.out.2.size⟩
        clear y0 z0 z2
        go_wp2_with fail
        go_ret
        exact ⟨false,rfl,⟨fun h => (by cases h),fun h => absurd h HBAD.out⟩,HI7.out.2⟩
      ·obtain rfl:j = no:=by omega
       by_cases hq:u = j
       ·have hqb:((u:Int) == (j:Int)) = true:=by simp [hq]
        have HOK:Hid (plcR b):=Lib.hid (found_all HST.out (by rw [HNO.out];exact HE.out) (by rw [HPE.out,HNO.out];exact hq))
        clear hq
        go_wp2_with fail
        go_ret
        exact ⟨true,rfl,⟨fun _ => HOK.out,fun _ => rfl⟩,HI.out.2⟩
       ·have hqb:((u:Int) == (j:Int)) = false:=by simp;omega
        have HBAD:Hid (¬ plcR b):=Lib.hid (fun hp => hq (by rw [← HPE.out,hp.2.2.2,HNO.out]))
        clear hq
        go_wp2_with fail
        go_ret
        exact ⟨false,rfl,⟨fun h => (by cases h),fun h => absurd h HBAD.out⟩,HI.out.2⟩
end Go.Proofs.YtagpphelgghbpaaGreat
