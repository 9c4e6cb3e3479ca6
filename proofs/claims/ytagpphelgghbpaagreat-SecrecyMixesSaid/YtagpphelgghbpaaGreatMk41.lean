/-
  Texts: Hsb, Rvd.
-/
import Derived.Test.YtagpphelgghbpaaGreatMk40
import Derived.Test.YtagpphelgghbpaaGreatMk29
set_option linter.unusedSimpArgs false
set_option linter.unusedVariables false
namespace Go.Proofs.YtagpphelgghbpaaGreat
open Go.RowKit

def SmEnd (w:World) (e:Ending) (w':World):Prop:=∃ v:Bool,e = .returned (.bool v) ∧ Below w.heap.size w w'
theorem run_max4 (a b c d:Int):∃ z:Int,∀ W:World,(Builtin.max_ #[3,3,3,3] 3 #[.int .i64 a,.int .i64 b,.int .i64 c,.int .i64 d]).run Tryz.prog W = .ok (.int .i64 z) W:=⟨_,fun W => by simp [Builtin.max_,Builtin.max2];rfl⟩
theorem run_max5 (a b c d e:Int):∃ z:Int,∀ W:World,(Builtin.max_ #[3,3,3,3,3] 3 #[.int .i64 a,.int .i64 b,.int .i64 c,.int .i64 d,.int .i64 e]).run Tryz.prog W = .ok (.int .i64 z) W:=⟨_,fun W => by simp [Builtin.max_,Builtin.max2];rfl⟩
set_option maxRecDepth 100000 in
set_option maxHeartbeats 3200000 in
theorem small_any (b:Bd) (m:BdM) (w:World) (hR:BdR w b m):Calls Tryz.prog 6 #[.agg (b.cells m).toArray] w (SmEnd w):=by
 obtain ⟨cs,hcs⟩:∃ cs,(b.cells m).toArray = cs:=⟨_,rfl⟩
 have HCS:=Lib.hid hcs
 obtain ⟨⟨SA,Sc⟩,hS⟩:∃ x,m.S = x:=⟨_,rfl⟩
 obtain ⟨⟨QA,Qc⟩,hQ⟩:∃ x,m.Q = x:=⟨_,rfl⟩
 obtain ⟨ns,hns⟩:∃ x,b.stk.length = x:=⟨_,rfl⟩
 obtain ⟨nq,hnq⟩:∃ x,b.que.length = x:=⟨_,rfl⟩
 obtain ⟨no,hno⟩:∃ x,b.objs.length = x:=⟨_,rfl⟩
 obtain ⟨na,hna⟩:∃ x,b.att.length = x:=⟨_,rfl⟩
 obtain ⟨nk,hnk⟩:∃ x,b.blk.length = x:=⟨_,rfl⟩
 have HC:Hid (cs[0]? = some (.slice m.O.A no m.O.c) ∧ cs[29]? = some (.slice SA ns Sc) ∧ cs[30]? = some (.slice QA nq Qc) ∧ cs[31]? = some (.slice m.AT.A na m.AT.c) ∧ cs[32]? = some (.slice m.BK.A nk m.BK.c)):=Lib.hid ⟨by rw [← hcs,← hno];rfl,by rw [← hcs,← hns];show some (m.S.v _) = _;rw [hS];rfl,by rw [← hcs,← hnq];show some (m.Q.v _) = _;rw [hQ];rfl,by rw [← hcs,← hna];rfl,by rw [← hcs,← hnk];rfl⟩
 have HRS:Hid (IsR w ⟨SA,Sc⟩ b.stk m.ST ∧ IsR w ⟨QA,Qc⟩ b.que m.QT):=Lib.hid ⟨by rw [← hS];exact hR.S,by rw [← hQ];exact hR.Q⟩
 have HNS:=Lib.hid hns
 have HNQ:=Lib.hid hnq
 have hsb:ns ≤ 9223372036854775807:=by have:=hR.S.ok.1;have:=hR.S.ok.2.2;omega
 have hqb:nq ≤ 9223372036854775807:=by have:=hR.Q.ok.1;have:=hR.Q.ok.2.2;omega
 obtain ⟨w1,hw1⟩:∃ x,w.alloc (.cells cs 33) = x:=⟨_,rfl⟩
 have hb1:Below w.heap.size w w1:=by rw [← hw1];exact (Below.refl _ _).alloc (Nat.le_refl _) _
 have hk1:Blk w1 w.heap.size 33 cs:=by rw [← hw1];exact Blk.mk_ _ _ _ _ rfl
 have c29:=(hk1.at_ 29).trans HC.out.2.1
 have c30:=(hk1.at_ 30).trans HC.out.2.2.1
 have c31:=(hk1.at_ 31).trans HC.out.2.2.2.1
 have c32:=(hk1.at_ 32).trans HC.out.2.2.2.2
 have HI1:Hid (Blk w1 w.heap.size 33 cs ∧ Below w.heap.size w w1):=Lib.hid ⟨hk1,hb1⟩
 rw [hcs]
 clear hR hcs hS hQ hns hnq hno hna hnk hb1 hk1
 go_enter Tryz.func6,Tryz.ntmps6
 obtain ⟨z4,hz4⟩:=run_max4 (ns:Int) nq na nk
 go_wp2_with fail
 clear hz4 c29 c30 c31 c32 hw1
 go_loopw [3,4] (fun z iv W => ∃ (p:Nat) (x:Int),z = .int .i64 x ∧ iv = .int .i64 p ∧ p ≤ 2 ∧ Hid (Blk W w.heap.size 33 cs ∧ Below w.heap.size w W)) (fun _ iv _ => 2 - (intOf iv).toNat)
 case atStart => exact ⟨0,_,rfl,rfl,by omega,HI1⟩
 case round =>
  obtain ⟨p,x,rfl,rfl,hp,HI⟩:=hrel
  clear HI1
  by_cases hp2:p < 2
  ·have hp2':(p:Int) < 2:=by omega
   have HP2:=Lib.hid hp2
   obtain ⟨s,hs⟩:∃ x,seN b p = x:=⟨_,rfl⟩
   obtain ⟨sm,hsm⟩:∃ x,smN m p = x:=⟨_,rfl⟩
   have HLS:Hid ((Instr.loadAt 27 (.pointer (some ⟨w.heap.size,1 + p * 14,none⟩))).run Tryz.prog wr = .ok (.agg (s.cells sm).toArray) wr):=Lib.hid (by
    refine HI.out.1.mid (s.cells sm) _ (fun j v hj => ?_) Tryz.underlying27 rfl (by rw [size_seat];rfl)
    have hj14:j < 14:=(List.getElem?_eq_some_iff.1 hj).1
    rw [← HCS.out,← hj,← hs,← hsm,List.getElem?_toArray]
    rcases (show p = 0 ∨ p = 1 by omega) with rfl | rfl
    ·rcases (show j = 0 ∨ j = 1 ∨ j = 2 ∨ j = 3 ∨ j = 4 ∨ j = 5 ∨ j = 6 ∨ j = 7 ∨ j = 8 ∨ j = 9 ∨ j = 10 ∨ j = 11 ∨ j = 12 ∨ j = 13 by omega) with rfl | rfl | rfl | rfl | rfl | rfl | rfl | rfl | rfl | rfl | rfl | rfl | rfl | rfl <;> rfl
    ·rcases (show j = 0 ∨ j = 1 ∨ j = 2 ∨ j = 3 ∨ j = 4 ∨ j = 5 ∨ j = 6 ∨ j = 7 ∨ j = 8 ∨ j = 9 ∨ j = 10 ∨ j = 11 ∨ j = 12 ∨ j = 13 by omega) with rfl | rfl | rfl | rfl | rfl | rfl | rfl | rfl | rfl | rfl | rfl | rfl | rfl | rfl <;> rfl)
   obtain ⟨g5,hg5⟩:∃ x,wr.heap.size = x:=⟨_,rfl⟩
   obtain ⟨w5,hst,hk5,hgg⟩:=(Blk.mk_ wr 27 #[.int .i64 0,.int .i64 0,.int .i64 0,.int .i64 0,.int .i64 0,.slice none 0 0,.slice none 0 0,.slice none 0 0,.slice none 0 0,.bool false,.bool false,.bool false,.int .i64 0,.int .i64 0] g5 hg5).storeAll (ty:=27) (s.cells sm) rfl (by rw [size_seat];rfl) (one_se _ _)
   have hb5:Below wr.heap.size wr w5:=((Below.refl _ _).alloc (Nat.le_refl _) _).grown hgg (by simp) (fun q hq => by injection hq with hq;omega)
   have HI5:Hid (Blk w5 w.heap.size 33 cs ∧ Below w.heap.size w w5):=Lib.hid ⟨HI.out.1.call hb5,below_call HI.out.2 hb5 HI.out.2.size⟩
   have HST:=Lib.hid hst
   have d5:w5.cell? ⟨g5,5,none⟩ = some (.slice sm.L.A s.lib.length sm.L.c):=(hk5.at_ 5).trans rfl
   have d6:w5.cell? ⟨g5,6,none⟩ = some (.slice sm.H.A s.hand.length sm.H.c):=(hk5.at_ 6).trans rfl
   have d7:w5.cell? ⟨g5,7,none⟩ = some (.slice sm.F.A s.fld.length sm.F.c):=(hk5.at_ 7).trans rfl
   have d8:w5.cell? ⟨g5,8,none⟩ = some (.slice sm.G.A s.grv.length sm.G.c):=(hk5.at_ 8).trans rfl
   obtain ⟨z5,hz5⟩:=run_max5 x s.lib.length s.hand.length s.fld.length s.grv.length
   clear hst hk5 hgg hb5 HI hs hsm hp2
   go_wp2_with (first
    | (refine wpList_load_by HLS.out rfl rfl rfl ?_;simp only [Act.put,List.setIfInBounds_toArray,List.set_cons_succ,List.set_cons_zero])
    | (refine wpList_store_by HST.out rfl rfl rfl rfl ?_;simp only [Act.put,List.setIfInBounds_toArray,List.set_cons_succ,List.set_cons_zero])
    | fail)
   clear d5 d6 d7 d8
   go_roundw
   case rel => exact ⟨p + 1,_,rfl,by go_num,by have:=HP2.out;omega,HI5⟩
   case measure => simp [intOf];have:=HP2.out;omega
  ·have hp2':decide ((p:Int) < 2) = false:=by simp;omega
   have c0:wr.cell? ⟨w.heap.size,0,none⟩ = some (.slice m.O.A no m.O.c):=(HI.out.1.at_ 0).trans HC.out.1
   clear hp hp2
   by_cases hn:(120:Int) < no
   ·have hn':decide ((120:Int) < no) = true:=by simpa using hn
    go_wp2_with fail
    go_ret
    exact ⟨_,rfl,HI.out.2⟩
   ·have hn':decide ((120:Int) < no) = false:=by simpa using hn
    by_cases hx:(200:Int) < x
    ·have hx':decide ((200:Int) < x) = true:=by simpa using hx
     go_wp2_with fail
     go_ret
     exact ⟨_,rfl,HI.out.2⟩
    ·have hx':decide ((200:Int) < x) = false:=by simpa using hx
     go_wp2_with fail
     clear c0
     go_loopw [6,7] (fun z iv W => ∃ (k:Nat) (y:Int),z = .int .i64 y ∧ iv = .int .i64 k ∧ k ≤ ns ∧ Hid (Blk W w.heap.size 33 cs ∧ Below w.heap.size w W)) (fun _ iv _ => ns - (intOf iv).toNat)
     case atStart => exact ⟨0,0,rfl,rfl,Nat.zero_le _,HI⟩
     case round =>
      obtain ⟨k,y,rfl,rfl,hk,HI2⟩:=hrel
      clear HI
      have c29:wr.cell? ⟨w.heap.size,29,none⟩ = some (.slice SA ns Sc):=(HI2.out.1.at_ 29).trans HC.out.2.1
      by_cases hkn:k < ns
      ·have hkn':(k:Int) < ns:=by omega
       obtain ⟨z,hz⟩:=get_of (l:=b.stk) (k:=k) (by rw [HNS.out];exact hkn)
       obtain ⟨t,ht⟩:=get_of (l:=m.ST) (k:=k) (by rw [HRS.out.1.len,HNS.out];exact hkn)
       have hrow:=HRS.out.1.row.below HI2.out.2
       rw [HNS.out] at hrow
       obtain ⟨ad,rfl,-,-,-,-,-,c4⟩:=item_at hrow (i:=k) (x:=z) (t:=t) (by rw [List.getElem?_zip_eq_some];exact ⟨hz,ht⟩) hkn
       clear hrow hz ht
       go_wp2_with fail
       go_roundw
       case rel => exact ⟨k + 1,_,rfl,by go_num,by omega,HI2⟩
       case measure => simp [intOf];omega
      ·have hkd:decide ((k:Int) < ns) = false:=by simp;omega
       clear hk
       go_wp2_with fail
       clear c29
       go_loopw [6,8] (fun z iv W => ∃ (k:Nat) (y:Int),z = .int .i64 y ∧ iv = .int .i64 k ∧ k ≤ nq ∧ Hid (Blk W w.heap.size 33 cs ∧ Below w.heap.size w W)) (fun _ iv _ => nq - (intOf iv).toNat)
       case atStart => exact ⟨0,y,rfl,rfl,Nat.zero_le _,HI2⟩
       case round =>
        obtain ⟨k,y,rfl,rfl,hk,HI3⟩:=hrel
        clear HI2
        have c30:wr.cell? ⟨w.heap.size,30,none⟩ = some (.slice QA nq Qc):=(HI3.out.1.at_ 30).trans HC.out.2.2.1
        by_cases hkn:k < nq
        ·have hkn':(k:Int) < nq:=by omega
         obtain ⟨z,hz⟩:=get_of (l:=b.que) (k:=k) (by rw [HNQ.out];exact hkn)
         obtain ⟨t,ht⟩:=get_of (l:=m.QT) (k:=k) (by rw [HRS.out.2.len,HNQ.out];exact hkn)
         have hrow:=HRS.out.2.row.below HI3.out.2
         rw [HNQ.out] at hrow
         obtain ⟨ad,rfl,-,-,-,-,-,c4⟩:=item_at hrow (i:=k) (x:=z) (t:=t) (by rw [List.getElem?_zip_eq_some];exact ⟨hz,ht⟩) hkn
         clear hrow hz ht
         go_wp2_with fail
         go_roundw
         case rel => exact ⟨k + 1,_,rfl,by go_num,by omega,HI3⟩
         case measure => simp [intOf];omega
        ·have hkd:decide ((k:Int) < nq) = false:=by simp;omega
         clear hk
         go_wp2_with fail
         go_ret
         exact ⟨_,rfl,HI3.out.2⟩

theorem seat_load {W:World} {g:Nat} {b:Bd} {m:BdM} (h:Blk W g 33 (b.cells m).toArray) {p:Nat} (hp:p < 2):(Instr.loadAt 27 (.pointer (some ⟨g,1 + p * 14,none⟩))).run Tryz.prog W = .ok (.agg ((seN b p).cells (smN m p)).toArray) W:=by
 refine h.mid ((seN b p).cells (smN m p)) _ (fun j v hj => ?_) Tryz.underlying27 rfl (by rw [size_seat];rfl)
 have hj14:j < 14:=(List.getElem?_eq_some_iff.1 hj).1
 rw [← hj,List.getElem?_toArray]
 rcases (show p = 0 ∨ p = 1 by omega) with rfl | rfl
 ·rcases (show j = 0 ∨ j = 1 ∨ j = 2 ∨ j = 3 ∨ j = 4 ∨ j = 5 ∨ j = 6 ∨ j = 7 ∨ j = 8 ∨ j = 9 ∨ j = 10 ∨ j = 11 ∨ j = 12 ∨ j = 13 by omega) with rfl | rfl | rfl | rfl | rfl | rfl | rfl | rfl | rfl | rfl | rfl | rfl | rfl | rfl <;> rfl
 ·rcases (show j = 0 ∨ j = 1 ∨ j = 2 ∨ j = 3 ∨ j = 4 ∨ j = 5 ∨ j = 6 ∨ j = 7 ∨ j = 8 ∨ j = 9 ∨ j = 10 ∨ j = 11 ∨ j = 12 ∨ j = 13 by omega) with rfl | rfl | rfl | rfl | rfl | rfl | rfl | rfl | rfl | rfl | rfl | rfl | rfl | rfl <;> rfl
theorem seR_n {w:World} {b:Bd} {m:BdM} (h:BdR w b m) {p:Nat} (hp:p < 2):SeR w (seN b p) (smN m p):=by
 rcases (show p = 0 ∨ p = 1 by omega) with rfl | rfl
 ·exact h.s0
 ·exact h.s1
def zcnt (s:Se) (id:Int):Nat → Nat
 | 0 => 0
 | k + 1 => zcnt s id k + (s.zl k).count id
def zlen (s:Se):Nat → Nat
 | 0 => 0
 | k + 1 => zlen s k + (s.zl k).length
def stP (p:Nat) (id:Int) (x:It):Bool:=decide (x.trg = -1) && decide (x.id = id) && decide (x.pl = (p:Int))
theorem zlen_ids (s:Se):zlen s 4 = s.ids.length:=by
 simp [zlen,Se.zl,Se.ids]
 omega
theorem zcnt_ids (s:Se) (id:Int):zcnt s id 4 = s.ids.count id:=by
 simp [zcnt,Se.zl,Se.ids,List.count_append]
 omega
theorem zlen_mono (s:Se) {k j:Nat} (h:k ≤ j):zlen s k ≤ zlen s j:=by
 induction j with
 | zero => obtain rfl:k = 0:=by omega
           exact Nat.le_refl _
 | succ j ih =>
  rcases Nat.lt_or_ge k (j + 1) with h1 | h1
  ·exact Nat.le_trans (ih (by omega)) (Nat.le_add_right _ _)
  ·obtain rfl:k = j + 1:=by omega
   exact Nat.le_refl _
theorem count_pair (l:List Int) (q p id:Int):(l.map fun i => (i,q)).count (id,p) = if q = p then l.count id else 0:=by
 induction l with
 | nil => simp
 | cons a l ih =>
  rw [List.map_cons,List.count_cons,ih,List.count_cons]
  by_cases hq:q = p
  ·subst hq
   rw [if_pos rfl,if_pos rfl]
   simp
  ·rw [if_neg hq,if_neg hq]
   simp [hq]
theorem plN_eq {b:Bd} {p:Nat} (hp:p < 2) (id:Int) (hst:∀ x ∈ b.stk,-1 ≤ x.trg):plN b p id = zcnt (seN b p) id 4 + b.stk.countP (stP p id):=by
 unfold plN Bd.plc
 rw [List.count_append,List.count_append,count_pair,count_pair,zcnt_ids]
 have h1:((onStk b).map fun x => (x.id,x.pl)).count (id,(p:Int)) = b.stk.countP (stP p id):=by
  unfold onStk
  rw [List.count_eq_countP,List.countP_map,List.countP_filter]
  refine List.countP_congr fun x hx => ?_
  have:=hst x hx
  unfold stP
  simp only [Function.comp,Bool.and_eq_true,decide_eq_true_eq,beq_iff_eq,Prod.mk.injEq]
  omega
 rw [h1]
 rcases (show p = 0 ∨ p = 1 by omega) with rfl | rfl
 ·simp [seN]
 ·simp [seN]
theorem plN_le {b:Bd} {p:Nat} (id:Int):plN b p id ≤ b.plc.length:=List.count_le_length ..
theorem stP_snoc (p:Nat) (id:Int) {l:List It} {k:Nat} {x:It} (h:l[k]? = some x):(l.take (k + 1)).countP (stP p id) = (l.take k).countP (stP p id) + if stP p id x = true then 1 else 0:=by
 rw [take_snoc h,List.countP_append]
 simp [List.countP_cons]
theorem stP_le (p:Nat) (id:Int) (l:List It) (k:Nat):(l.take k).countP (stP p id) ≤ l.countP (stP p id):=by
 rw [← List.take_append_drop k l,List.countP_append,List.take_append_drop]
 omega
set_option maxRecDepth 100000 in
set_option maxHeartbeats 6400000 in
theorem places_any (b:Bd) (m:BdM) (w:World) (h:BdR w b m) (hz:b.plc.length < 9223372036854775807) (hst:∀ x ∈ b.stk,-1 ≤ x.trg) (p:Nat) (hp:p < 2) (id:Int) :
  Calls Tryz.prog 68 #[.agg (b.cells m).toArray,.int .i64 p,.int .i64 id] w fun e w' => e = .returned (.int .i64 (plN b p id:Nat)) ∧ Below w.heap.size w w':=by
 have HR:=Lib.hid h
 have HPE:=Lib.hid (plN_eq hp id hst)
 have HPB:Hid (plN b p id < 9223372036854775807):=Lib.hid (Nat.lt_of_le_of_lt (plN_le id) hz)
 have HP:=Lib.hid hp
 obtain ⟨cs,hcs⟩:∃ cs,(b.cells m).toArray = cs:=⟨_,rfl⟩
 obtain ⟨⟨KA,Kc⟩,hK⟩:∃ s,m.S = s:=⟨_,rfl⟩
 obtain ⟨nk,hnk⟩:∃ n,b.stk.length = n:=⟨_,rfl⟩
 have hkk:nk ≤ 9223372036854775807:=by have:=h.S.ok;unfold Sl.ok at this;omega
 have HNK:=Lib.hid hnk
 have HKS:Hid (m.S = ⟨KA,Kc⟩):=Lib.hid hK
 have E29:Hid (cs[29]? = some (.slice KA nk Kc)):=Lib.hid (by
  rw [← hcs]
  show some (m.S.v b.stk.length) = _
  rw [hK,hnk]
  rfl)
 obtain ⟨w1,hw1⟩:∃ x,w.alloc (.cells cs 33) = x:=⟨_,rfl⟩
 have HBX:Hid (Blk w1 w.heap.size 33 cs ∧ Below w.heap.size w w1):=Lib.hid ⟨by rw [← hw1];exact Blk.mk_ w _ _ _ rfl,by rw [← hw1];exact (Below.refl _ _).alloc (Nat.le_refl _) _⟩
 obtain ⟨s,hs⟩:∃ x,seN b p = x:=⟨_,rfl⟩
 obtain ⟨sm,hsm⟩:∃ x,smN m p = x:=⟨_,rfl⟩
 have HLS:Hid ((Instr.loadAt 27 (.pointer (some ⟨w.heap.size,1 + p * 14,none⟩))).run Tryz.prog w1 = .ok (.agg (s.cells sm).toArray) w1):=Lib.hid (by
  have:=HBX.out.1
  rw [← hcs] at this
  rw [← hs,← hsm]
  exact seat_load this hp)
 have HSE:Hid (SeR w s sm):=Lib.hid (by rw [← hs,← hsm];exact seR_n h hp)
 rw [hs] at HPE
 rw [hcs]
 obtain ⟨av,hav⟩:∃ v,(Value.agg (s.cells sm).toArray) = v:=⟨_,rfl⟩
 rw [hav] at HLS
 have HZ:Hid (Calls Tryz.prog 38 #[av] w1 fun e w' => e = .returned (zonV s sm) ∧ Below w1.heap.size w1 w'):=Lib.hid (by rw [← hav];exact zones_any s sm w1)
 obtain ⟨zv,hzv⟩:∃ v,zonV s sm = v:=⟨_,rfl⟩
 have HIX:Hid (∀ k:Nat,k < 4 → ∀ W,(Instr.index 85 zv (.int .i64 k)).run Tryz.prog W = .ok (.slice (sm.zm k).A (s.zl k).length (sm.zm k).c) W):=Lib.hid (fun k hk W => by rw [← hzv];exact zon_idx s sm hk W)
 rw [hzv] at HZ
 have hp2:(p:Int) < 2:=by omega
 have hp0:decide ((p:Int) < 0) = false:=decide_eq_false (by omega)
 clear h hz hst hcs hK hnk hs hsm hav hzv
 go_enter Tryz.func68,Tryz.ntmps68
 go_wp2_with (first
  | (refine wpList_load_by HLS.out rfl rfl rfl ?_;simp only [Act.put,List.setIfInBounds_toArray,List.set_cons_succ,List.set_cons_zero])
  | fail)
 refine HZ.out.mono ?_
 rintro e w2 ⟨rfl,hb2⟩
 have HI2:Hid (Blk w2 w.heap.size 33 cs ∧ Below w.heap.size w w2):=Lib.hid ⟨HBX.out.1.call hb2,below_call HBX.out.2 hb2 HBX.out.2.size⟩
 clear hb2 HZ HLS hw1
 go_wp2_with fail
 go_loopw [7,17] (fun q i W => ∃ k z:Nat,k ≤ 4 ∧ q = .int .i64 z ∧ i = .int .i64 k ∧ W = w2 ∧ Hid (zcnt s id k = z)) (fun _ i _ => 4 - (intOf i).toNat)
 case atStart => exact ⟨0,0,Nat.zero_le _,rfl,rfl,rfl,Lib.hid rfl⟩
 case round =>
  obtain ⟨k,z,hk,rfl,rfl,rfl,HC⟩:=hrel
  by_cases hk4:k < 4
  ·have hk4':(k:Int) < 4:=by omega
   have hix:=HIX.out k hk4
   have hzl:=(HSE.out.zl hk4).below HI2.out.2
   have hnn:(s.zl k).length ≤ 9223372036854775807:=by have:=hzl.ok;unfold Sl.ok at this;omega
   have HCT:Hid (Calls Tryz.prog 69 #[.slice (sm.zm k).A (s.zl k).length (sm.zm k).c,.int .i64 id] wr fun e w' => e = .returned (.int .i64 ((s.zl k).count id:Nat)) ∧ wr = w'):=Lib.hid (rcount_any _ _ _ _ _ _ hzl.row hnn)
   obtain ⟨q,hq⟩:∃ q,(s.zl k).count id = q:=⟨_,rfl⟩
   rw [hq] at HCT
   have HC1:Hid (zcnt s id (k + 1) = z + q):=Lib.hid (by rw [zcnt,HC.out,hq])
   have hzq:z + q ≤ 9223372036854775807:=by
    have h1:=HPE.out
    have h2:=HPB.out
    have h3:=HC1.out
    have h4:zcnt s id (k + 1) ≤ zcnt s id 4:=by
     rcases (show k = 0 ∨ k = 1 ∨ k = 2 ∨ k = 3 by omega) with rfl | rfl | rfl | rfl <;> simp only [zcnt] <;> omega
    omega
   have hw:wrap64 ((z:Int) + (q:Int)) = ((z + q:Nat):Int):=by unfold wrap64;omega
   clear hzl hnn hq hzq
   go_wp2_with fail
   refine HCT.out.mono ?_
   rintro e w_ ⟨rfl,rfl⟩
   go_wp2_with fail
   go_roundw
   case rel => exact ⟨k + 1,z + q,by omega,by go_num,by go_num,trivial,HC1⟩
   case measure => simp [intOf];omega
  ·obtain rfl:k = 4:=by omega
   clear hk4 hk
   go_wp2_with fail
   go_loopw [7,10] (fun y i W => ∃ j u:Nat,j ≤ nk ∧ y = .int .i64 u ∧ i = .int .i64 j ∧ Hid (z + (b.stk.take j).countP (stP p id) = u) ∧ Hid (Blk W w.heap.size 33 cs ∧ Below w.heap.size w W)) (fun _ i _ => nk - (intOf i).toNat)
   case atStart => exact ⟨0,z,Nat.zero_le _,rfl,rfl,Lib.hid (by simp),HI2⟩
   case round =>
    obtain ⟨j,u,hj,rfl,rfl,HU,HI⟩:=hrel
    clear HI2 HBX
    have c29:wr.cell? ⟨w.heap.size,29,none⟩ = some (.slice KA nk Kc):=(HI.out.1.at_ 29).trans E29.out
    by_cases hjn:j < nk
    ·have hjn':(j:Int) < nk:=by omega
     obtain ⟨x,hx⟩:=get_of (l:=b.stk) (k:=j) (by rw [HNK.out];exact hjn)
     have hS:=HR.out.S.below HI.out.2
     rw [HKS.out] at hS
     obtain ⟨t,hzp,-,-,-⟩:=hS.at_ hx
     have hrow:=hS.row
     rw [HNK.out] at hrow
     obtain ⟨ad,hA,-,d0,d1,d2,d3,d4⟩:=item_at hrow hzp hjn
     simp only at hA
     subst hA
     have HXG:=Lib.hid hx
     clear hx hzp hrow hS
     obtain ⟨w5,hw5⟩:∃ w5,wr.alloc (.cells #[.int .i64 x.pl,.int .i64 x.id,.int .i64 x.card,.int .i64 x.trg,.slice t.A x.tgs.length t.c] 55) = w5:=⟨_,rfl⟩
     have hal:Below wr.heap.size wr w5:=by rw [← hw5];exact (Below.refl _ _).alloc (Nat.le_refl _) _
     have hbk:Blk w5 wr.heap.size 55 #[.int .i64 x.pl,.int .i64 x.id,.int .i64 x.card,.int .i64 x.trg,.slice t.A x.tgs.length t.c]:=by rw [← hw5];exact Blk.mk_ wr _ _ _ rfl
     have HI5:Hid (Blk w5 w.heap.size 33 cs ∧ Below w.heap.size w w5):=Lib.hid ⟨HI.out.1.call hal,below_call HI.out.2 hal HI.out.2.size⟩
     have p0:w5.cell? ⟨wr.heap.size,0,none⟩ = some (.int .i64 x.pl):=(hbk.at_ 0).trans rfl
     have p1:w5.cell? ⟨wr.heap.size,1,none⟩ = some (.int .i64 x.id):=(hbk.at_ 1).trans rfl
     have p3:w5.cell? ⟨wr.heap.size,3,none⟩ = some (.int .i64 x.trg):=(hbk.at_ 3).trans rfl
     clear hal hbk
     by_cases hall:stP p id x = true
     ·have hu:u + 1 ≤ 9223372036854775807:=by
       have h1:=HPE.out
       have h2:=HPB.out
       have h3:=HU.out
       have h5:=stP_snoc p id HXG.out
       rw [if_pos hall] at h5
       have h6:=stP_le p id b.stk (j + 1)
       have h7:=HC.out
       omega
      have HU1:Hid (z + (b.stk.take (j + 1)).countP (stP p id) = u + 1):=Lib.hid (by
       rw [stP_snoc p id HXG.out,if_pos hall]
       have:=HU.out
       omega)
      unfold stP at hall
      simp only [Bool.and_eq_true,decide_eq_true_eq] at hall
      have t1:(x.trg == (-1:Int)) = true:=by simp [hall.1.1]
      have t2:(x.id == id) = true:=by simp [hall.1.2]
      have t3:(x.pl == (p:Int)) = true:=by simp [hall.2]
      have hwu:wrap64 ((u:Int) + 1) = ((u + 1:Nat):Int):=by unfold wrap64;omega
      clear hall
      go_wp2_with fail
      go_roundw
      case rel => exact ⟨j + 1,u + 1,hjn,by go_num,by go_num,HU1,HI5⟩
      case measure => simp [intOf];omega
     ·have HU1:Hid (z + (b.stk.take (j + 1)).countP (stP p id) = u):=Lib.hid (by
       rw [stP_snoc p id HXG.out,if_neg hall]
       exact HU.out)
      by_cases s1:x.trg = -1
      ·have t1:(x.trg == (-1:Int)) = true:=by simp [s1]
       by_cases s2:x.id = id
       ·have t2:(x.id == id) = true:=by simp [s2]
        have t3:(x.pl == (p:Int)) = false:=by
         have:¬ x.pl = (p:Int):=fun h => hall (by simp [stP,s1,s2,h])
         simp [this]
        clear hall s1 s2
        go_wp2_with fail
        go_roundw
        case rel => exact ⟨j + 1,u,hjn,rfl,by go_num,HU1,HI5⟩
        case measure => simp [intOf];omega
       ·have t2:(x.id == id) = false:=by simp [s2]
        clear hall s1 s2
        go_wp2_with fail
        go_roundw
        case rel => exact ⟨j + 1,u,hjn,rfl,by go_num,HU1,HI5⟩
        case measure => simp [intOf];omega
      ·have t1:(x.trg == (-1:Int)) = false:=by simp [s1]
       clear hall s1
       go_wp2_with fail
       go_roundw
       case rel => exact ⟨j + 1,u,hjn,rfl,by go_num,HU1,HI5⟩
       case measure => simp [intOf];omega
    ·obtain rfl:j = nk:=by omega
     have HV:Hid (plN b p id = u):=Lib.hid (by
      have h1:=HPE.out
      have h2:=HU.out
      rw [List.take_of_length_le (by rw [HNK.out];exact Nat.le_refl _)] at h2
      have h3:=HC.out
      omega)
     go_wp2_with fail
     go_ret
     exact ⟨by rw [HV.out];rfl,HI.out.2⟩
end Go.Proofs.YtagpphelgghbpaaGreat
