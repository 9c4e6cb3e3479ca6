/-
  Texts: Lwa, Del.
-/
import Derived.Test.YtagpphelgghbpaaGreatMk33
import Derived.Test.YtagpphelgghbpaaGreatMk35
import Derived.Test.YtagpphelgghbpaaGreatMk36
import Derived.Test.YtagpphelgghbpaaGreatMk24
import Derived.Lib.SliceRun
set_option linter.unusedSimpArgs false
set_option linter.unusedVariables false
namespace Go.Proofs.YtagpphelgghbpaaGreat
open Go.RowKit

theorem lplayer_any (p:Int) (w:World):Calls Tryz.prog 10 #[.int .i64 p] w fun e w' => e = .returned (.bool (decide (p = 0 ∨ p = 1))) ∧ w = w':=by
 by_cases h0:p = 0
 ·subst h0
  go_enter Tryz.func10,Tryz.ntmps10
  go_wp2
  go_ret
  exact ⟨rfl,rfl⟩
 ·have e0:(p == 0) = false:=by simpa using h0
  by_cases h1:p = 1
  ·subst h1
   go_enter Tryz.func10,Tryz.ntmps10
   go_wp2
   go_ret
   exact ⟨rfl,rfl⟩
  ·have e1:(p == 1) = false:=by simpa using h1
   have HD:Hid (decide (p = 0 ∨ p = 1) = false):=Lib.hid (by simp [h0,h1])
   clear h0 h1
   go_enter Tryz.func10,Tryz.ntmps10
   go_wp2
   go_ret
   exact ⟨by rw [HD.out];rfl,rfl⟩
theorem player2 (w:World):Calls Tryz.prog 56 #[.int .i64 2] w fun e w' => e = .returned (.bool false) ∧ w = w':=by
 go_enter Tryz.func56,Tryz.ntmps56
 go_wp2
 go_ret
 exact ⟨rfl,rfl⟩
theorem hidden2 (cs:Array Value) (w:World):Calls Tryz.prog 23 #[.agg cs,.int .i64 2] w fun e w' => e = .returned (.tuple #[.slice none 0 0,.int .i64 2]) ∧ Below w.heap.size w w':=by
 have HB:Hid (Below w.heap.size w (w.alloc (.cells cs 33))):=Lib.hid ((Below.refl _ _).alloc (Nat.le_refl _) _)
 go_enter Tryz.func23,Tryz.ntmps23
 go_wp2_with (first
  | (go_at_call 56;refine (player2 _).mono ?_;rintro e w_ ⟨rfl,rfl⟩)
  | fail)
 go_ret2
 exact ⟨rfl,HB.out⟩
set_option maxRecDepth 100000 in
set_option maxHeartbeats 1600000 in
theorem mix2 (cs:Array Value) (hcs:cs.size = 38) (U:Value) (w:World):Calls Tryz.prog 9 #[.agg cs,.int .i64 2,U] w fun e w' => e = .returned (.tuple #[.agg zbd,.int .i64 2]) ∧ Below w.heap.size w w':=by
 have hsz:cs.toList.length = 38:=by simpa using hcs
 obtain ⟨w2,hw2⟩:∃ w2,(w.alloc (.cells cs 33)).alloc (.cells zbd 33) = w2:=⟨_,rfl⟩
 have HB2:Hid (Below w.heap.size w w2):=Lib.hid (by rw [← hw2];exact ((Below.refl _ _).alloc (Nat.le_refl _) _).alloc (by simp) _)
 have HBX2:Hid (Blk w2 w.heap.size 33 cs):=Lib.hid (by rw [← hw2];exact (Blk.mk_ w _ _ _ rfl).alloc _)
 have HRS2:Hid (Blk w2 (w.heap.size + 1) 33 zbd):=Lib.hid (by rw [← hw2];exact Blk.mk_ _ _ _ _ (by simp))
 have HL2:Hid ((Instr.loadAt 33 (.pointer (some ⟨w.heap.size,0,none⟩))).run Tryz.prog w2 = .ok (.agg cs) w2):=Lib.hid (by
  have:=HBX2.out.mid (o:=0) (ty:=33) cs.toList _ (fun j v hj => by rw [Nat.zero_add];simpa using hj) Tryz.underlying33 rfl (by rw [hsz];exact size_board)
  rwa [Array.toArray_toList] at this)
 unfold zbd at hw2
 clear hcs hsz
 go_enter Tryz.func9,Tryz.ntmps9
 go_wp2_with (first
  | (refine wpList_load_by HL2.out rfl rfl rfl ?_;simp only [Act.put,List.setIfInBounds_toArray,List.set_cons_succ,List.set_cons_zero])
  | (go_at_call 23;refine (hidden2 cs w2).mono ?_;rintro e w3 ⟨rfl,hb3⟩;obtain ⟨w6,hst,hk6,hg6⟩:=(HRS2.out.call hb3).storeAll (ty:=33) zbd.toList (by rw [zbd_len];rfl) (by rw [size_board,zbd_len]) one_zbd;rw [Array.toArray_toList] at hst hk6;have HST:=Lib.hid hst;have HK6:=Lib.hid hk6;have HB6:=Lib.hid ((below_call HB2.out hb3 HB2.out.size).grown hg6 (Nat.le_trans HB2.out.size hb3.size) (fun q hq => by injection hq with hq;omega));clear hb3 hst hk6 hg6)
  | (refine wpList_op_by rfl (run_of_build (parts:=#[]) (parts':=#[]) rfl rfl built_zbd) ?_;simp only [Act.put,List.setIfInBounds_toArray,List.set_cons_succ,List.set_cons_zero])
  | (refine wpList_store_by HST.out rfl rfl rfl rfl ?_;simp only [Act.put,List.setIfInBounds_toArray,List.set_cons_succ,List.set_cons_zero])
  | fail)
 refine bodyPost_ret (v:=.tuple #[.agg zbd,.int .i64 2]) (ret_cell2 (fn:=Tryz.f9) (p:=6) (q:=7) rfl rfl HK6.out Tryz.underlying33 rfl (by rw [size_board];rfl)) rfl ?_
 exact ⟨rfl,HB6.out⟩
def zB:Bd:=⟨[],⟨0,0,0,0,0,[],[],[],[],false,false,false,0,0⟩,⟨0,0,0,0,0,[],[],[],[],false,false,false,0,0⟩,[],[],[],[],0,0,0,0,0⟩
def zM:BdM:=⟨⟨none,0⟩,⟨⟨none,0⟩,⟨none,0⟩,⟨none,0⟩,⟨none,0⟩⟩,⟨⟨none,0⟩,⟨none,0⟩,⟨none,0⟩,⟨none,0⟩⟩,⟨none,0⟩,⟨none,0⟩,[],[],⟨none,0⟩,⟨none,0⟩⟩
theorem zbd_eq:zbd = (zB.cells zM).toArray:=rfl
set_option maxRecDepth 100000 in
set_option maxHeartbeats 1600000 in
theorem cards_any (b:Bd) (m:BdM) (w:World) (hO:Reads w 12 m.O.A b.objs.length (ocs b.objs)) (hn:b.objs.length ≤ 500):Calls Tryz.prog 51 #[.agg (b.cells m).toArray] w fun e w' => ∃ A c,e = .returned (.slice A b.objs.length c) ∧ XOwns w' w.heap.size 3 1 A b.objs.length c (ics (b.objs.map Ob.card)) ∧ Below w.heap.size w w':=by
 obtain ⟨cs,hcs⟩:∃ cs,(b.cells m).toArray = cs:=⟨_,rfl⟩
 obtain ⟨⟨OA,Oc⟩,hmO⟩:∃ x,m.O = x:=⟨_,rfl⟩
 obtain ⟨l,hl⟩:∃ x,b.objs = x:=⟨_,rfl⟩
 obtain ⟨no,hno⟩:∃ x,l.length = x:=⟨_,rfl⟩
 have hc0:cs[0]? = some (.slice OA no Oc):=by rw [← hcs];show some (m.O.v b.objs.length) = _;rw [hmO,hl,hno];rfl
 rw [hmO,hl,hno] at hO
 rw [hl,hno] at hn
 obtain ⟨w1,hw1⟩:∃ x,w.alloc (.cells cs 33) = x:=⟨_,rfl⟩
 have hb1:Below w.heap.size w w1:=by rw [← hw1];exact (Below.refl _ _).alloc (Nat.le_refl _) _
 have HP1:Hid (Blk w1 w.heap.size 33 cs):=Lib.hid (by rw [← hw1];exact Blk.mk_ _ _ _ _ rfl)
 have HO:=Lib.hid hO
 have HNO:=Lib.hid hno
 have HC0:=Lib.hid hc0
 have HF0:Hid (XOwns w1 w1.heap.size 3 1 none 0 0 (ics ((l.take 0).map Ob.card)) ∧ Below w.heap.size w w1 ∧ w1.heap.size ≤ w1.heap.size ∧ Blk w1 w.heap.size 33 cs):=Lib.hid ⟨XOwns.nil_ _ _ _ _,hb1,Nat.le_refl _,HP1.out⟩
 have HZ1:=Lib.hid hb1.size
 have HLT:=Lib.hid HP1.out.lt
 rw [hcs,hl,hno]
 clear hcs hmO hl hno hc0 hO hb1 HP1
 go_enter Tryz.func51,Tryz.ntmps51
 go_wp2_with fail
 clear hw1
 go_loopw [3,4] (fun o iv W => ∃ (k:Nat) (A:Option Addr) (c:Nat),o = .slice A k c ∧ iv = .int .i64 k ∧ k ≤ no ∧ Hid (XOwns W w1.heap.size 3 1 A k c (ics ((l.take k).map Ob.card)) ∧ Below w.heap.size w W ∧ w1.heap.size ≤ W.heap.size ∧ Blk W w.heap.size 33 cs)) (fun _ iv _ => no - (intOf iv).toNat)
 case atStart => exact ⟨0,none,0,rfl,rfl,Nat.zero_le _,HF0⟩
 case round =>
  obtain ⟨k,A,c,rfl,rfl,hk,HI⟩:=hrel
  clear HF0
  have c0:wr.cell? ⟨w.heap.size,0,none⟩ = some (.slice OA no Oc):=(HI.out.2.2.2.at_ 0).trans HC0.out
  by_cases hkn:k < no
  ·have hkn':(k:Int) < no:=by omega
   obtain ⟨o,ho⟩:=get_of (l:=l) (k:=k) (by rw [HNO.out];exact hkn)
   obtain ⟨ad,rfl,hadl,-,c1,-⟩:=obj_at (HO.out.below HI.out.2.1) ho hkn
   have HSP:=Lib.hid (show (l.take (k + 1)).map Ob.card = (l.take k).map Ob.card ++ [o.card] by rw [take_snoc ho,List.map_append];rfl)
   obtain ⟨w7,hw7⟩:∃ x,wr.alloc (.cells #[.int .i64 o.card] 3) = x:=⟨_,rfl⟩
   have hb7:Below wr.heap.size wr w7:=by rw [← hw7];exact (Below.refl _ _).alloc (Nat.le_refl _) _
   have HK7:Hid (Blk w7 wr.heap.size 3 #[.int .i64 o.card]):=Lib.hid (by rw [← hw7];exact Blk.mk_ _ _ _ _ rfl)
   have HX7:=Lib.hid (HI.out.1.below hb7)
   have HB7:=Lib.hid (below_call HI.out.2.1 hb7 HI.out.2.1.size)
   have HZ7:=Lib.hid (Nat.le_trans HI.out.2.2.1 hb7.size)
   have HP7:=Lib.hid (HI.out.2.2.2.call hb7)
   clear ho hadl hb7 HI
   go_wp2_with (at_builtin;refine append_xr (w:=w7) rfl (.tmp 12) (.tmp 19) 25 rfl w1.heap.size 3 _ 1 8 tinfo_ints Tryz.underlying25 rfl (by decide) A k c (ics ((l.take k).map Ob.card)) rfl HX7.out (some ⟨wr.heap.size,0,none⟩) 1 1 (ics [o.card]) rfl (fun h => by cases h) (reads_block HK7.out 1 1 rfl) (ics_one _) (by omega) (by omega) HZ7.out ?_;intro A8 c8 w8 ho8 hb8)
   have HF8:Hid (XOwns w8 w1.heap.size 3 1 A8 (k + 1) c8 (ics ((l.take (k + 1)).map Ob.card)) ∧ Below w.heap.size w w8 ∧ w1.heap.size ≤ w8.heap.size ∧ Blk w8 w.heap.size 33 cs):=Lib.hid ⟨by rw [HSP.out,show ics ((l.take k).map Ob.card ++ [o.card]) = ics ((l.take k).map Ob.card) ++ ics [o.card] by simp [ics]];exact ho8,HB7.out.trans (hb8.mono HZ1.out),Nat.le_trans HZ7.out hb8.size,HP7.out.below hb8 HLT.out⟩
   clear ho8 hb8 hw7
   go_wp2_with fail
   go_roundw
   case rel => exact ⟨k + 1,A8,c8,rfl,by go_num,by omega,HF8⟩
   case measure => simp [intOf];omega
  ·have HKE:Hid (k = no):=Lib.hid (by omega)
   clear hk
   go_wp2_with fail
   go_ret
   refine ⟨A,c,by rw [← HKE.out];rfl,?_,HI.out.2.1⟩
   have h:=HI.out.1
   rw [List.take_of_length_le (by rw [HNO.out,HKE.out];exact Nat.le_refl _),HKE.out] at h
   exact h.more HZ1.out
set_option maxRecDepth 100000 in
set_option maxHeartbeats 1600000 in
theorem mixes_any (cs:Array Value) (p:Int) (U:Value) (no wn:Int) (WA:Option Addr) (nw Wc:Nat) (want:List Int) (w:World) (b':Bd) (hn5:b'.objs.length ≤ 500) (hW:Reads w 1 WA nw (ics want))
  (hM:∀ W,Below w.heap.size w W → Calls Tryz.prog 9 #[.agg cs,.int .i64 p,U] W fun e w' => ∃ m',e = .returned (.tuple #[.agg (b'.cells m').toArray,.int .i64 no]) ∧ Reads w' 12 m'.O.A b'.objs.length (ocs b'.objs) ∧ Below W.heap.size W w') (hsz:cs.size = 38) :
  Calls Tryz.prog 20 #[.agg cs,.int .i64 p,U,.int .i64 wn,.slice WA nw Wc] w fun e w' => e = .returned (.bool (decide (b'.objs.map Ob.card = want) && (no == wn))) ∧ Below w.heap.size w w':=by
 have hsz':cs.toList.length = 38:=by simpa using hsz
 obtain ⟨w1,hw1⟩:∃ x,w.alloc (.cells cs 33) = x:=⟨_,rfl⟩
 have hb1:Below w.heap.size w w1:=by rw [← hw1];exact (Below.refl _ _).alloc (Nat.le_refl _) _
 have HK1:Hid (Blk w1 w.heap.size 33 cs):=Lib.hid (by rw [← hw1];exact Blk.mk_ _ _ _ _ rfl)
 have HL1:Hid ((Instr.loadAt 33 (.pointer (some ⟨w.heap.size,0,none⟩))).run Tryz.prog w1 = .ok (.agg cs) w1):=Lib.hid (by
  have:=HK1.out.mid (o:=0) (ty:=33) cs.toList _ (fun j v hj => by rw [Nat.zero_add];simpa using hj) Tryz.underlying33 rfl (by rw [hsz'];exact size_board)
  rwa [Array.toArray_toList] at this)
 have HM:=Lib.hid (hM w1 hb1)
 have HB1:=Lib.hid hb1
 have HW:=Lib.hid hW
 have HN5:=Lib.hid hn5
 obtain ⟨ee,hee⟩:∃ x,(no == wn) = x:=⟨_,rfl⟩
 rw [hee]
 clear hM hW hsz hsz' hb1 hn5
 go_enter Tryz.func20,Tryz.ntmps20
 go_wp2_with (first
  | (refine wpList_load_by HL1.out rfl rfl rfl ?_;simp only [Act.put,List.setIfInBounds_toArray,List.set_cons_succ,List.set_cons_zero])
  | fail)
 refine HM.out.mono ?_
 rintro e w2 ⟨m',rfl,hO2,hb2⟩
 obtain ⟨g,hg⟩:∃ x,w2.heap.size = x:=⟨_,rfl⟩
 obtain ⟨zb,hzb⟩:∃ x,zbd = x:=⟨_,rfl⟩
 have hzl:zb.size = 38:=by rw [← hzb];rfl
 have hlen:(b'.cells m').length = 38:=rfl
 have hone:=one_bd b' m'
 obtain ⟨BC,hBC⟩:∃ x,b'.cells m' = x:=⟨_,rfl⟩
 rw [hBC] at hlen hone ⊢
 obtain ⟨w3,hst3,hk3,hg3⟩:=(Blk.mk_ w2 33 zb g hg).storeAll (ty:=33) BC (by rw [hlen,hzl]) (by rw [size_board,hlen]) hone
 have hb23:Below w2.heap.size w2 w3:=((Below.refl _ _).alloc (Nat.le_refl _) _).grown hg3 (by simp) (fun q hq => by injection hq with hq;omega)
 have HB3:=Lib.hid (below_call (below_call HB1.out hb2 HB1.out.size) hb23 (below_call HB1.out hb2 HB1.out.size).size)
 rw [← hzb] at hst3
 unfold zbd at hst3
 have HST:=Lib.hid hst3
 have HL3:Hid ((Instr.loadAt 33 (.pointer (some ⟨g,0,none⟩))).run Tryz.prog w3 = .ok (.agg BC.toArray) w3):=Lib.hid (hk3.mid BC _ (fun j v hj => by rw [Nat.zero_add];simpa using hj) Tryz.underlying33 rfl (by rw [size_board,hlen]))
 have HCA:Hid (Calls Tryz.prog 51 #[.agg BC.toArray] w3 fun e w' => ∃ A c,e = .returned (.slice A b'.objs.length c) ∧ XOwns w' w3.heap.size 3 1 A b'.objs.length c (ics (b'.objs.map Ob.card)) ∧ Below w3.heap.size w3 w'):=Lib.hid (by rw [← hBC];exact cards_any b' m' w3 (hO2.below hb23) HN5.out)
 clear hO2 hb2 hzb hzl hlen hone hBC hst3 hk3 hg3 hb23 hw1
 go_wp2_with (first
  | (refine wpList_store_by HST.out rfl rfl rfl rfl ?_;simp only [Act.put,List.setIfInBounds_toArray,List.set_cons_succ,List.set_cons_zero])
  | (refine wpList_load_by HL3.out rfl rfl rfl ?_;simp only [Act.put,List.setIfInBounds_toArray,List.set_cons_succ,List.set_cons_zero])
  | fail)
 refine HCA.out.mono ?_
 rintro e w4 ⟨CA,Cc,rfl,hx4,hb4⟩
 have HB4:=Lib.hid (below_call HB3.out hb4 HB3.out.size)
 have HRI:=Lib.hid (rints_any CA WA b'.objs.length Cc nw Wc (b'.objs.map Ob.card) want w4 hx4.reads (HW.out.below HB4.out) (Nat.le_trans HN5.out (by decide)))
 clear hx4 hb4 hg
 go_wp2_with fail
 refine HRI.out.mono ?_
 rintro e w5 ⟨rfl,hb5⟩
 have HB5:=Lib.hid (below_call HB4.out hb5 HB4.out.size)
 clear hb5
 cases hd:decide (b'.objs.map Ob.card = want) with
 | true =>
  have HD:=Lib.hid hd
  clear hd
  go_wp2_with fail
  go_ret
  exact ⟨by (rw [HD.out];cases ee <;> rfl),HB5.out⟩
 | false =>
  have HD:=Lib.hid hd
  clear hd
  go_wp2_with fail
  go_ret
  exact ⟨by (rw [HD.out];rfl),HB5.out⟩
set_option maxRecDepth 100000 in
set_option maxHeartbeats 1600000 in
theorem lalike_any (a b:Bd) (ma mb:BdM) (w:World) (k:Nat) (hk:k < 2) (hRa:BdR w a ma) (hRb:BdR w b mb) (hza:a.plc.length < 9223372036854775807) (hzb:b.plc.length < 9223372036854775807) (hva:a.Valid) (hvb:b.Valid) (want:Bool) :
  Calls Tryz.prog 14 #[.agg (a.cells ma).toArray,.agg (b.cells mb).toArray,.int .i64 k,.bool want,.int .i64 0] w fun e w' => e = .returned (.bool (decide (flatB a k = flatB b k) == want)) ∧ Below w.heap.size w w':=by
 obtain ⟨ca,hca⟩:∃ x,(a.cells ma).toArray = x:=⟨_,rfl⟩
 obtain ⟨cb,hcb⟩:∃ x,(b.cells mb).toArray = x:=⟨_,rfl⟩
 have hsa:ca.toList.length = 38:=by rw [← hca];rfl
 have hsb:cb.toList.length = 38:=by rw [← hcb];rfl
 obtain ⟨w2,hw2⟩:∃ x,(w.alloc (.cells ca 33)).alloc (.cells cb 33) = x:=⟨_,rfl⟩
 have HB2:Hid (Below w.heap.size w w2):=Lib.hid (by rw [← hw2];exact ((Below.refl _ _).alloc (Nat.le_refl _) _).alloc (by simp) _)
 have HKA2:Hid (Blk w2 w.heap.size 33 ca):=Lib.hid (by rw [← hw2];exact (Blk.mk_ w _ _ _ rfl).alloc _)
 have HKB2:Hid (Blk w2 (w.heap.size + 1) 33 cb):=Lib.hid (by rw [← hw2];exact Blk.mk_ _ _ _ _ (by simp))
 have HLD:Hid (∀ (W:World) (g:Nat) (c:Array Value),c.toList.length = 38 → Blk W g 33 c → (Instr.loadAt 33 (.pointer (some ⟨g,0,none⟩))).run Tryz.prog W = .ok (.agg c) W):=Lib.hid (fun W g c hc hW => by
  have:=hW.mid (o:=0) (ty:=33) c.toList _ (fun j v hj => by rw [Nat.zero_add];simpa using hj) Tryz.underlying33 rfl (by rw [hc];exact size_board)
  rwa [Array.toArray_toList] at this)
 have HLA:=Lib.hid (HLD.out w2 _ ca hsa HKA2.out)
 have HLB:=Lib.hid (HLD.out w2 _ cb hsb HKB2.out)
 have HS:Hid (Calls Tryz.prog 39 #[.agg ca,.agg cb,.int .i64 k] w2 (AlkEnd a b k w2)):=Lib.hid (by rw [← hca,← hcb];exact salike_any a b ma mb w2 k hk (hRa.below HB2.out) (hRb.below HB2.out) hza hzb hva hvb)
 obtain ⟨d,hd⟩:∃ x,decide (flatB a k = flatB b k) = x:=⟨_,rfl⟩
 unfold AlkEnd at HS
 rw [hd] at HS ⊢
 rw [hca,hcb]
 clear hRa hRb hza hzb hva hvb hca hcb hsa hsb hd
 go_enter Tryz.func14,Tryz.ntmps14
 go_wp2_with (first
  | (refine wpList_load_by HLA.out rfl rfl rfl ?_;simp only [Act.put,List.setIfInBounds_toArray,List.set_cons_succ,List.set_cons_zero])
  | (refine wpList_load_by HLB.out rfl rfl rfl ?_;simp only [Act.put,List.setIfInBounds_toArray,List.set_cons_succ,List.set_cons_zero])
  | fail)
 refine HS.out.mono ?_
 rintro e w3 ⟨rfl,hb3⟩
 have HB3:=Lib.hid (below_call HB2.out hb3 HB2.out.size)
 clear hb3 hw2
 cases hdw:(d == want) with
 | true =>
  have HD:=Lib.hid hdw
  go_wp2_with fail
  go_ret
  exact ⟨by (rw [HD.out];rfl),HB3.out⟩
 | false =>
  have HD:=Lib.hid hdw
  go_wp2_with fail
  go_ret
  exact ⟨by (rw [HD.out];rfl),HB3.out⟩

theorem XOwns.takeN {W:World} {B e n c k:Nat} {A:Option Addr} {xs:List Value} (h:XOwns W B e 1 A n c xs) (hk:k ≤ n) (hn:0 < n):XOwns W B e 1 A k c (xs.take k):=by
 have hl:=h.len
 rcases h.1.2 with ⟨h0,h1⟩ | ⟨g,c',cur,h1,h2,h3,h4,h5,h6,h7⟩
 ·injection h0
  omega
 ·injection h1 with h1 h1a h1b
  refine ⟨⟨by rw [List.length_take];omega,.inr ⟨g,c',cur,by rw [h1,h1b],h2,h3,by omega,h5,h6,?_⟩⟩,h.2⟩
  have h8:=congrArg (List.take (k * 1)) h7
  rw [List.take_take,Nat.min_eq_left (by omega)] at h8
  rw [h8,Nat.mul_one]
theorem xs_setCells {B e n c g:Nat}:∀ (vs:List Value) (o:Nat) (W:World) (xs:List Value),XOwns W B e 1 (some ⟨g,0,none⟩) n c xs → ∃ ys,XOwns (W.setCells g o vs) B e 1 (some ⟨g,0,none⟩) n c ys ∧ ys.take o = xs.take o
 | [],o,W,xs,h => ⟨xs,h,rfl⟩
 | v :: r,o,W,xs,h => by
  obtain ⟨ys,h1,h2⟩:=xs_setCells r (o + 1) _ _ (h.setX o v)
  refine ⟨ys,h1,?_⟩
  have h3:=congrArg (List.take o) h2
  rw [List.take_take,List.take_take,Nat.min_eq_left (by omega),List.take_set_of_le (by omega)] at h3
  exact h3
theorem eqid_any (x id:Int) (gI:Nat) (w:World) (h:CellK w gI 0 (.int .i64 id)):Calls Tryz.prog 86 #[.int .i64 x,.pointer (some ⟨gI,0,none⟩)] w fun e w' => e = .returned (.bool (x == id)) ∧ w = w':=by
 have c0:=h.c
 clear h
 go_enter Tryz.func86,Tryz.ntmps86
 go_wp2
 go_ret
 exact ⟨rfl,rfl⟩
def IdI (l:List Int) (id:Int) (w:World) (e:Ending) (w':World):Prop:=w = w' ∧ ((id ∉ l ∧ e = .returned (.int .i64 (-1))) ∨ ∃ i:Nat,i < l.length ∧ ith l i = id ∧ id ∉ l.take i ∧ e = .returned (.int .i64 i))
set_option maxHeartbeats 1600000 in
theorem idxE_any (A:Option Addr) (n c:Nat) (l:List Int) (id:Int) (gI:Nat) (w:World) (hx:Reads w 1 A n (ics l)) (hI:CellK w gI 0 (.int .i64 id)) (hn:n ≤ 1000) :
  Calls Tryz.prog 112 #[.slice A n c,.func (.func 86) #[] #[.pointer (some ⟨gI,0,none⟩)]] w (IdI l id w):=by
 have HX:=Lib.hid hx
 have HL:=Lib.hid (ilen hx)
 have HI:=Lib.hid hI
 clear hx hI
 go_enter Tryz.func112,Tryz.ntmps112
 go_wp2
 go_loopw [8] (fun i W => ∃ k:Nat,k ≤ n ∧ i = .int .i64 k ∧ Hid (id ∉ l.take k) ∧ W = w) (fun i _ => n - (intOf i).toNat)
 case atStart => exact ⟨0,Nat.zero_le _,rfl,Lib.hid (by simp),rfl⟩
 case round =>
  obtain ⟨k,hk,rfl,HE,rfl⟩:=hrel
  by_cases hlt:k < n
  ·obtain ⟨ad,rfl,-,c0⟩:=int_at HX.out hlt
   have hlt':(k:Int) < n:=by omega
   have hget:=ith_get (xs:=l) (k:=k) (by rw [HL.out];exact hlt)
   obtain ⟨x,hx⟩:∃ x,ith l k = x:=⟨_,rfl⟩
   rw [hx] at hget c0
   have HG:=Lib.hid (And.intro hget hx)
   have HQ:=Lib.hid (eqid_any x id gI wr HI.out)
   clear hx hget
   by_cases hid:x = id
   ·have hb:(x == id) = true:=by simpa using hid
    rw [hb] at HQ
    have HID:=Lib.hid hid
    clear hid hb
    go_wp2_with fail
    refine HQ.out.mono ?_
    rintro e w1 ⟨rfl,rfl⟩
    go_wp2_with fail
    go_ret
    exact ⟨rfl,.inr ⟨k,by rw [HL.out];exact hlt,HG.out.2.trans HID.out,HE.out,rfl⟩⟩
   ·have hb:(x == id) = false:=by simpa using hid
    rw [hb] at HQ
    have HEE:Hid (id ∉ l.take (k + 1)):=Lib.hid (by rw [take_snoc HG.out.1];simp;exact ⟨HE.out,fun e => hid e.symm⟩)
    clear hid hb
    go_wp2_with fail
    refine HQ.out.mono ?_
    rintro e w1 ⟨rfl,rfl⟩
    go_wp2_with fail
    go_roundw
    case rel => exact ⟨k + 1,hlt,by go_num,HEE,by first | rfl | trivial⟩
    case measure => simp [intOf];omega
  ·obtain rfl:k = n:=by omega
   go_wp2_with fail
   go_ret
   refine ⟨rfl,.inl ⟨?_,rfl⟩⟩
   have:=HE.out
   rwa [List.take_of_length_le (by rw [HL.out];exact Nat.le_refl _)] at this
def nq (id:Int) (l:List Int):List Int:=l.filter fun x => !(x == id)
theorem nq_none {id:Int} {l:List Int} (h:id ∉ l):nq id l = l:=by
 unfold nq
 rw [List.filter_eq_self]
 intro x hx
 simp
 exact fun e => h (e ▸ hx)
def DelI (B:Nat) (A:Option Addr) (n c:Nat) (l:List Int) (id:Int) (w:World) (e:Ending) (w':World):Prop:=e = .returned (.slice A (nq id l).length c) ∧ XOwns w' B 3 1 A (nq id l).length c (ics (nq id l)) ∧ w.grownBy w' (blkOf A)
structure DlS (w:World) (B g n c:Nat) (l:List Int) (id:Int) (i j:Nat) (L:List Int) (W:World):Prop where
 X:XOwns W B 3 1 (some ⟨g,0,none⟩) n c (ics L)
 t:L.take i = nq id (l.take j)
 d:L.drop j = l.drop j
 ij:i < j ∧ j ≤ n
 ll:L.length = n
 G:w.grownBy W (some g)
set_option maxRecDepth 100000 in
set_option maxHeartbeats 3200000 in
theorem delI_any (w:World) (B n c:Nat) (A:Option Addr) (l:List Int) (id:Int) (gI:Nat) (hx:XOwns w B 3 1 A n c (ics l)) (hI:CellK w gI 0 (.int .i64 id)) (hlow:gI < B) (hn:n ≤ 1000) :
  Calls Tryz.prog 87 #[.slice A n c,.func (.func 86) #[] #[.pointer (some ⟨gI,0,none⟩)]] w (DelI B A n c l id w):=by
 have HX:=Lib.hid hx
 have HL:=Lib.hid (ilen hx.reads)
 have HI:=Lib.hid hI
 have HCI:=Lib.hid (idxE_any A n c l id gI w hx.reads hI hn)
 have HLOW:=Lib.hid hlow
 have hcap:n ≤ c ∧ c ≤ 9223372036854775807:=hx.capOk
 clear hx hI hlow
 go_enter Tryz.func87,Tryz.ntmps87
 go_wp2_with fail
 refine HCI.out.mono ?_
 rintro e w1 ⟨rfl,⟨hno,rfl⟩ | ⟨i0,hi0,hid0,hno,rfl⟩⟩
 ·have HNO:=Lib.hid hno
  clear hno
  go_wp2_with fail
  go_ret
  exact ⟨by (rw [nq_none HNO.out,HL.out];rfl),by rw [nq_none HNO.out,HL.out];exact HX.out,only_refl _ _⟩
 ·rw [HL.out] at hi0
  obtain ⟨g,hA,-,-,-,-⟩:=HX.out.cell (j:=i0) (u:=.int .i64 id) (by rw [ics,List.getElem?_map,ith_get (by rw [HL.out];exact hi0),hid0,Option.map_some])
  subst hA
  have hne:((i0:Int) == -1) = false:=by simp
  have HS0:Hid (DlS w B g n c l id i0 (i0 + 1) l w):=Lib.hid ⟨HX.out,by
   rw [take_snoc (x:=id) (by rw [ith_get (by rw [HL.out];exact hi0),hid0])]
   unfold nq
   rw [List.filter_append]
   have h1:=nq_none hno
   unfold nq at h1
   rw [h1]
   simp,rfl,⟨by omega,by omega⟩,HL.out,only_refl _ _⟩
  clear hno hid0
  have hi0':(i0:Int) < n:=by omega
  go_wp2_with fail
  clear hne
  go_loopw [5,6] (fun iv jv W => ∃ (i j:Nat) (L:List Int),iv = .int .i64 i ∧ jv = .int .i64 j ∧ j ≤ n ∧ i < j ∧ Hid (DlS w B g n c l id i j L W)) (fun _ jv _ => n - (intOf jv).toNat)
  case atStart => exact ⟨i0,i0 + 1,l,rfl,by first | rfl | go_num,by omega,by omega,HS0⟩
  case round =>
   obtain ⟨i,j,L,rfl,rfl,hj,hij,HS⟩:=hrel
   clear HS0
   by_cases hjn:j < n
   ·have hjn':(j:Int) < n:=by omega
    have hget:=ith_get (xs:=l) (k:=j) (by rw [HL.out];exact hjn)
    obtain ⟨x,hx⟩:∃ x,ith l j = x:=⟨_,rfl⟩
    rw [hx] at hget
    have hLj:L[j]? = some x:=by
     have h1:(L.drop j)[0]? = (l.drop j)[0]?:=by rw [HS.out.d]
     rw [List.getElem?_drop,List.getElem?_drop,Nat.add_zero,hget] at h1
     exact h1
    obtain ⟨g',e9,hBg,-,c0,-⟩:=HS.out.X.cell (j:=j) (u:=.int .i64 x) (by rw [ics,List.getElem?_map,hLj];rfl)
    injection e9 with e9
    injection e9 with e9
    subst e9
    obtain ⟨y,hy⟩:∃ y,L[i]? = some y:=⟨_,List.getElem?_eq_getElem (by rw [HS.out.ll];omega)⟩
    obtain ⟨g',e9,-,l9,q9,f9⟩:=HS.out.X.cell (j:=i) (u:=.int .i64 y) (by rw [ics,List.getElem?_map,hy];rfl)
    injection e9 with e9
    injection e9 with e9
    subst e9
    have HQ:=Lib.hid (eqid_any x id gI wr (HI.out.onlyF (OnlyF.of_grown (F:=fun i => i = g) HS.out.G (fun i hi => by injection hi with hi;exact hi.symm)) (by have:=HLOW.out;omega)))
    have HG:=Lib.hid hget
    clear hx hget hLj hy hBg
    by_cases hid:x = id
    ·have hb:(x == id) = true:=by simpa using hid
     rw [hb] at HQ
     have HS9:Hid (DlS w B g n c l id i (j + 1) L wr):=Lib.hid (by
      have a:=HS.out
      refine ⟨a.X,?_,?_,⟨by omega,by omega⟩,a.ll,a.G⟩
      ·rw [take_snoc HG.out]
       unfold nq
       rw [List.filter_append,a.t]
       simp [nq,hid]
      ·have:=congrArg (List.drop 1) a.d
       rw [List.drop_drop,List.drop_drop] at this
       exact this)
     clear hid hb
     go_wp2_with fail
     refine HQ.out.mono ?_
     rintro e w1 ⟨rfl,rfl⟩
     go_wp2_with fail
     go_roundw
     case rel => exact ⟨i,j + 1,L,rfl,by go_num,by omega,by omega,HS9⟩
     case measure => simp [intOf];omega
    ·have hb:(x == id) = false:=by simpa using hid
     rw [hb] at HQ
     have HS9:Hid (DlS w B g n c l id (i + 1) (j + 1) (L.set i x) (wr.setCell ⟨g,i,none⟩ (.int .i64 x))):=Lib.hid (by
      have a:=HS.out
      refine ⟨by rw [show ics (L.set i x) = (ics L).set i (.int .i64 x) by simp [ics,List.map_set]];exact a.X.setX i _,?_,?_,⟨by omega,by omega⟩,by rw [List.length_set];exact a.ll,only_setCell a.G (.inl rfl) _⟩
      ·rw [take_snoc HG.out]
       unfold nq
       rw [List.filter_append]
       have ht:=a.t
       unfold nq at ht
       rw [← ht,take_snoc (l:=L.set i x) (k:=i) (x:=x) (List.getElem?_set_self (by rw [a.ll];omega)),List.take_set_of_le (Nat.le_refl _)]
       simp [hid]
      ·rw [List.drop_set_of_lt (by omega)]
       have:=congrArg (List.drop 1) a.d
       rw [List.drop_drop,List.drop_drop] at this
       exact this)
     clear hid hb
     go_wp2_with fail
     refine HQ.out.mono ?_
     rintro e w1 ⟨rfl,rfl⟩
     go_wp2_with fail
     go_roundw
     case rel => exact ⟨i + 1,j + 1,L.set i x,by go_num,by go_num,by omega,by omega,HS9⟩
     case measure => simp [intOf];omega
   ·have hjn':decide ((j:Int) < n) = false:=by simp;omega
    have HJN:Hid (j = n):=Lib.hid (by omega)
    obtain ⟨r,hr⟩:∃ r,n - i = r + 1:=⟨n - i - 1,by omega⟩
    have hin:i < n:=by omega
    have HCL:Hid ((Builtin.clear_ #[25] 0 #[.slice (some ⟨g,i,none⟩) (n - i) (c - i)]).run Tryz.prog wr = .ok (.tuple #[]) (wr.setCells g i (List.replicate (n - i) (.int .i64 0)))):=Lib.hid (by
     have hcell:∀ q,q < n → ∃ v,(ics L)[q]? = some v:=fun q hq => ⟨_,List.getElem?_eq_getElem (by simp [ics,HS.out.ll];exact hq)⟩
     refine Go.Lib.run_clear_slice wr _ _ _ (.int .i64 0) Tryz.underlying25 zero3 rfl rfl g i (n - i) (c - i) (by omega) (fun q hq => ?_) (fun q hq => ?_)
     ·obtain ⟨v,hv⟩:=hcell (i + q) (by omega)
      obtain ⟨g',e9,-,-,h1,-⟩:=HS.out.X.cell hv
      injection e9 with e9
      injection e9 with e9
      subst e9
      rw [h1]
      rfl
     ·obtain ⟨v,hv⟩:=hcell (i + q) (by omega)
      obtain ⟨g',e9,-,-,-,h1⟩:=HS.out.X.cell hv
      injection e9 with e9
      injection e9 with e9
      subst e9
      exact h1)
    have HF:Hid (DelI B (some ⟨g,0,none⟩) n c l id w (.returned (.slice (some ⟨g,0,none⟩) i c)) (wr.setCells g i (List.replicate (n - i) (.int .i64 0)))):=Lib.hid (by
     have a:=HS.out
     obtain ⟨ys,hy1,hy2⟩:=xs_setCells (List.replicate (n - i) (.int .i64 0)) i wr _ a.X
     have ht:=a.t
     have hl9:l.take n = l:=List.take_of_length_le (by rw [HL.out];exact Nat.le_refl _)
     rw [HJN.out,hl9] at ht
     have hli:(nq id l).length = i:=by rw [← ht,List.length_take,a.ll];omega
     refine ⟨by rw [hli],?_,setCells_only _ _ _ a.G⟩
     have h1:=hy1.takeN (k:=i) (by omega) (by omega)
     rw [hy2,show (ics L).take i = ics (L.take i) by simp [ics,List.map_take],ht] at h1
     rw [hli]
     exact h1)
    have hci:c - i ≤ 9223372036854775807:=by omega
    have hic:(i:Int) ≤ c:=by omega
    have hin':(i:Int) ≤ n:=by omega
    clear hr hij
    go_wp2_with fail
    rw [HCL.out]
    go_wp2_with fail
    go_ret
    exact HF.out
end Go.Proofs.YtagpphelgghbpaaGreat
