/-
  Texts: Rmy.
-/
import Derived.Test.YtagpphelgghbpaaGreatMk48
set_option linter.unusedSimpArgs false
set_option linter.unusedVariables false
namespace Go.Proofs.YtagpphelgghbpaaGreat
open Go.RowKit

structure MrS (w:World) (b:Bd) (k:Nat) (us:List Int) (gO gD B:Nat) (HA:Option Addr) (nh Hc:Nat) (m:BdM) (j:Nat) (l:List Ob) (usd:Nat) (A:Option Addr) (n c:Nat) (W:World):Prop where
 to:mixTo (hidB b k) us b.objs j = some (l,usd)
 P:Blk W gO 33 (Bd.cells { b with objs:=l } m).toArray
 O:BdO W B { b with objs:=l } m
 H:XOwns W w.heap.size 3 1 HA nh Hc (ics (rhS (hidS b k)))
 D:Blk W gD 78 #[.slice A n c,.int .i64 usd]
 R:DvR w A n c us usd
 res:Blk W (w.heap.size + 1) 33 zbd
 bel:Below w.heap.size w W
 ln:l.length = b.objs.length
 us9:usd ≤ 500 * j
 N:w.heap.size + 1 < gO ∧ w.heap.size + 1 < gD ∧ w.heap.size + 1 < B ∧ gD < B
theorem MrS.below {w:World} {b:Bd} {k:Nat} {us:List Int} {gO gD B:Nat} {HA:Option Addr} {nh Hc:Nat} {m:BdM} {j:Nat} {l:List Ob} {usd:Nat} {A:Option Addr} {n c:Nat} {W W':World} (h:MrS w b k us gO gD B HA nh Hc m j l usd A n c W) (hb:Below W.heap.size W W'):MrS w b k us gO gD B HA nh Hc m j l usd A n c W' :=
 ⟨h.to,h.P.call hb,h.O.below hb,h.H.below hb,h.D.call hb,h.R,h.res.call hb,below_call h.bel hb h.bel.size,h.ln,h.us9,h.N⟩
def lsI (own:Int) (H:Int → Bool) (l:List Ob) (cs:List Int) (i:Nat):List Ob:=putC own H (l.take i) cs ++ l.drop i
theorem lsI_len (own:Int) (H:Int → Bool) (l:List Ob) (cs:List Int) (i:Nat):(lsI own H l cs i).length = l.length:=by
 unfold lsI
 rw [List.length_append,putC_len,List.length_take,List.length_drop]
 omega
structure PuS (b:Bd) (m:BdM) (B gB:Nat) (own:Int) (H:Int → Bool) (l:List Ob) (cs:List Int) (gm nc c3 i q:Nat) (A9:Option Addr) (n9 c9:Nat) (W5 W:World):Prop where
 O:BdO W B { b with objs:=lsI own H l cs i } m
 G:W5.grownBy W (some gB)
 qe:q = (cds own H (l.take i)).length
 a:q < nc → A9 = some ⟨gm,q,none⟩
 n9:n9 = nc - q
 c9:c9 = c3 - q
set_option maxRecDepth 100000 in
set_option maxHeartbeats 12800000 in
theorem rmix_any (b:Bd) (m:BdM) (w:World) (k:Nat) (hk:k < 2) (hR:BdR w b m) (hBB:BdB b) (hv:b.Valid) (UA:Option Addr) (nu Uc:Nat) (us:List Int) (hU:Reads w 1 UA nu (ucs us)) (hUc:nu ≤ Uc ∧ Uc ≤ 9223372036854775807) (hnu:nu ≤ 300) (hus:∀ i,i < us.length → 0 ≤ ith us i ∧ ith us i ≤ 18446744073709551615) :
  Calls Tryz.prog 12 #[.agg (b.cells m).toArray,.int .i64 k,.slice UA nu Uc] w (MixEnd b k us w):=by
 obtain ⟨cs,hcs⟩:∃ cs,(b.cells m).toArray = cs:=⟨_,rfl⟩
 obtain ⟨w2,hw2⟩:∃ w2,(w.alloc (.cells cs 33)).alloc (.cells zbd 33) = w2:=⟨_,rfl⟩
 have HB2:Hid (Below w.heap.size w w2):=Lib.hid (by rw [← hw2];exact ((Below.refl _ _).alloc (Nat.le_refl _) _).alloc (by simp) _)
 have HBX2:Hid (Blk w2 w.heap.size 33 cs):=Lib.hid (by rw [← hw2];exact (Blk.mk_ w _ _ _ rfl).alloc _)
 have HRS2:Hid (Blk w2 (w.heap.size + 1) 33 zbd):=Lib.hid (by rw [← hw2];exact Blk.mk_ _ _ _ _ (by simp))
 have HLD:Hid (∀ W,Blk W w.heap.size 33 cs → (Instr.loadAt 33 (.pointer (some ⟨w.heap.size,0,none⟩))).run Tryz.prog W = .ok (.agg cs) W):=Lib.hid (fun W h => by rw [← hcs] at h ⊢;exact board_load h)
 have HHD:Hid (∀ W,Below w.heap.size w W → Calls Tryz.prog 18 #[.agg cs,.int .i64 k] W fun e w' => ∃ A c,e = .returned (.slice A (hidS b k).length c) ∧ XOwns w' W.heap.size 3 1 A (hidS b k).length c (ics (rhS (hidS b k))) ∧ Below W.heap.size W w'):=Lib.hid (fun W h => by rw [← hcs];exact rhid0 b m W k hk (hR.below h) (bd_sm hv))
 have HCP:Hid (∀ W,Below w.heap.size w W → Calls Tryz.prog 8 #[.agg cs] W (CopyEnd b W)):=Lib.hid (fun W h => by rw [← hcs];exact rcopy_any b m W (hR.below h) hBB)
 have HSM:=Lib.hid (bd_sm hv)
 have HUS:=Lib.hid hus
 have HUL:=Lib.hid (ulen hU)
 have HDR:Hid (DvR w UA nu Uc us 0):=Lib.hid ⟨by rw [List.drop_zero];exact hU,by rw [ulen hU,Nat.sub_zero],hUc⟩
 have HNU:=Lib.hid hnu
 have HKK:=Lib.hid hk
 have HHL:Hid ((hidS b k).length ≤ 100000):=Lib.hid (by
  have hm:=bd_sm hv
  have h1:=hm.s0.L
  have h2:=hm.s1.L
  have h3:=hm.s0.H
  have h4:=hm.s1.H
  unfold hidS seN
  rw [List.length_append,List.length_append]
  split <;> omega)
 rw [hcs]
 unfold zbd at hw2
 clear hR hBB hv hU hUc hus hk hcs
 have hnu9:decide ((65536:Int) < nu) = false:=decide_eq_false (by omega)
 go_enter Tryz.func12,Tryz.ntmps12
 go_wp2_with (first
  | (refine wpList_load_by (HLD.out w2 HBX2.out) rfl rfl rfl ?_;simp only [Act.put,List.setIfInBounds_toArray,List.set_cons_succ,List.set_cons_zero])
  | fail)
 refine (HHD.out w2 HB2.out).mono ?_
 rintro e w3 ⟨HA,Hc,rfl,hx3,hb3⟩
 obtain ⟨nh,hnh⟩:∃ z,(hidS b k).length = z:=⟨_,rfl⟩
 obtain ⟨gD,hgD⟩:∃ z,w3.heap.size = z:=⟨_,rfl⟩
 obtain ⟨w4,hst4,hk4,hg4⟩:=(Blk.mk_ w3 78 #[.slice none 0 0,.int .i64 0] gD hgD).storeAll (ty:=78) [.slice UA nu Uc,.int .i64 0] rfl (by rw [size_draws];rfl) (by simp [Value.oneCell'])
 have hb4:Below w3.heap.size w3 w4:=((Below.refl _ _).alloc (Nat.le_refl _) _).grown hg4 (by simp) (fun q hq => by injection hq with hq;omega)
 have HST4:=Lib.hid hst4
 have HKD4:Hid (Blk w4 gD 78 #[.slice UA nu Uc,.int .i64 0]):=Lib.hid hk4
 have hb24:=below_call hb3 hb4 hb3.size
 have HB4:=Lib.hid (below_call HB2.out hb24 HB2.out.size)
 have HBX4:=Lib.hid (HBX2.out.call hb24)
 have HRS4:=Lib.hid (HRS2.out.call hb24)
 have HH4:Hid (XOwns w4 w.heap.size 3 1 HA nh Hc (ics (rhS (hidS b k)))):=Lib.hid (by have h:=(hx3.below hb4).more HB2.out.size;rw [hnh] at h;exact h)
 have HGD:Hid (w.heap.size + 1 < gD ∧ gD < w4.heap.size):=Lib.hid ⟨by have:=HRS2.out.lt;have:=hb3.size;omega,HKD4.out.lt⟩
 have HNH:=Lib.hid hnh
 rw [hnh] at HHL
 rw [hnh]
 clear hx3 hb3 hb4 hb24 hw2 hst4 hk4 hg4
 go_wp2_with (first
  | (refine wpList_store_by HST4.out rfl rfl rfl rfl ?_;simp only [Act.put,List.setIfInBounds_toArray,List.set_cons_succ,List.set_cons_zero])
  | (refine wpList_load_by (HLD.out w4 HBX4.out) rfl rfl rfl ?_;simp only [Act.put,List.setIfInBounds_toArray,List.set_cons_succ,List.set_cons_zero])
  | fail)
 refine (HCP.out w4 HB4.out).mono ?_
 rintro e w5 ⟨m5,rfl,ho5,hb5⟩
 obtain ⟨gO,hgO⟩:∃ z,w5.heap.size = z:=⟨_,rfl⟩
 obtain ⟨zb,hzb⟩:∃ x,zbd = x:=⟨_,rfl⟩
 have hzl:zb.size = 38:=by rw [← hzb];rfl
 obtain ⟨BC,hBC⟩:∃ x,b.cells m5 = x:=⟨_,rfl⟩
 have hbl:BC.length = 38:=by rw [← hBC];rfl
 obtain ⟨w6,hst6,hk6,hg6⟩:=(Blk.mk_ w5 33 zb gO hgO).storeAll (ty:=33) BC (by rw [hbl,hzl]) (by rw [size_board,hbl]) (by rw [← hBC];exact one_bd b m5)
 have hb56:Below w5.heap.size w5 w6:=((Below.refl _ _).alloc (Nat.le_refl _) _).grown hg6 (by simp) (fun q hq => by injection hq with hq;omega)
 have HS0:Hid (MrS w b k us gO gD w4.heap.size HA nh Hc m5 0 b.objs 0 UA nu Uc w6):=Lib.hid ⟨rfl,by rw [← hBC] at hk6;exact hk6,ho5.below hb56,(HH4.out.below hb5).below hb56,(HKD4.out.call hb5).call hb56,HDR.out,(HRS4.out.call hb5).call hb56,below_call (below_call HB4.out hb5 HB4.out.size) hb56 (below_call HB4.out hb5 HB4.out.size).size,rfl,by omega,by have:=HGD.out;have:=hb5.size;refine ⟨?_,?_,?_,?_⟩ <;> omega⟩
 rw [← hzb] at hst6
 unfold zbd at hst6
 have HST6:=Lib.hid hst6
 rw [hBC]
 obtain ⟨B,hB⟩:∃ z,w4.heap.size = z:=⟨_,rfl⟩
 rw [hB] at HS0
 clear ho5 hb5 hb56 hst6 hk6 hg6 hzb hzl hbl hBC hB
 go_wp2_with (first
  | (refine wpList_store_by HST6.out rfl rfl rfl rfl ?_;simp only [Act.put,List.setIfInBounds_toArray,List.set_cons_succ,List.set_cons_zero])
  | fail)
 clear HST6 hgO hgD HST4
 go_loopw [11] (fun iv W => ∃ (j:Nat) (l:List Ob) (usd:Nat) (A:Option Addr) (n c:Nat),iv = .int .i64 j ∧ j ≤ 2 ∧ Hid (MrS w b k us gO gD B HA nh Hc m5 j l usd A n c W)) (fun iv _ => 2 - (intOf iv).toNat)
 case atStart => exact ⟨0,b.objs,0,UA,nu,Uc,rfl,by omega,HS0⟩
 case round =>
  obtain ⟨j,l,usd,A,n,c,rfl,hj,HS⟩:=hrel
  clear HS0
  by_cases hj2:j < 2
  ·have hj2':(j:Int) < 2:=by omega
   have HJ:=Lib.hid hj2
   obtain ⟨⟨OA,Oc⟩,hmO⟩:∃ z,m5.O = z:=⟨_,rfl⟩
   obtain ⟨no,hno⟩:∃ z,l.length = z:=⟨_,rfl⟩
   have HNO:=Lib.hid hno
   have HMO:=Lib.hid hmO
   have hn5:no ≤ 500:=by rw [← hno,HS.out.ln];exact HSM.out.O
   have HN5:=Lib.hid hn5
   have HE0:Hid (∀ (l9:List Ob),l9.length = no → (Bd.cells { b with objs:=l9 } m5).toArray[0]? = some (.slice OA no Oc)):=Lib.hid (fun l9 h9 => by show some (m5.O.v l9.length) = _;rw [hmO,h9];rfl)
   clear hno hmO hj hj2
   obtain ⟨w0,rfl⟩:∃ z,z = wr:=⟨_,rfl⟩
   go_wp2_with fail
   go_loopw [12,13] (fun a iv W => ∃ (i nc:Nat) (A2:Option Addr) (c2:Nat),i ≤ no ∧ nc ≤ i ∧ iv = .int .i64 i ∧ a = .slice A2 nc c2 ∧ Hid (XOwns W w0.heap.size 3 1 A2 nc c2 (ics (cds (j:Int) (hidB b k) (l.take i))) ∧ Below w0.heap.size w0 W)) (fun _ iv _ => no - (intOf iv).toNat)
   case atStart => exact ⟨0,0,none,0,Nat.zero_le _,Nat.zero_le _,rfl,rfl,Lib.hid ⟨by rw [List.take_zero];exact XOwns.nil_ _ _ _ _,Below.refl _ _⟩⟩
   case round =>
    obtain ⟨i,nc,A2,c2,hi,hnc,rfl,rfl,HC⟩:=hrel
    have HSW:=Lib.hid (HS.out.below HC.out.2)
    have e0:wr.cell? ⟨gO,0,none⟩ = some (.slice OA no Oc):=(HSW.out.P.at_ 0).trans (HE0.out l HNO.out)
    by_cases hin:i < no
    ·have hin':(i:Int) < no:=by omega
     have HIN:=Lib.hid hin
     have HNC:=Lib.hid hnc
     obtain ⟨o,ho⟩:=get_of (l:=l) (k:=i) (by rw [HNO.out];exact hin)
     have HX9:Hid (XOwns wr B 46 12 OA no Oc (ocs l)):=Lib.hid (by have h:=HSW.out.O.O;rw [HMO.out] at h;rw [← HNO.out];exact h)
     obtain ⟨gB,hA,-,-⟩:=own_addr HX9.out ho
     subst hA
     have y0:wr.cell? ⟨gB,i * 12,none⟩ = some (.int .i64 o.id):=own_obj HX9.out ho (j:=0) (by decide) rfl
     have y1:wr.cell? ⟨gB,i * 12 + 1,none⟩ = some (.int .i64 o.card):=own_obj HX9.out ho (j:=1) (by decide) rfl
     have y2:wr.cell? ⟨gB,i * 12 + 2,none⟩ = some (.int .i64 o.own):=own_obj HX9.out ho (j:=2) (by decide) rfl
     have y3:wr.cell? ⟨gB,i * 12 + 3,none⟩ = some (.int .i64 o.pow):=own_obj HX9.out ho (j:=3) (by decide) rfl
     have y4:wr.cell? ⟨gB,i * 12 + 4,none⟩ = some (.int .i64 o.tou):=own_obj HX9.out ho (j:=4) (by decide) rfl
     have y5:wr.cell? ⟨gB,i * 12 + 5,none⟩ = some (.int .i64 o.dam):=own_obj HX9.out ho (j:=5) (by decide) rfl
     have y6:wr.cell? ⟨gB,i * 12 + 6,none⟩ = some (.int .i64 o.cnt):=own_obj HX9.out ho (j:=6) (by decide) rfl
     have y7:wr.cell? ⟨gB,i * 12 + 7,none⟩ = some (.int .i64 o.pp):=own_obj HX9.out ho (j:=7) (by decide) rfl
     have y8:wr.cell? ⟨gB,i * 12 + 8,none⟩ = some (.int .i64 o.pt):=own_obj HX9.out ho (j:=8) (by decide) rfl
     have y9:wr.cell? ⟨gB,i * 12 + 9,none⟩ = some (.bool o.tap):=own_obj HX9.out ho (j:=9) (by decide) rfl
     have y10:wr.cell? ⟨gB,i * 12 + 10,none⟩ = some (.bool o.sick):=own_obj HX9.out ho (j:=10) (by decide) rfl
     have y11:wr.cell? ⟨gB,i * 12 + 11,none⟩ = some (.bool o.doom):=own_obj HX9.out ho (j:=11) (by decide) rfl
     have HCS:=Lib.hid (cds_snoc (j:Int) (hidB b k) ho)
     obtain ⟨w5,hw5⟩:∃ z,wr.alloc (.cells #[.int .i64 o.id,.int .i64 o.card,.int .i64 o.own,.int .i64 o.pow,.int .i64 o.tou,.int .i64 o.dam,.int .i64 o.cnt,.int .i64 o.pp,.int .i64 o.pt,.bool o.tap,.bool o.sick,.bool o.doom] 46) = z:=⟨_,rfl⟩
     have hb5:Below wr.heap.size wr w5:=by rw [← hw5];exact (Below.refl _ _).alloc (Nat.le_refl _) _
     obtain ⟨gT,hgT⟩:∃ z,wr.heap.size = z:=⟨_,rfl⟩
     have hk5:Blk w5 gT 46 #[.int .i64 o.id,.int .i64 o.card,.int .i64 o.own,.int .i64 o.pow,.int .i64 o.tou,.int .i64 o.dam,.int .i64 o.cnt,.int .i64 o.pp,.int .i64 o.pt,.bool o.tap,.bool o.sick,.bool o.doom]:=by rw [← hw5];exact Blk.mk_ _ _ _ _ hgT
     have t0:w5.cell? ⟨gT,0,none⟩ = some (.int .i64 o.id):=(hk5.at_ 0).trans rfl
     have t1:w5.cell? ⟨gT,1,none⟩ = some (.int .i64 o.card):=(hk5.at_ 1).trans rfl
     have t2:w5.cell? ⟨gT,2,none⟩ = some (.int .i64 o.own):=(hk5.at_ 2).trans rfl
     have HB5:=Lib.hid (below_call HC.out.2 hb5 HC.out.2.size)
     have HX5:=Lib.hid (HC.out.1.below hb5)
     have HHS:=Lib.hid (rhas_any HA nh Hc (rhS (hidS b k)) o.id w5 (HSW.out.H.below hb5).reads HHL.out)
     have HMI:Hid (mine (j:Int) (hidB b k) o = (decide (o.own = (j:Int)) && (decide (0 ≤ o.card) && decide (o.id ∈ rhS (hidS b k))))):=Lib.hid (by unfold mine hidB;rw [decide_eq_decide.2 (rhS_mem (hidS b k) o.id)])
     clear hk5 hb5 ho hin hi hnc
     by_cases h1:o.own = (j:Int)
     ·have hb1:(o.own == (j:Int)) = true:=by simpa using h1
      by_cases h2:0 ≤ o.card
      ·have hc2:(0 ≤ o.card) = True:=eq_true h2
       have hd2:decide (0 ≤ o.card) = true:=decide_eq_true h2
       by_cases h3:o.id ∈ rhS (hidS b k)
       ·have HMF:Hid (mine (j:Int) (hidB b k) o = true):=Lib.hid (by rw [HMI.out,decide_eq_true h1,decide_eq_true h2,decide_eq_true h3];rfl)
        rw [decide_eq_true h3] at HHS
        clear h1 h2 h3
        go_wp2_with fail
        refine HHS.out.mono ?_
        rintro e w_ ⟨rfl,rfl⟩
        obtain ⟨w6,hw6⟩:∃ z,w5.alloc (.cells #[.int .i64 o.card] 3) = z:=⟨_,rfl⟩
        have hb6:Below w5.heap.size w5 w6:=by rw [← hw6];exact (Below.refl _ _).alloc (Nat.le_refl _) _
        have HL6:Hid (Blk w6 w5.heap.size 3 #[.int .i64 o.card]):=Lib.hid (by rw [← hw6];exact Blk.mk_ _ _ _ _ rfl)
        have HX6:=Lib.hid (HX5.out.below hb6)
        have HB6:=Lib.hid (below_call HB5.out hb6 HB5.out.size)
        clear hb6
        go_wp2_with (at_builtin;refine append_i (w:=w6) rfl (.tmp 62) (.tmp 65) rfl w0.heap.size A2 nc c2 (cds (j:Int) (hidB b k) (l.take i)) rfl HX6.out (some ⟨w5.heap.size,0,none⟩) 1 1 [o.card] rfl (reads_block HL6.out 1 1 rfl) (by decide) (by have:=HNC.out;have:=HIN.out;omega) HB6.out.size ?_;intro g7 c7 w7 ho7 hg7 hb7)
        have HF7:Hid (XOwns w7 w0.heap.size 3 1 (some ⟨g7,0,none⟩) (nc + 1) c7 (ics (cds (j:Int) (hidB b k) (l.take (i + 1)))) ∧ Below w0.heap.size w0 w7):=Lib.hid ⟨by rw [HCS.out,HMF.out,if_pos rfl];exact ho7,HB6.out.trans hb7⟩
        clear ho7 hg7 hb7 hw6
        go_wp2_with fail
        go_roundw
        case rel => exact ⟨i + 1,nc + 1,_,c7,HIN.out,by have:=HNC.out;omega,by go_num,rfl,HF7⟩
        case measure => simp [intOf];have:=HIN.out;omega
       ·have HMF:Hid (mine (j:Int) (hidB b k) o = false):=Lib.hid (by rw [HMI.out,decide_eq_true h1,decide_eq_true h2,decide_eq_false h3];rfl)
        rw [decide_eq_false h3] at HHS
        clear h1 h2 h3
        go_wp2_with fail
        refine HHS.out.mono ?_
        rintro e w_ ⟨rfl,rfl⟩
        go_wp2_with fail
        go_roundw
        case rel => exact ⟨i + 1,nc,A2,c2,HIN.out,by have:=HNC.out;omega,by go_num,rfl,Lib.hid ⟨by rw [HCS.out,HMF.out,if_neg (by decide)];exact HX5.out,HB5.out⟩⟩
        case measure => simp [intOf];have:=HIN.out;omega
      ·have hc2:(0 ≤ o.card) = False:=eq_false h2
       have hd2:decide (0 ≤ o.card) = false:=decide_eq_false h2
       have HMF:Hid (mine (j:Int) (hidB b k) o = false):=Lib.hid (by rw [HMI.out,decide_eq_true h1,hd2];rfl)
       clear h1 h2
       go_wp2_with fail
       go_roundw
       case rel => exact ⟨i + 1,nc,A2,c2,HIN.out,by have:=HNC.out;omega,by go_num,rfl,Lib.hid ⟨by rw [HCS.out,HMF.out,if_neg (by decide)];exact HX5.out,HB5.out⟩⟩
       case measure => simp [intOf];have:=HIN.out;omega
     ·have hb1:(o.own == (j:Int)) = false:=by simpa using h1
      have HMF:Hid (mine (j:Int) (hidB b k) o = false):=Lib.hid (by rw [HMI.out,decide_eq_false h1];rfl)
      clear h1
      go_wp2_with fail
      go_roundw
      case rel => exact ⟨i + 1,nc,A2,c2,HIN.out,by have:=HNC.out;omega,by go_num,rfl,Lib.hid ⟨by rw [HCS.out,HMF.out,if_neg (by decide)];exact HX5.out,HB5.out⟩⟩
      case measure => simp [intOf];have:=HIN.out;omega
    ·have HIE:Hid (i = no):=Lib.hid (by omega)
     have hid:decide ((i:Int) < no) = false:=decide_eq_false (by omega)
     have hid':decide (i < no) = false:=decide_eq_false hin
     have HCL:Hid (XOwns wr w0.heap.size 3 1 A2 nc c2 (ics (cds (j:Int) (hidB b k) l))):=Lib.hid (by have h:=HC.out.1;rw [List.take_of_length_le (by rw [HNO.out,HIE.out];exact Nat.le_refl _)] at h;exact h)
     obtain ⟨cl,hcl⟩:∃ z,cds (j:Int) (hidB b k) l = z:=⟨_,rfl⟩
     have HCE:=Lib.hid hcl
     rw [hcl] at HCL
     have HNC:Hid (cl.length = nc ∧ nc ≤ 500):=Lib.hid ⟨by have h:=HCL.out.len;simpa [ics] using h,by omega⟩
     have d0:wr.cell? ⟨gD,0,none⟩ = some (.slice A n c):=(HSW.out.D.at_ 0).trans rfl
     have d1:wr.cell? ⟨gD,1,none⟩ = some (.int .i64 usd):=(HSW.out.D.at_ 1).trans rfl
     have HSH:=Lib.hid (rshuffle_any wr A n c usd usd us (HSW.out.R.below HSW.out.bel) (by have:=HSW.out.us9;have:=HJ.out;omega) HUS.out A2 nc c2 cl HCL.out.reads HCL.out.2 HNC.out.2)
     have HDN:=Lib.hid HSW.out.R.ln
     clear hcl hi hnc HS HC hin
     go_wp2_with fail
     refine HSH.out.mono ?_
     rintro e w7 ⟨hb7,⟨hlt,rfl⟩ | ⟨hlt,A',n',c',A3,c3,rfl,hd7,hx7⟩⟩
     ·have HLT:=Lib.hid hlt
      obtain ⟨w8,hw8⟩:∃ z,w7.alloc (.cells #[.slice A n c,.int .i64 usd] 78) = z:=⟨_,rfl⟩
      have hb8:Below w7.heap.size w7 w8:=by rw [← hw8];exact (Below.refl _ _).alloc (Nat.le_refl _) _
      have hb78:=below_call hb7 hb8 hb7.size
      have HS8:=Lib.hid (HSW.out.below hb78)
      obtain ⟨w9,hst9,hk9,hg9⟩:=HS8.out.res.storeAll (ty:=33) zbd.toList (by rw [zbd_len];rfl) (by rw [size_board,zbd_len]) one_zbd
      rw [Array.toArray_toList] at hst9 hk9
      have HST:=Lib.hid hst9
      have HK9:=Lib.hid hk9
      have HB9:Hid (Below w.heap.size w w9):=Lib.hid (HS8.out.bel.grown hg9 HS8.out.bel.size (fun q hq => by injection hq with hq;omega))
      clear hlt hb7 hb8 hb78 hst9 hk9 hg9
      go_wp2_with (first
       | (refine wpList_op_by rfl (run_of_build (parts:=#[]) (parts':=#[]) rfl rfl built_zbd) ?_;simp only [Act.put,List.setIfInBounds_toArray,List.set_cons_succ,List.set_cons_zero])
       | (refine wpList_store_by HST.out rfl rfl rfl rfl ?_;simp only [Act.put,List.setIfInBounds_toArray,List.set_cons_succ,List.set_cons_zero])
       | fail)
      refine bodyPost_ret (v:=.tuple #[.agg zbd,.int .i64 16]) (ret_cell2 (fn:=Tryz.f12) (p:=6) (q:=7) rfl rfl HK9.out Tryz.underlying33 rfl (by rw [size_board];rfl)) rfl ?_
      exact ⟨HB9.out,.inl ⟨mixTo_none _ _ _ HJ.out HSW.out.to (by unfold mixStep;rw [HCE.out,HNC.out.1,if_pos (by have:=HLT.out;have:=HDN.out;omega)]),rfl⟩⟩
     ·have HLT:=Lib.hid hlt
      obtain ⟨g7,hg7⟩:∃ z,w7.heap.size = z:=⟨_,rfl⟩
      obtain ⟨w8,hst8,hk8,hg8⟩:=(Blk.mk_ w7 78 #[.slice none 0 0,.int .i64 0] g7 hg7).storeAll (ty:=78) [.slice A' n' c',.int .i64 ((usd + (nc - 1):Nat):Int)] rfl (by rw [size_draws];rfl) (by simp [Value.oneCell'])
      have hb8:Below w7.heap.size w7 w8:=((Below.refl _ _).alloc (Nat.le_refl _) _).grown hg8 (by simp) (fun q hq => by injection hq with hq;omega)
      have HST8:=Lib.hid hst8
      have hb78:=below_call hb7 hb8 hb7.size
      have k0:w8.cell? ⟨g7,0,none⟩ = some (.slice A' n' c'):=(hk8.at_ 0).trans rfl
      have k1:w8.cell? ⟨g7,1,none⟩ = some (.int .i64 ((usd + (nc - 1):Nat):Int)):=(hk8.at_ 1).trans rfl
      have hS8:=HSW.out.below hb78
      obtain ⟨w9,hst9,hk9,hg9⟩:=hS8.D.storeAll (ty:=78) [.slice A' n' c',.int .i64 ((usd + (nc - 1):Nat):Int)] rfl (by rw [size_draws];rfl) (by simp [Value.oneCell'])
      have HST:=Lib.hid hst9
      have HDV:Hid (DvR w A' n' c' us (usd + (nc - 1))):=Lib.hid (hd7 w HSW.out.R)
      have HM9:Hid (XOwns w9 w.heap.size 3 1 A3 nc c3 (ics (shuf us usd cl)) ∧ Blk w9 gO 33 (Bd.cells { b with objs:=l } m5).toArray ∧ BdO w9 B { b with objs:=l } m5 ∧ XOwns w9 w.heap.size 3 1 HA nh Hc (ics (rhS (hidS b k))) ∧ Blk w9 gD 78 #[.slice A' n' c',.int .i64 ((usd + (nc - 1):Nat):Int)] ∧ Blk w9 (w.heap.size + 1) 33 zbd ∧ Below w.heap.size w w9):=Lib.hid ⟨((hx7.below hb8).more HSW.out.bel.size).blk_ hS8.D hg9 (by decide),hS8.P.grown hg9 (fun e => by have e:gO = gD:=Option.some.inj e;have h1:=hS8.P;have h2:=hS8.D;subst e;unfold Blk at h1 h2;rw [h1] at h2;injection h2 with h2;injection h2 with _ h2;exact absurd h2 (by decide)),hS8.O.blk hS8.D hg9 (by unfold offT;decide),hS8.H.blk_ hS8.D hg9 (by decide),hk9,hS8.res.grown hg9 (fun e => by have e:w.heap.size + 1 = gD:=Option.some.inj e;have:=hS8.N;omega),hS8.bel.grown hg9 hS8.bel.size (fun q hq => by injection hq with hq;have:=hS8.N;omega)⟩
      have HSN:=Lib.hid (And.intro HSW.out.to (And.intro HSW.out.ln (And.intro HSW.out.us9 HSW.out.N)))
      have HGB:Hid (∃ gB,(∀ A,OA = some A → A = ⟨gB,0,none⟩) ∧ gO ≠ gB ∧ gD ≠ gB ∧ w.heap.size + 1 ≠ gB ∧ w.heap.size ≤ gB ∧ (blkOf HA = none ∨ blkOf HA ≠ some gB) ∧ (blkOf A3 = none ∨ blkOf A3 ≠ some gB)):=Lib.hid (by
       have h:=HM9.out
       have hX:=h.2.2.1.O
       rw [HMO.out] at hX
       rcases hX.1.2 with ⟨h0,h1⟩ | ⟨gB,cc,cur,h1,hge,hc,_⟩
       ·injection h0 with h0 _ _
        refine ⟨w9.heap.size,(fun A h => by have h0:OA = none:=h0;rw [h0] at h;cases h),?_,?_,?_,h.2.2.2.2.2.2.size,?_,?_⟩
        ·have:=h.2.1.lt;omega
        ·have:=h.2.2.2.2.1.lt;omega
        ·have:=h.2.2.2.2.2.1.lt;omega
        ·cases he:blkOf HA with
         | none => exact .inl rfl
         | some i => exact .inr (fun e => by injection e with e;have:=(h.2.2.2.1.lt i he).2;omega)
        ·cases he:blkOf A3 with
         | none => exact .inl rfl
         | some i => exact .inr (fun e => by injection e with e;have:=(h.1.lt i he).2;omega)
       ·injection h1 with h1 _ _
        have hOA:OA = some ⟨gB,0,none⟩:=h1
        have hX':=hX
        simp only [hOA] at hX'
        refine ⟨gB,(fun A h => by rw [hOA] at h;injection h with h;exact h.symm),?_,?_,?_,?_,?_,?_⟩
        ·exact fun e => hX'.apart_blk h.2.1 (by decide) (by rw [e];rfl)
        ·exact fun e => hX'.apart_blk h.2.2.2.2.1 (by decide) (by rw [e];rfl)
        ·exact fun e => hX'.apart_blk h.2.2.2.2.2.1 (by decide) (by rw [e];rfl)
        ·have:=HSN.out.2.2.2;omega
        ·have h5:=h.2.2.2.1.apart hX' (by decide);exact h5
        ·have h5:=h.1.apart hX' (by decide);exact h5)
      obtain ⟨gB,HGB2⟩:=HGB.out
      have HGB3:=Lib.hid HGB2
      obtain ⟨cs9,hcs9⟩:∃ z,shuf us usd cl = z:=⟨_,rfl⟩
      have HC9:Hid (cs9.length = nc ∧ shuf us usd cl = cs9):=Lib.hid ⟨by rw [← hcs9,shuf_len];exact HNC.out.1,hcs9⟩
      rw [hcs9] at HM9
      have HGM:Hid (∃ gm,0 < nc → A3 = some ⟨gm,0,none⟩):=Lib.hid (by
       rcases Nat.eq_zero_or_pos nc with h0 | h0
       ·exact ⟨0,fun h => absurd h (by omega)⟩
       ·obtain ⟨gm,e,_⟩:=HM9.out.1.cell (j:=0) (u:=.int .i64 (ith cs9 0)) (by rw [ics,List.getElem?_map,ith_get (by rw [HC9.out.1];exact h0)];rfl)
        exact ⟨gm,fun _ => e⟩)
      obtain ⟨gm,HGM2⟩:=HGM.out
      have HGM3:=Lib.hid HGM2
      have HCP9:Hid (nc ≤ c3 ∧ c3 ≤ 9223372036854775807):=Lib.hid HM9.out.1.capOk
      have HP0:Hid (PuS b m5 B gB (j:Int) (hidB b k) l cs9 gm nc c3 0 0 A3 nc c3 w9 w9):=Lib.hid ⟨by unfold lsI;rw [List.take_zero,List.drop_zero];exact HM9.out.2.2.1,only_refl _ _,by rw [List.take_zero];rfl,HGM3.out,rfl,rfl⟩
      clear hlt hb7 hb8 hb78 hk8 hst8 hg8 hS8 hst9 hk9 hg9 hd7 hx7 HGB2 HGB hcs9 HGM2 HGM HSH d0 d1 e0 HSW
      go_wp2_with (first
       | (refine wpList_store_by HST8.out rfl rfl rfl rfl ?_;simp only [Act.put,List.setIfInBounds_toArray,List.set_cons_succ,List.set_cons_zero])
       | (refine wpList_store_by HST.out rfl rfl rfl rfl ?_;simp only [Act.put,List.setIfInBounds_toArray,List.set_cons_succ,List.set_cons_zero])
       | fail)
      clear k0 k1 hg7 hid hid'
      go_loopw [16,18] (fun a iv W => ∃ (i q:Nat) (A9:Option Addr) (n9 c9:Nat),i ≤ no ∧ iv = .int .i64 i ∧ a = .slice A9 n9 c9 ∧ Hid (PuS b m5 B gB (j:Int) (hidB b k) l cs9 gm nc c3 i q A9 n9 c9 w9 W)) (fun _ iv _ => no - (intOf iv).toNat)
      case atStart => exact ⟨0,0,A3,nc,c3,Nat.zero_le _,rfl,rfl,HP0⟩
      case round =>
       obtain ⟨i,q,A9,n9,c9,hi,rfl,rfl,HP⟩:=hrel
       clear HP0
       have HLI:Hid ((lsI (j:Int) (hidB b k) l cs9 i).length = no):=Lib.hid (by rw [lsI_len];exact HNO.out)
       have HPO:Hid (Blk wr gO 33 (Bd.cells { b with objs:=l } m5).toArray):=Lib.hid (HM9.out.2.1.grown HP.out.G (fun e => HGB3.out.2.1 (Option.some.inj e)))
       have e0:wr.cell? ⟨gO,0,none⟩ = some (.slice OA no Oc):=(HPO.out.at_ 0).trans (HE0.out l HNO.out)
       have HHR:Hid (Reads wr 1 HA nh (ics (rhS (hidS b k)))):=Lib.hid (HM9.out.2.2.2.1.grown HP.out.G HGB3.out.2.2.2.2.2.1).reads
       have HB9:Hid (Below w.heap.size w wr):=Lib.hid (HM9.out.2.2.2.2.2.2.grown HP.out.G HM9.out.2.2.2.2.2.2.size (fun q hq => by injection hq with hq;have:=HGB3.out.2.2.2.2.1;omega))
       by_cases hin:i < no
       ·have hin':(i:Int) < no:=by omega
        have HIN:=Lib.hid hin
        obtain ⟨o,ho0⟩:=get_of (l:=l) (k:=i) (by rw [HNO.out];exact hin)
        have HOL:=Lib.hid ho0
        have ho:(lsI (j:Int) (hidB b k) l cs9 i)[i]? = some o:=put_here (j:Int) (hidB b k) ho0
        have HX9:Hid (XOwns wr B 46 12 OA no Oc (ocs (lsI (j:Int) (hidB b k) l cs9 i))):=Lib.hid (by have h:=HP.out.O.O;rw [HMO.out] at h;rw [← HLI.out];exact h)
        obtain ⟨gx,hA,-,-⟩:=own_addr HX9.out ho
        have hgx:gx = gB:=by have h:=HGB3.out.1 _ hA;injection h
        subst hgx
        subst hA
        have y0:wr.cell? ⟨gx,i * 12,none⟩ = some (.int .i64 o.id):=own_obj HX9.out ho (j:=0) (by decide) rfl
        have y1:wr.cell? ⟨gx,i * 12 + 1,none⟩ = some (.int .i64 o.card):=own_obj HX9.out ho (j:=1) (by decide) rfl
        have y2:wr.cell? ⟨gx,i * 12 + 2,none⟩ = some (.int .i64 o.own):=own_obj HX9.out ho (j:=2) (by decide) rfl
        have y3:wr.cell? ⟨gx,i * 12 + 3,none⟩ = some (.int .i64 o.pow):=own_obj HX9.out ho (j:=3) (by decide) rfl
        have y4:wr.cell? ⟨gx,i * 12 + 4,none⟩ = some (.int .i64 o.tou):=own_obj HX9.out ho (j:=4) (by decide) rfl
        have y5:wr.cell? ⟨gx,i * 12 + 5,none⟩ = some (.int .i64 o.dam):=own_obj HX9.out ho (j:=5) (by decide) rfl
        have y6:wr.cell? ⟨gx,i * 12 + 6,none⟩ = some (.int .i64 o.cnt):=own_obj HX9.out ho (j:=6) (by decide) rfl
        have y7:wr.cell? ⟨gx,i * 12 + 7,none⟩ = some (.int .i64 o.pp):=own_obj HX9.out ho (j:=7) (by decide) rfl
        have y8:wr.cell? ⟨gx,i * 12 + 8,none⟩ = some (.int .i64 o.pt):=own_obj HX9.out ho (j:=8) (by decide) rfl
        have y9:wr.cell? ⟨gx,i * 12 + 9,none⟩ = some (.bool o.tap):=own_obj HX9.out ho (j:=9) (by decide) rfl
        have y10:wr.cell? ⟨gx,i * 12 + 10,none⟩ = some (.bool o.sick):=own_obj HX9.out ho (j:=10) (by decide) rfl
        have y11:wr.cell? ⟨gx,i * 12 + 11,none⟩ = some (.bool o.doom):=own_obj HX9.out ho (j:=11) (by decide) rfl
        obtain ⟨w5,hw5⟩:∃ z,wr.alloc (.cells #[.int .i64 o.id,.int .i64 o.card,.int .i64 o.own,.int .i64 o.pow,.int .i64 o.tou,.int .i64 o.dam,.int .i64 o.cnt,.int .i64 o.pp,.int .i64 o.pt,.bool o.tap,.bool o.sick,.bool o.doom] 46) = z:=⟨_,rfl⟩
        have hb5:Below wr.heap.size wr w5:=by rw [← hw5];exact (Below.refl _ _).alloc (Nat.le_refl _) _
        obtain ⟨gT,hgT⟩:∃ z,wr.heap.size = z:=⟨_,rfl⟩
        have hk5:Blk w5 gT 46 #[.int .i64 o.id,.int .i64 o.card,.int .i64 o.own,.int .i64 o.pow,.int .i64 o.tou,.int .i64 o.dam,.int .i64 o.cnt,.int .i64 o.pp,.int .i64 o.pt,.bool o.tap,.bool o.sick,.bool o.doom]:=by rw [← hw5];exact Blk.mk_ _ _ _ _ hgT
        have t0:w5.cell? ⟨gT,0,none⟩ = some (.int .i64 o.id):=(hk5.at_ 0).trans rfl
        have t1:w5.cell? ⟨gT,1,none⟩ = some (.int .i64 o.card):=(hk5.at_ 1).trans rfl
        have t2:w5.cell? ⟨gT,2,none⟩ = some (.int .i64 o.own):=(hk5.at_ 2).trans rfl
        have HP5:=Lib.hid (And.intro (HP.out.O.below hb5) (only_trans_ HP.out.G (grownBy_below_ hb5)))
        have HPO5:=Lib.hid (HPO.out.call hb5)
        have HX5:=Lib.hid (HX9.out.below hb5)
        have HHS:=Lib.hid (rhas_any HA nh Hc (rhS (hidS b k)) o.id w5 (HHR.out.below hb5) HHL.out)
        have HMI:Hid (mine (j:Int) (hidB b k) o = (decide (o.own = (j:Int)) && (decide (0 ≤ o.card) && decide (o.id ∈ rhS (hidS b k))))):=Lib.hid (by unfold mine hidB;rw [decide_eq_decide.2 (rhS_mem (hidS b k) o.id)])
        have HCS:=Lib.hid (cds_snoc (j:Int) (hidB b k) HOL.out)
        have HLO:=Lib.hid ho
        clear hk5 hb5 ho ho0 hin hi
        by_cases h1:o.own = (j:Int)
        ·have hb1:(o.own == (j:Int)) = true:=by simpa using h1
         by_cases h2:0 ≤ o.card
         ·have hc2:(0 ≤ o.card) = True:=eq_true h2
          have hd2:decide (0 ≤ o.card) = true:=decide_eq_true h2
          by_cases h3:o.id ∈ rhS (hidS b k)
          ·have HMF:Hid (mine (j:Int) (hidB b k) o = true):=Lib.hid (by rw [HMI.out,decide_eq_true h1,decide_eq_true h2,decide_eq_true h3];rfl)
           rw [decide_eq_true h3] at HHS
           clear h1 h2 h3
           go_wp2_with fail
           refine HHS.out.mono ?_
           rintro e w_ ⟨rfl,rfl⟩
           have hqn:q < nc:=by
            have h1:=cds_lt (j:Int) (hidB b k) HOL.out HMF.out
            have h2:=HP.out.qe
            have h3:=HNC.out.1
            rw [HCE.out] at h1
            omega
           have HQN:=Lib.hid hqn
           have hA9:=HP.out.a hqn
           subst hA9
           have hn0:0 < n9:=by have:=HP.out.n9;omega
           have hn1:(1:Int) ≤ n9:=by omega
           have HA3:=Lib.hid (HGM3.out (by omega))
           obtain ⟨x,hx⟩:∃ z,ith cs9 q = z:=⟨_,rfl⟩
           have hxg:cs9[q]? = some x:=by rw [← hx];exact ith_get (by rw [HC9.out.1];exact hqn)
           have HXG:=Lib.hid hxg
           have HMX:Hid (XOwns w5 w.heap.size 3 1 (some ⟨gm,0,none⟩) nc c3 (ics cs9)):=Lib.hid (by
            have h:=HM9.out.1
            rw [HA3.out] at h
            exact h.grown HP5.out.2 (by have h2:=HGB3.out.2.2.2.2.2.2;rw [HA3.out] at h2;exact h2))
           have HCK:Hid (CellK w5 gm q (.int .i64 x)):=Lib.hid (by
            obtain ⟨g',e,_,h2,h3,_⟩:=HMX.out.cell (j:=q) (u:=.int .i64 x) (by rw [ics,List.getElem?_map,HXG.out];rfl)
            injection e with e
            injection e with e
            subst e
            exact ⟨h2,h3⟩)
           have HGG:Hid (gm ≠ gx):=Lib.hid (fun e => by
            rcases HGB3.out.2.2.2.2.2.2 with h | h
            ·rw [HA3.out] at h;cases h
            ·rw [HA3.out] at h;exact h (by rw [e];rfl))
           clear hx hxg
           go_wp2_with fail
           refine rmx_r25 w5 gO gm q gx i no Oc n9 c9 B _ x _ o HPO5.out HCK.out HX5.out (HE0.out l HNO.out) HLO.out HIN.out HGG.out hn0 _ _ _ _ _ _ _ _ _ _ _ _ _ _ _ _ _ _ _ _ _ _ _ _ _ _ _ _ _ _ _ _ _ _ _ _ _ _ _ _ _ _ _ _ _ _ _ _ _ _ _ _ _ _ _ _ _ _ _ _ _ _ _ _ _ _ _ _ _ _ _ _ _ _ _ _ _ _ _ _ _ _ _ _ _ _ _ _ _ _ _ _ _ _ _ _ _ _ _ _ _ _ _ _ _ _ _ _ _ _ _ _ _ _ _ ?_ ?_
           ·exact fun d _ _ _ _ h => by cases d <;> exact h
           intro v106 v107 v108 v109 v110 v111 v112 v113 w7 h7
           have HP7:Hid (∀ A'':Option Addr,(q + 1 < nc → A'' = some ⟨gm,q + 1,none⟩) → PuS b m5 B gx (j:Int) (hidB b k) l cs9 gm nc c3 (i + 1) (q + 1) A'' (n9 - 1) (c9 - 1) w9 w7):=Lib.hid (fun A'' ha => by
            have hset:(lsI (j:Int) (hidB b k) l cs9 i).set i { o with card:=x } = lsI (j:Int) (hidB b k) l cs9 (i + 1):=by
             unfold lsI
             exact put_next (j:Int) (hidB b k) HOL.out HMF.out (by rw [← HP.out.qe];exact HXG.out)
            have hX:=h7.1
            rw [hset] at hX
            have hl:(lsI (j:Int) (hidB b k) l cs9 (i + 1)).length = no:=by rw [lsI_len];exact HNO.out
            refine ⟨?_,only_trans_ HP5.out.2 h7.2,by rw [HCS.out,HMF.out,if_pos rfl,List.length_append,← HP.out.qe];rfl,ha,by have:=HP.out.n9;omega,by have:=HP.out.c9;omega⟩
            refine HP5.out.1.objs (gB:=gx) (l:=lsI (j:Int) (hidB b k) l cs9 (i + 1)) (by show m5.O.A = _;rw [HMO.out]) h7.2 (by show 0 < (lsI (j:Int) (hidB b k) l cs9 i).length;rw [HLI.out];have:=HIN.out;omega) ?_
            rw [HMO.out,hl]
            exact hX)
           clear h7
           by_cases hc1:c9 = 1
           ·have hcT:(c9 = 1) = True:=eq_true hc1
            have HP9:=Lib.hid (HP7.out (some ⟨gm,q,none⟩) (fun h => absurd h (by have:=HP.out.c9;have:=HCP9.out;omega)))
            clear hc1 HP HP7
            go_wp2_with fail
            go_roundw
            case rel => exact ⟨i + 1,q + 1,_,n9 - 1,c9 - 1,HIN.out,by go_num,rfl,HP9⟩
            case measure => simp [intOf];have:=HIN.out;omega
           ·have hcF:(c9 = 1) = False:=eq_false hc1
            have HP9:=Lib.hid (HP7.out (some ⟨gm,q + 1,none⟩) (fun _ => rfl))
            clear hc1 HP HP7
            go_wp2_with fail
            go_roundw
            case rel => exact ⟨i + 1,q + 1,_,n9 - 1,c9 - 1,HIN.out,by go_num,rfl,HP9⟩
            case measure => simp [intOf];have:=HIN.out;omega
          ·have HMF:Hid (mine (j:Int) (hidB b k) o = false):=Lib.hid (by rw [HMI.out,decide_eq_true h1,decide_eq_true h2,decide_eq_false h3];rfl)
           rw [decide_eq_false h3] at HHS
           clear h1 h2 h3
           go_wp2_with fail
           refine HHS.out.mono ?_
           rintro e w_ ⟨rfl,rfl⟩
           have HP9:Hid (PuS b m5 B gx (j:Int) (hidB b k) l cs9 gm nc c3 (i + 1) q A9 n9 c9 w9 w5):=Lib.hid ⟨by have h:=HP5.out.1;unfold lsI at h ⊢;rw [put_same (j:Int) (hidB b k) HOL.out HMF.out] at h;exact h,HP5.out.2,by rw [HCS.out,HMF.out,if_neg (by decide)];exact HP.out.qe,HP.out.a,HP.out.n9,HP.out.c9⟩
           clear HP
           go_wp2_with fail
           go_roundw
           case rel => exact ⟨i + 1,q,A9,n9,c9,HIN.out,by go_num,rfl,HP9⟩
           case measure => simp [intOf];have:=HIN.out;omega
         ·have hc2:(0 ≤ o.card) = False:=eq_false h2
          have hd2:decide (0 ≤ o.card) = false:=decide_eq_false h2
          have HMF:Hid (mine (j:Int) (hidB b k) o = false):=Lib.hid (by rw [HMI.out,decide_eq_true h1,hd2];rfl)
          clear h1 h2
          have HP9:Hid (PuS b m5 B gx (j:Int) (hidB b k) l cs9 gm nc c3 (i + 1) q A9 n9 c9 w9 w5):=Lib.hid ⟨by have h:=HP5.out.1;unfold lsI at h ⊢;rw [put_same (j:Int) (hidB b k) HOL.out HMF.out] at h;exact h,HP5.out.2,by rw [HCS.out,HMF.out,if_neg (by decide)];exact HP.out.qe,HP.out.a,HP.out.n9,HP.out.c9⟩
          clear HP
          go_wp2_with fail
          go_roundw
          case rel => exact ⟨i + 1,q,A9,n9,c9,HIN.out,by go_num,rfl,HP9⟩
          case measure => simp [intOf];have:=HIN.out;omega
        ·have hb1:(o.own == (j:Int)) = false:=by simpa using h1
         have HMF:Hid (mine (j:Int) (hidB b k) o = false):=Lib.hid (by rw [HMI.out,decide_eq_false h1];rfl)
         clear h1
         have HP9:Hid (PuS b m5 B gx (j:Int) (hidB b k) l cs9 gm nc c3 (i + 1) q A9 n9 c9 w9 w5):=Lib.hid ⟨by have h:=HP5.out.1;unfold lsI at h ⊢;rw [put_same (j:Int) (hidB b k) HOL.out HMF.out] at h;exact h,HP5.out.2,by rw [HCS.out,HMF.out,if_neg (by decide)];exact HP.out.qe,HP.out.a,HP.out.n9,HP.out.c9⟩
         clear HP
         go_wp2_with fail
         go_roundw
         case rel => exact ⟨i + 1,q,A9,n9,c9,HIN.out,by go_num,rfl,HP9⟩
         case measure => simp [intOf];have:=HIN.out;omega
       ·have hid:decide ((i:Int) < no) = false:=decide_eq_false (by omega)
        have hid':decide (i < no) = false:=decide_eq_false hin
        have HIE:Hid (i = no):=Lib.hid (by omega)
        have HS9:Hid (MrS w b k us gO gD B HA nh Hc m5 (j + 1) (putC (j:Int) (hidB b k) l cs9) (usd + (nc - 1)) A' n' c' wr):=Lib.hid (by
         have hls:lsI (j:Int) (hidB b k) l cs9 i = putC (j:Int) (hidB b k) l cs9:=by
          unfold lsI
          rw [List.take_of_length_le (by rw [HNO.out,HIE.out];exact Nat.le_refl _),List.drop_of_length_le (by rw [HNO.out,HIE.out];exact Nat.le_refl _),List.append_nil]
         have hO:=HP.out.O
         rw [hls] at hO
         have hln:(putC (j:Int) (hidB b k) l cs9).length = l.length:=putC_len _ _ _ _
         refine ⟨?_,?_,hO,(HM9.out.2.2.2.1.grown HP.out.G HGB3.out.2.2.2.2.2.1),HM9.out.2.2.2.2.1.grown HP.out.G (fun e => HGB3.out.2.2.1 (Option.some.inj e)),HDV.out,HM9.out.2.2.2.2.2.1.grown HP.out.G (fun e => HGB3.out.2.2.2.1 (Option.some.inj e)),HB9.out,by rw [hln];exact HSN.out.2.1,?_,HSN.out.2.2.2⟩
         ·show (mixTo (hidB b k) us b.objs j).bind _ = _
          rw [HSN.out.1]
          show mixStep (j:Int) (hidB b k) us l usd = _
          unfold mixStep
          rw [HCE.out,HNC.out.1,if_neg (by have:=HLT.out;have:=HDN.out;omega),HC9.out.2]
         ·rw [bd_cells_len b m5 hln]
          exact HPO.out
         ·have h6:=HNC.out.2
          have h7:=HSN.out.2.2.1
          omega)
        clear hi hin HP
        go_wp2_with fail
        go_roundw
        case rel => exact ⟨j + 1,_,_,A',n',c',by go_num,by have:=HJ.out;omega,HS9⟩
        case measure => simp [intOf];have:=HJ.out;omega
  ·have hjd:decide ((j:Int) < 2) = false:=decide_eq_false (by omega)
   have HS2:Hid (MrS w b k us gO gD B HA nh Hc m5 2 l usd A n c wr):=Lib.hid ((show j = 2 by omega) ▸ HS.out)
   obtain ⟨BC,hBC⟩:∃ z,Bd.cells { b with objs:=l } m5 = z:=⟨_,rfl⟩
   have hbl:BC.length = 38:=by rw [← hBC];rfl
   have hone:∀ u ∈ BC,u.oneCell' = true:=by rw [← hBC];exact one_bd _ _
   have hP:=HS2.out.P
   rw [hBC] at hP
   have HLP:Hid ((Instr.loadAt 33 (.pointer (some ⟨gO,0,none⟩))).run Tryz.prog wr = .ok (.agg BC.toArray) wr):=Lib.hid (hP.mid BC _ (fun j v hj => by rw [Nat.zero_add];simpa using hj) Tryz.underlying33 rfl (by rw [size_board,hbl]))
   obtain ⟨w8,hst8,hk8,hg8⟩:=HS2.out.res.storeAll (ty:=33) BC (by rw [hbl];rfl) (by rw [size_board,hbl]) hone
   have HST8:=Lib.hid hst8
   have HK8:=Lib.hid hk8
   have HE8:Hid (MixEnd b k us w (.returned (.tuple #[.agg BC.toArray,.int .i64 0])) w8):=Lib.hid ⟨HS2.out.bel.grown hg8 HS2.out.bel.size (fun q hq => by injection hq with hq;omega),.inr ⟨l,m5,by rw [mixO_to,HS2.out.to];rfl,by rw [hBC],(HS2.out.O.blk HS2.out.res hg8 off_board).more (by have:=HS2.out.N;omega)⟩⟩
   have HBL:=Lib.hid hbl
   clear hBC hbl hone hP hst8 hk8 hg8 HS hj hj2
   go_wp2_with (first
    | (refine wpList_load_by HLP.out rfl rfl rfl ?_;simp only [Act.put,List.setIfInBounds_toArray,List.set_cons_succ,List.set_cons_zero])
    | (refine wpList_store_by HST8.out rfl rfl rfl rfl ?_;simp only [Act.put,List.setIfInBounds_toArray,List.set_cons_succ,List.set_cons_zero])
    | fail)
   exact bodyPost_ret (v:=.tuple #[.agg BC.toArray,.int .i64 0]) (ret_cell2 (fn:=Tryz.f12) (p:=6) (q:=7) rfl rfl HK8.out Tryz.underlying33 rfl (by rw [size_board];simp [HBL.out])) rfl HE8.out
end Go.Proofs.YtagpphelgghbpaaGreat
