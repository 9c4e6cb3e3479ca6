/-
  Texts: Rvf.
-/
import Derived.Test.YtagpphelgghbpaaGreatMk50
set_option linter.unusedSimpArgs false
set_option linter.unusedVariables false
namespace Go.Proofs.YtagpphelgghbpaaGreat
open Go.RowKit

def AttOk (b:Bd) (k:Nat):Prop:=∀ (j:Nat) (i:Int),j < k → b.att[j]? = some i → b.att.count i = 1 ∧ (b.fld b.actv).count i = 1
def BlkOk (b:Bd) (k:Nat):Prop:=(∀ (j:Nat) (x:Bk),j < k → b.blk[j]? = some x → b.att.count x.a = 1 ∧ (b.fld (1 - b.actv)).count x.b = 1) ∧ ∀ (i j:Nat) (x y:Bk),i < j → j < k → b.blk[i]? = some x → b.blk[j]? = some y → ¬ x.a = y.a ∧ ¬ x.b = y.b
theorem fig_all {b:Bd} (h1:AttOk b b.att.length) (h2:BlkOk b b.blk.length):figR b:=by
 refine ⟨fun i hi => ?_,fun x hx => ?_,?_,?_⟩
 ·obtain ⟨j,hj,e⟩:=List.getElem_of_mem hi
  exact h1 j i hj (by rw [List.getElem?_eq_getElem hj,e])
 ·obtain ⟨j,hj,e⟩:=List.getElem_of_mem hx
  exact h2.1 j x hj (by rw [List.getElem?_eq_getElem hj,e])
 ·rw [List.nodup_iff_pairwise_ne,List.pairwise_map,List.pairwise_iff_getElem]
  intro i j hi hj hij
  exact (h2.2 i j _ _ hij hj (List.getElem?_eq_getElem hi) (List.getElem?_eq_getElem hj)).1
 ·rw [List.nodup_iff_pairwise_ne,List.pairwise_map,List.pairwise_iff_getElem]
  intro i j hi hj hij
  exact (h2.2 i j _ _ hij hj (List.getElem?_eq_getElem hi) (List.getElem?_eq_getElem hj)).2
theorem fig_ne {b:Bd} (h:figR b) {i j:Nat} {x y:Bk} (hij:i < j) (hx:b.blk[i]? = some x) (hy:b.blk[j]? = some y):¬ x.a = y.a ∧ ¬ x.b = y.b:=by
 have h1:=h.2.2.1
 have h2:=h.2.2.2
 rw [List.nodup_iff_pairwise_ne,List.pairwise_map,List.pairwise_iff_getElem] at h1 h2
 obtain ⟨hi,ei⟩:=List.getElem?_eq_some_iff.1 hx
 obtain ⟨hj,ej⟩:=List.getElem?_eq_some_iff.1 hy
 have h3:=h1 i j hi hj hij
 have h4:=h2 i j hi hj hij
 rw [ei,ej] at h3 h4
 exact ⟨h3,h4⟩
theorem fld_cell (b:Bd) (m:BdM) {p:Nat} (hp:p < 2):(b.cells m).toArray[1 + p * 14 + 7]? = some (.slice (smN m p).F.A (seN b p).fld.length (smN m p).F.c):=by
 rcases (show p = 0 ∨ p = 1 by omega) with rfl | rfl <;> rfl
theorem fld_n (b:Bd) {p:Nat} (hp:p < 2):b.fld (p:Int) = (seN b p).fld:=by
 rcases (show p = 0 ∨ p = 1 by omega) with rfl | rfl <;> rfl
set_option maxRecDepth 100000 in
set_option maxHeartbeats 12800000 in
theorem rfights_any (b:Bd) (m:BdM) (w:World) (h:BdR w b m) (ha:b.actv = 0 ∨ b.actv = 1) :
  Calls Tryz.prog 34 #[.agg (b.cells m).toArray] w (BoolEnd (figR b) w):=by
 obtain ⟨pa,hpa,hav⟩:∃ p:Nat,p < 2 ∧ b.actv = (p:Int):=⟨b.actv.toNat,by omega,by omega⟩
 obtain ⟨qa,hqa,hqv⟩:∃ q:Nat,q < 2 ∧ 1 - b.actv = (q:Int):=⟨(1 - b.actv).toNat,by omega,by omega⟩
 have HFA:Hid (b.fld b.actv = (seN b pa).fld):=Lib.hid (by rw [hav];exact fld_n b hpa)
 have HFQ:Hid (b.fld (1 - b.actv) = (seN b qa).fld):=Lib.hid (by rw [hqv];exact fld_n b hqa)
 obtain ⟨cs,hcs⟩:∃ cs,(b.cells m).toArray = cs:=⟨_,rfl⟩
 obtain ⟨⟨TA,Tc⟩,hT⟩:∃ s,m.AT = s:=⟨_,rfl⟩
 obtain ⟨⟨KA,Kc⟩,hK⟩:∃ s,m.BK = s:=⟨_,rfl⟩
 obtain ⟨⟨FA,Fc⟩,hF⟩:∃ s,(smN m pa).F = s:=⟨_,rfl⟩
 obtain ⟨⟨XA,Xc⟩,hX⟩:∃ s,(smN m qa).F = s:=⟨_,rfl⟩
 obtain ⟨nt,hnt⟩:∃ n,b.att.length = n:=⟨_,rfl⟩
 obtain ⟨nk,hnk⟩:∃ n,b.blk.length = n:=⟨_,rfl⟩
 obtain ⟨lf,hlf⟩:∃ l,(seN b pa).fld = l:=⟨_,rfl⟩
 obtain ⟨lx,hlx⟩:∃ l,(seN b qa).fld = l:=⟨_,rfl⟩
 rw [hlf] at HFA
 rw [hlx] at HFQ
 obtain ⟨nf,hnf⟩:∃ n,lf.length = n:=⟨_,rfl⟩
 obtain ⟨nx,hnx⟩:∃ n,lx.length = n:=⟨_,rfl⟩
 have HNT:=Lib.hid hnt
 have HNK:=Lib.hid hnk
 have hat:=h.AT
 rw [hT] at hat
 have hto:=hat.ok
 have HAT:=Lib.hid hat.row
 rw [hnt] at HAT hto
 have hbk:=h.BK
 rw [hK,hnk] at hbk
 have HBK:=Lib.hid hbk
 have hko:=h.Bo
 rw [hK,hnk] at hko
 have hlfr:=(seR_n h hpa).F
 rw [hF,hlf] at hlfr
 have hlxr:=(seR_n h hqa).F
 rw [hX,hlx] at hlxr
 have hfo:=hlfr.ok
 have hxo:=hlxr.ok
 have HLF:=Lib.hid hlfr.row
 have HLX:=Lib.hid hlxr.row
 rw [hnf] at HLF hfo
 rw [hnx] at HLX hxo
 unfold Sl.ok at hto hko hfo hxo
 simp only at hto hko hfo hxo
 have hnt9:nt ≤ 9223372036854775807:=by omega
 have hnk9:nk ≤ 9223372036854775807:=by omega
 have hnf9:nf ≤ 9223372036854775807:=by omega
 have hnx9:nx ≤ 9223372036854775807:=by omega
 have E31:Hid (cs[31]? = some (.slice TA nt Tc)):=Lib.hid (by
  rw [← hcs]
  show some (m.AT.v b.att.length) = _
  rw [hT,hnt]
  rfl)
 have E32:Hid (cs[32]? = some (.slice KA nk Kc)):=Lib.hid (by
  rw [← hcs]
  show some (m.BK.v b.blk.length) = _
  rw [hK,hnk]
  rfl)
 have E34:Hid (cs[34]? = some (.int .i64 pa)):=Lib.hid (by
  rw [← hcs,← hav]
  rfl)
 have EF:Hid (cs[1 + pa * 14 + 7]? = some (.slice FA nf Fc)):=Lib.hid (by rw [← hcs,fld_cell b m hpa,hF,hlf,hnf])
 have EX:Hid (cs[1 + qa * 14 + 7]? = some (.slice XA nx Xc)):=Lib.hid (by rw [← hcs,fld_cell b m hqa,hX,hlx,hnx])
 have hpa':(pa:Int) < 2:=by omega
 have hqa':(qa:Int) < 2:=by omega
 have hpn:(0:Int) ≤ (pa:Int):=by omega
 have hqn:(0:Int) ≤ (qa:Int):=by omega
 have hpq:(1:Int) - (pa:Int) = (qa:Int):=by omega
 have hwq:IntKind.i64.wrap ((1:Int) - (pa:Int)) = (qa:Int):=by rw [IntWalk.i64_in _ (by omega)];exact hpq
 have HCT:Hid (∀ W x,Below w.heap.size w W → Calls Tryz.prog 69 #[.slice TA nt Tc,.int .i64 x] W fun e w' => e = .returned (.int .i64 (b.att.count x:Nat)) ∧ W = w'):=Lib.hid (fun W x hb => rcount_any TA nt Tc b.att x W (HAT.out.below hb) hnt9)
 have HCF:Hid (∀ W x,Below w.heap.size w W → Calls Tryz.prog 69 #[.slice FA nf Fc,.int .i64 x] W fun e w' => e = .returned (.int .i64 (lf.count x:Nat)) ∧ W = w'):=Lib.hid (fun W x hb => rcount_any FA nf Fc lf x W (HLF.out.below hb) hnf9)
 have HCX:Hid (∀ W x,Below w.heap.size w W → Calls Tryz.prog 69 #[.slice XA nx Xc,.int .i64 x] W fun e w' => e = .returned (.int .i64 (lx.count x:Nat)) ∧ W = w'):=Lib.hid (fun W x hb => rcount_any XA nx Xc lx x W (HLX.out.below hb) hnx9)
 obtain ⟨w1,hw1⟩:∃ x,w.alloc (.cells cs 33) = x:=⟨_,rfl⟩
 have HI1:Hid (Blk w1 w.heap.size 33 cs ∧ Below w.heap.size w w1):=Lib.hid ⟨by rw [← hw1];exact Blk.mk_ w _ _ _ rfl,by rw [← hw1];exact (Below.refl _ _).alloc (Nat.le_refl _) _⟩
 rw [hcs]
 clear h ha hav hqv hcs hT hK hF hX hnt hnk hlf hlx hnf hnx hat hto hbk hko hlfr hlxr hfo hxo hpa hqa
 go_enter Tryz.func34,Tryz.ntmps34
 go_wp2_with fail
 clear hw1
 go_loopw [3] (fun i W => ∃ k:Nat,k ≤ nt ∧ i = .int .i64 k ∧ Hid (AttOk b k) ∧ Hid (Blk W w.heap.size 33 cs ∧ Below w.heap.size w W)) (fun i _ => nt - (intOf i).toNat)
 case atStart => exact ⟨0,Nat.zero_le _,rfl,Lib.hid (fun j i h => absurd h (by omega)),HI1⟩
 case round =>
  obtain ⟨k,hk,rfl,HE,HI⟩:=hrel
  clear HI1
  have c31:wr.cell? ⟨w.heap.size,31,none⟩ = some (.slice TA nt Tc):=(HI.out.1.at_ 31).trans E31.out
  by_cases hkn:k < nt
  ·have hkn':(k:Int) < nt:=by omega
   have HKN:=Lib.hid hkn
   obtain ⟨ad,rfl,hadl,d0⟩:=int_at (HAT.out.below HI.out.2) hkn
   have hg0:=ith_get (xs:=b.att) (k:=k) (by rw [HNT.out];exact hkn)
   obtain ⟨x,hx⟩:∃ y,ith b.att k = y:=⟨_,rfl⟩
   rw [hx] at hg0 d0
   have HG:=Lib.hid hg0
   have y31:∀ s:Later wr.heap.size wr,s.W.cell? ⟨w.heap.size,31,none⟩ = some (.slice (some ad) nt Tc):=fun s => ((HI.out.1.call s.h).at_ 31).trans E31.out
   have y34:∀ s:Later wr.heap.size wr,s.W.cell? ⟨w.heap.size,34,none⟩ = some (.int .i64 pa):=fun s => ((HI.out.1.call s.h).at_ 34).trans E34.out
   have yF:∀ s:Later wr.heap.size wr,s.W.cell? ⟨w.heap.size,1 + pa * 14 + 7,none⟩ = some (.slice FA nf Fc):=fun s => ((HI.out.1.call s.h).at_ (1 + pa * 14 + 7)).trans EF.out
   have yd:∀ s:Later wr.heap.size wr,s.W.cell? (ad.add k) = some (.int .i64 x):=fun s => (s.h.cell (p:=ad.add k) (by unfold Addr.add;split <;> exact hadl)).trans d0
   obtain ⟨n1,h1⟩:∃ n,b.att.count x = n:=⟨_,rfl⟩
   obtain ⟨n2,h2⟩:∃ n,lf.count x = n:=⟨_,rfl⟩
   have H1:=Lib.hid h1
   have H2:=Lib.hid h2
   have HA:Hid (∀ s:Later wr.heap.size wr,Calls Tryz.prog 69 #[.slice (some ad) nt Tc,.int .i64 x] s.W fun e w' => e = .returned (.int .i64 (n1:Nat)) ∧ s.W = w'):=Lib.hid (fun s => by rw [← H1.out];exact HCT.out s.W x (below_call HI.out.2 s.h HI.out.2.size))
   have HB:Hid (∀ s:Later wr.heap.size wr,Calls Tryz.prog 69 #[.slice FA nf Fc,.int .i64 x] s.W fun e w' => e = .returned (.int .i64 (n2:Nat)) ∧ s.W = w'):=Lib.hid (fun s => by rw [← H2.out];exact HCF.out s.W x (below_call HI.out.2 s.h HI.out.2.size))
   clear hg0 hx hadl h1 h2
   by_cases hn1:n1 = 1
   case neg =>
    have hb1:((n1:Int) != 1) = true:=by simp;omega
    have hb2:(n1 != 1) = true:=by simp [hn1]
    have HBAD:Hid (¬ figR b):=Lib.hid (fun hp => hn1 (by rw [← H1.out];exact (hp.1 x (List.mem_of_getElem? HG.out)).1))
    clear hn1
    go_wp2_with fail
    refine wp_region_later (B:=wr.heap.size) (w0:=wr) (Below.refl _ _) (by kernel_rfl) (by kernel_rfl) ?_
    repeat (go_big_quiet_step (first | (go_at_call 69;with_reducible exact Calls.later_same (HA.out _)) | (go_at_call 69;with_reducible exact Calls.later_same (HB.out _))))
    refine wpQuiet_nil ?_
    intro _ hw'
    obtain ⟨s,hw2⟩:=hw'
    subst hw2
    obtain ⟨w7,hb7⟩:=s
    have HI7:Hid (Blk w7 w.heap.size 33 cs ∧ Below w.heap.size w w7):=Lib.hid ⟨HI.out.1.call hb7,below_call HI.out.2 hb7 HI.out.2.size⟩
    clear y31 y34 yF yd
    go_wp2_with fail
    go_ret
    exact ⟨false,rfl,⟨fun h => (by cases h),fun h => absurd h HBAD.out⟩,HI7.out.2⟩
   have hb1:((n1:Int) != 1) = false:=by simp;omega
   have hb2:(n1 != 1) = false:=by simp [hn1]
   by_cases hn2:n2 = 1
   case neg =>
    have hb3:((n2:Int) != 1) = true:=by simp;omega
    have hb4:(n2 != 1) = true:=by simp [hn2]
    have HBAD:Hid (¬ figR b):=Lib.hid (fun hp => hn2 (by rw [← H2.out,← HFA.out];exact (hp.1 x (List.mem_of_getElem? HG.out)).2))
    clear hn1 hn2
    go_wp2_with fail
    refine wp_region_later (B:=wr.heap.size) (w0:=wr) (Below.refl _ _) (by kernel_rfl) (by kernel_rfl) ?_
    repeat (go_big_quiet_step (first | (go_at_call 69;with_reducible exact Calls.later_same (HA.out _)) | (go_at_call 69;with_reducible exact Calls.later_same (HB.out _))))
    refine wpQuiet_nil ?_
    intro _ hw'
    obtain ⟨s,hw2⟩:=hw'
    subst hw2
    obtain ⟨w7,hb7⟩:=s
    have HI7:Hid (Blk w7 w.heap.size 33 cs ∧ Below w.heap.size w w7):=Lib.hid ⟨HI.out.1.call hb7,below_call HI.out.2 hb7 HI.out.2.size⟩
    clear y31 y34 yF yd
    go_wp2_with fail
    go_ret
    exact ⟨false,rfl,⟨fun h => (by cases h),fun h => absurd h HBAD.out⟩,HI7.out.2⟩
   have hb3:((n2:Int) != 1) = false:=by simp;omega
   have hb4:(n2 != 1) = false:=by simp [hn2]
   have HE1:Hid (AttOk b (k + 1)):=Lib.hid (fun j i hj hi => by
    rcases Nat.lt_or_ge j k with g | g
    ·exact HE.out j i g hi
    ·obtain rfl:j = k:=by omega
     rw [HG.out] at hi
     rw [← Option.some.inj hi,HFA.out,H1.out,H2.out]
     exact ⟨hn1,hn2⟩)
   clear hn1 hn2
   go_wp2_with fail
   refine wp_region_later (B:=wr.heap.size) (w0:=wr) (Below.refl _ _) (by kernel_rfl) (by kernel_rfl) ?_
   repeat (go_big_quiet_step (first | (go_at_call 69;with_reducible exact Calls.later_same (HA.out _)) | (go_at_call 69;with_reducible exact Calls.later_same (HB.out _))))
   refine wpQuiet_nil ?_
   intro _ hw'
   obtain ⟨s,hw2⟩:=hw'
   subst hw2
   obtain ⟨w7,hb7⟩:=s
   have HI7:Hid (Blk w7 w.heap.size 33 cs ∧ Below w.heap.size w w7):=Lib.hid ⟨HI.out.1.call hb7,below_call HI.out.2 hb7 HI.out.2.size⟩
   clear y31 y34 yF yd
   go_wp2_with fail
   go_roundw
   case rel => exact ⟨k + 1,HKN.out,by go_num,HE1,HI7⟩
   case measure => simp [intOf];have:=HKN.out;omega
  ·have hkd:decide ((k:Int) < nt) = false:=decide_eq_false (by omega)
   have hkd2:decide (k < nt) = false:=decide_eq_false hkn
   have HATO:Hid (AttOk b b.att.length):=Lib.hid (by rw [HNT.out];exact (show nt = k by omega) ▸ HE.out)
   clear hkn hk
   go_wp2_with fail
   go_loopw [4] (fun i W => ∃ j:Nat,j ≤ nk ∧ i = .int .i64 j ∧ Hid (BlkOk b j) ∧ Hid (Blk W w.heap.size 33 cs ∧ Below w.heap.size w W)) (fun i _ => nk - (intOf i).toNat)
   case atStart => exact ⟨0,Nat.zero_le _,rfl,Lib.hid ⟨fun j x h => absurd h (by omega),fun i j x y h1 h2 => absurd h2 (by omega)⟩,HI⟩
   case round =>
    obtain ⟨j,hj,rfl,HE2,HJ⟩:=hrel
    clear HI HE
    have c32:wr.cell? ⟨w.heap.size,32,none⟩ = some (.slice KA nk Kc):=(HJ.out.1.at_ 32).trans E32.out
    by_cases hjn:j < nk
    ·have hjn':(j:Int) < nk:=by omega
     have HJN:=Lib.hid hjn
     obtain ⟨x,hx⟩:=get_of (l:=b.blk) (k:=j) (by rw [HNK.out];exact hjn)
     obtain ⟨ad,rfl,-,d0,d1⟩:=blk_at (HBK.out.below HJ.out.2) hx hjn
     have HG:=Lib.hid hx
     obtain ⟨gX,hgX⟩:∃ g,wr.heap.size = g:=⟨_,rfl⟩
     obtain ⟨w5,hw5⟩:∃ w5,wr.alloc (.cells #[.int .i64 x.b,.int .i64 x.a] 84) = w5:=⟨_,rfl⟩
     have hal:Below wr.heap.size wr w5:=by rw [← hw5];exact (Below.refl _ _).alloc (Nat.le_refl _) _
     have HBX:Hid (Blk w5 gX 84 #[.int .i64 x.b,.int .i64 x.a]):=Lib.hid (by rw [← hw5];exact Blk.mk_ wr _ _ _ hgX)
     have HI5:Hid (Blk w5 w.heap.size 33 cs ∧ Below w.heap.size w w5):=Lib.hid ⟨HJ.out.1.call hal,below_call HJ.out.2 hal HJ.out.2.size⟩
     have y31:∀ s:Later w5.heap.size w5,s.W.cell? ⟨w.heap.size,31,none⟩ = some (.slice TA nt Tc):=fun s => ((HI5.out.1.call s.h).at_ 31).trans E31.out
     have y34:∀ s:Later w5.heap.size w5,s.W.cell? ⟨w.heap.size,34,none⟩ = some (.int .i64 pa):=fun s => ((HI5.out.1.call s.h).at_ 34).trans E34.out
     have yX:∀ s:Later w5.heap.size w5,s.W.cell? ⟨w.heap.size,1 + qa * 14 + 7,none⟩ = some (.slice XA nx Xc):=fun s => ((HI5.out.1.call s.h).at_ (1 + qa * 14 + 7)).trans EX.out
     have z0:∀ s:Later w5.heap.size w5,s.W.cell? ⟨gX,0,none⟩ = some (.int .i64 x.b):=fun s => ((HBX.out.call s.h).at_ 0).trans rfl
     have z1:∀ s:Later w5.heap.size w5,s.W.cell? ⟨gX,1,none⟩ = some (.int .i64 x.a):=fun s => ((HBX.out.call s.h).at_ 1).trans rfl
     obtain ⟨n1,h1⟩:∃ n,b.att.count x.a = n:=⟨_,rfl⟩
     obtain ⟨n2,h2⟩:∃ n,lx.count x.b = n:=⟨_,rfl⟩
     have H1:=Lib.hid h1
     have H2:=Lib.hid h2
     have HA:Hid (∀ s:Later w5.heap.size w5,Calls Tryz.prog 69 #[.slice TA nt Tc,.int .i64 x.a] s.W fun e w' => e = .returned (.int .i64 (n1:Nat)) ∧ s.W = w'):=Lib.hid (fun s => by rw [← H1.out];exact HCT.out s.W x.a (below_call HI5.out.2 s.h HI5.out.2.size))
     have HB:Hid (∀ s:Later w5.heap.size w5,Calls Tryz.prog 69 #[.slice XA nx Xc,.int .i64 x.b] s.W fun e w' => e = .returned (.int .i64 (n2:Nat)) ∧ s.W = w'):=Lib.hid (fun s => by rw [← H2.out];exact HCX.out s.W x.b (below_call HI5.out.2 s.h HI5.out.2.size))
     clear hx hal h1 h2
     by_cases hn1:n1 = 1
     case neg =>
      have hb1:((n1:Int) != 1) = true:=by simp;omega
      have hb2:(n1 != 1) = true:=by simp [hn1]
      have HBAD:Hid (¬ figR b):=Lib.hid (fun hp => hn1 (by rw [← H1.out];exact (hp.2.1 x (List.mem_of_getElem? HG.out)).1))
      clear hn1
      go_wp2_with fail
      refine wp_region_later (B:=w5.heap.size) (w0:=w5) (Below.refl _ _) (by kernel_rfl) (by kernel_rfl) ?_
      repeat (go_big_quiet_step (first | (go_at_call 69;with_reducible exact Calls.later_same (HA.out _)) | (go_at_call 69;with_reducible exact Calls.later_same (HB.out _))))
      refine wpQuiet_nil ?_
      intro _ hw'
      obtain ⟨s,hw2⟩:=hw'
      subst hw2
      obtain ⟨w7,hb7⟩:=s
      have HI7:Hid (Blk w7 w.heap.size 33 cs ∧ Below w.heap.size w w7):=Lib.hid ⟨HI5.out.1.call hb7,below_call HI5.out.2 hb7 HI5.out.2.size⟩
      have HBK7:=Lib.hid (HBX.out.call hb7)
      clear y31 y34 yX z0 z1
      go_wp2_with fail
      go_ret
      exact ⟨false,rfl,⟨fun h => (by cases h),fun h => absurd h HBAD.out⟩,HI7.out.2⟩
     have hb1:((n1:Int) != 1) = false:=by simp;omega
     have hb2:(n1 != 1) = false:=by simp [hn1]
     by_cases hn2:n2 = 1
     case neg =>
      have hb3:((n2:Int) != 1) = true:=by simp;omega
      have hb4:(n2 != 1) = true:=by simp [hn2]
      have HBAD:Hid (¬ figR b):=Lib.hid (fun hp => hn2 (by rw [← H2.out,← HFQ.out];exact (hp.2.1 x (List.mem_of_getElem? HG.out)).2))
      clear hn1 hn2
      go_wp2_with fail
      refine wp_region_later (B:=w5.heap.size) (w0:=w5) (Below.refl _ _) (by kernel_rfl) (by kernel_rfl) ?_
      repeat (go_big_quiet_step (first | (go_at_call 69;with_reducible exact Calls.later_same (HA.out _)) | (go_at_call 69;with_reducible exact Calls.later_same (HB.out _))))
      refine wpQuiet_nil ?_
      intro _ hw'
      obtain ⟨s,hw2⟩:=hw'
      subst hw2
      obtain ⟨w7,hb7⟩:=s
      have HI7:Hid (Blk w7 w.heap.size 33 cs ∧ Below w.heap.size w w7):=Lib.hid ⟨HI5.out.1.call hb7,below_call HI5.out.2 hb7 HI5.out.2.size⟩
      have HBK7:=Lib.hid (HBX.out.call hb7)
      clear y31 y34 yX z0 z1
      go_wp2_with fail
      go_ret
      exact ⟨false,rfl,⟨fun h => (by cases h),fun h => absurd h HBAD.out⟩,HI7.out.2⟩
     have hb3:((n2:Int) != 1) = false:=by simp;omega
     have hb4:(n2 != 1) = false:=by simp [hn2]
     have HN12:=Lib.hid (And.intro hn1 hn2)
     clear hn1 hn2
     go_wp2_with fail
     refine wp_region_later (B:=w5.heap.size) (w0:=w5) (Below.refl _ _) (by kernel_rfl) (by kernel_rfl) ?_
     repeat (go_big_quiet_step (first | (go_at_call 69;with_reducible exact Calls.later_same (HA.out _)) | (go_at_call 69;with_reducible exact Calls.later_same (HB.out _))))
     refine wpQuiet_nil ?_
     intro _ hw'
     obtain ⟨s,hw2⟩:=hw'
     subst hw2
     obtain ⟨w7,hb7⟩:=s
     have HI7:Hid (Blk w7 w.heap.size 33 cs ∧ Below w.heap.size w w7):=Lib.hid ⟨HI5.out.1.call hb7,below_call HI5.out.2 hb7 HI5.out.2.size⟩
     have HBK7:=Lib.hid (HBX.out.call hb7)
     clear y31 y34 yX z0 z1
     go_wp2_with fail
     clear d0 d1 c32 hw5 hgX HBX HI5 hb7
     go_loopw [6] (fun i W => ∃ q:Nat,q ≤ j ∧ i = .int .i64 q ∧ Hid (∀ (i:Nat) (y:Bk),i < q → b.blk[i]? = some y → ¬ y.a = x.a ∧ ¬ y.b = x.b) ∧ Hid (Blk W gX 84 #[.int .i64 x.b,.int .i64 x.a] ∧ Blk W w.heap.size 33 cs ∧ Below w.heap.size w W)) (fun i _ => j - (intOf i).toNat)
     case atStart => exact ⟨0,Nat.zero_le _,rfl,Lib.hid (fun i y h => absurd h (by omega)),Lib.hid ⟨HBK7.out,HI7.out.1,HI7.out.2⟩⟩
     case round =>
      obtain ⟨q,hq,rfl,HE3,HQ⟩:=hrel
      clear HBK7 HI7
      by_cases hqj:q < j
      ·have hqj':(q:Int) < j:=by omega
       have hqn:q < nk:=Nat.lt_trans hqj HJN.out
       have hqn':(q:Int) < nk:=by omega
       have HQJ:=Lib.hid hqj
       have c32:wr.cell? ⟨w.heap.size,32,none⟩ = some (.slice (some ad) nk Kc):=(HQ.out.2.1.at_ 32).trans E32.out
       have p0:wr.cell? ⟨gX,0,none⟩ = some (.int .i64 x.b):=(HQ.out.1.at_ 0).trans rfl
       have p1:wr.cell? ⟨gX,1,none⟩ = some (.int .i64 x.a):=(HQ.out.1.at_ 1).trans rfl
       obtain ⟨y,hy⟩:=get_of (l:=b.blk) (k:=q) (by rw [HNK.out];exact hqn)
       obtain ⟨ad2,e9,-,d0,d1⟩:=blk_at (HBK.out.below HQ.out.2.2) hy hqn
       injection e9 with e9
       subst e9
       have HY:=Lib.hid hy
       clear hy
       by_cases ha:y.a = x.a
       case pos =>
        have hab:(y.a == x.a) = true:=by simp [ha]
        have HBAD:Hid (¬ figR b):=Lib.hid (fun hp => (fig_ne hp HQJ.out HY.out HG.out).1 ha)
        clear ha
        go_wp2_with fail
        go_quiet (fail)
        go_wp2_with fail
        go_ret
        exact ⟨false,rfl,⟨fun h => (by cases h),fun h => absurd h HBAD.out⟩,below_drewN HQ.out.2.2 _⟩
       have hab:(y.a == x.a) = false:=by simp [ha]
       by_cases hb:y.b = x.b
       case pos =>
        have hbb:(y.b == x.b) = true:=by simp [hb]
        have HBAD:Hid (¬ figR b):=Lib.hid (fun hp => (fig_ne hp HQJ.out HY.out HG.out).2 hb)
        clear ha hb
        go_wp2_with fail
        go_quiet (fail)
        go_wp2_with fail
        go_ret
        exact ⟨false,rfl,⟨fun h => (by cases h),fun h => absurd h HBAD.out⟩,below_drewN HQ.out.2.2 _⟩
       have hbb:(y.b == x.b) = false:=by simp [hb]
       have HE4:Hid (∀ (i:Nat) (y:Bk),i < q + 1 → b.blk[i]? = some y → ¬ y.a = x.a ∧ ¬ y.b = x.b):=Lib.hid (fun i z hi hz => by
        rcases Nat.lt_or_ge i q with g | g
        ·exact HE3.out i z g hz
        ·obtain rfl:i = q:=by omega
         rw [HY.out] at hz
         rw [← Option.some.inj hz]
         exact ⟨ha,hb⟩)
       clear ha hb
       go_wp2_with fail
       go_quiet (fail)
       go_wp2_with fail
       go_roundw
       case rel => exact ⟨q + 1,HQJ.out,by go_num,HE4,Lib.hid ⟨HQ.out.1.call (below_drewN (Below.refl _ _) _),HQ.out.2.1.call (below_drewN (Below.refl _ _) _),below_drewN HQ.out.2.2 _⟩⟩
       case measure => simp [intOf];have:=HQJ.out;omega
      ·have hqd:decide ((q:Int) < (j:Int)) = false:=decide_eq_false (by omega)
       have hqd2:decide (q < j) = false:=decide_eq_false hqj
       have HE5:Hid (BlkOk b (j + 1)):=Lib.hid ⟨fun i y hi hy => by
        rcases Nat.lt_or_ge i j with g | g
        ·exact HE2.out.1 i y g hy
        ·obtain rfl:i = j:=by omega
         rw [HG.out] at hy
         rw [← Option.some.inj hy,HFQ.out,H1.out,H2.out]
         exact HN12.out,fun i i2 y z h1 h2 hy hz => by
        rcases Nat.lt_or_ge i2 j with g | g
        ·exact HE2.out.2 i i2 y z h1 g hy hz
        ·obtain rfl:i2 = j:=by omega
         rw [HG.out] at hz
         rw [← Option.some.inj hz]
         exact HE3.out i y (by omega) hy⟩
       clear hqj hq
       go_wp2_with fail
       go_roundw
       case rel => exact ⟨j + 1,HJN.out,by go_num,HE5,Lib.hid ⟨HQ.out.2.1,HQ.out.2.2⟩⟩
       case measure => simp [intOf];have:=HJN.out;omega
    ·have hjd:decide ((j:Int) < nk) = false:=decide_eq_false (by omega)
     have hjd2:decide (j < nk) = false:=decide_eq_false hjn
     have HOK:Hid (figR b):=Lib.hid (fig_all HATO.out (by rw [HNK.out];exact (show nk = j by omega) ▸ HE2.out))
     clear hjn hj
     go_wp2_with fail
     go_ret
     exact ⟨true,rfl,⟨fun _ => HOK.out,fun _ => rfl⟩,HJ.out.2⟩
end Go.Proofs.YtagpphelgghbpaaGreat
