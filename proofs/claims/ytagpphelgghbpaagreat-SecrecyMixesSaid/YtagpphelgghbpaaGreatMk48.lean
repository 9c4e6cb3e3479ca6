/-
  Texts: Rsg, Rmx.
-/
import Derived.Test.YtagpphelgghbpaaGreatMk47
import Derived.Test.YtagpphelgghbpaaGreatMk18
import Derived.Test.YtagpphelgghbpaaGreatMk36
import Derived.Test.YtagpphelgghbpaaGreatMk34
import Derived.Test.YtagpphelgghbpaaGreatMk35
set_option linter.unusedSimpArgs false
set_option linter.unusedVariables false
namespace Go.Proofs.YtagpphelgghbpaaGreat
open Go.RowKit

def RchEnd (W:World) (A:Option Addr) (n c k used:Nat) (us:List Int) (j:Int) (e:Ending) (w':World):Prop:=∃ A',e = .returned (.tuple #[.agg #[.slice A' (n - 1) (c - 1),.int .i64 ((used + 1:Nat):Int)],.int .i64 j]) ∧ (∀ W0,DvR W0 A n c us k → DvR W0 A' (n - 1) (c - 1) us (k + 1)) ∧ Below W.heap.size W w'
set_option maxRecDepth 100000 in
set_option maxHeartbeats 1600000 in
theorem rchoose_any (W:World) (A:Option Addr) (n c k used:Nat) (us:List Int) (bound:Int) (hD:DvR W A n c us k) (hn:0 < n) (hu1:used ≤ 1000000) (hb:1 ≤ bound ∧ bound ≤ 1000000) (hw:0 ≤ ith us k ∧ ith us k ≤ 18446744073709551615) :
  Calls Tryz.prog 70 #[.agg #[.slice A n c,.int .i64 used],.int .i64 bound] W (RchEnd W A n c k used us (ith us k % bound)):=by
 obtain ⟨ad,rfl,hadl,hc0⟩:=hD.head hn
 obtain ⟨w2,hw2⟩:∃ z,(W.alloc (.cells #[.slice (some ad) n c,.int .i64 used] 78)).alloc (.cells #[.slice none 0 0,.int .i64 0] 78) = z:=⟨_,rfl⟩
 have hb2:Below W.heap.size W w2:=by rw [← hw2];exact ((Below.refl _ _).alloc (Nat.le_refl _) _).alloc (by simp) _
 have HB2:=Lib.hid hb2
 have HK2:Hid (Blk w2 W.heap.size 78 #[.slice (some ad) n c,.int .i64 used]):=Lib.hid (by rw [← hw2];exact (Blk.mk_ W _ _ _ rfl).alloc _)
 have HK4:Hid (Blk w2 (W.heap.size + 1) 78 #[.slice none 0 0,.int .i64 0]):=Lib.hid (by rw [← hw2];exact Blk.mk_ _ _ _ _ (by simp))
 have HC0:=Lib.hid ((hb2.cell (p:=ad) hadl).trans hc0)
 have HAL:=Lib.hid (Nat.lt_of_lt_of_le hadl hb2.size)
 have HAG:Hid (ad.block < W.heap.size + 1):=Lib.hid (by omega)
 have HD:=Lib.hid (hD.below hb2)
 have HU1:=Lib.hid hu1
 have HBD:=Lib.hid hb
 have HW:=Lib.hid hw
 have HN:=Lib.hid hn
 obtain ⟨r,hr⟩:∃ x,ith us k % bound = x:=⟨_,rfl⟩
 have HRR:=Lib.hid hr
 rw [hr]
 clear hD hn hu1 hb hw hadl hc0 hb2 hr
 have HFIN:Hid (∀ (A':Option Addr) (n9 c9:Nat) (W9:World),n9 = n - 1 → c9 = c - 1 → (A' = some (ad.add 1) ∨ n = 1) → Blk W9 (W.heap.size + 1) 78 #[.slice A' n9 c9,.int .i64 ((used + 1:Nat):Int)] ∧ w2.grownBy W9 (some (W.heap.size + 1)) → RchEnd W (some ad) n c k used us r (.returned (.tuple #[.agg #[.slice A' n9 c9,.int .i64 ((used + 1:Nat):Int)],.int .i64 r])) W9):=Lib.hid (fun A' n9 c9 W9 e1 e2 hA h9 => by
  subst e1 e2
  have hbl:Below W.heap.size w2 W9:=(Below.refl _ _).grown h9.2 HB2.out.size (fun q hq => by injection hq with hq;omega)
  exact ⟨A',rfl,fun W0 h0 => h0.tail HN.out hA,HB2.out.trans hbl⟩)
 by_cases hc1:c = 1
 ·have hn1:n = 1:=by have:=HD.out.cp;have:=HN.out;omega
  subst hc1
  subst hn1
  go_enter Tryz.func70,Tryz.ntmps70
  go_wp2_with fail
  refine rch_r0 w2 W.heap.size (W.heap.size + 1) ad used (ith us k) bound r #[.slice none 0 0,.int .i64 0] HK2.out HK4.out rfl (by omega) HAL.out HAG.out HC0.out HU1.out HBD.out HW.out HRR.out _ _ _ _ _ _ _ _ _ _ _ _ _ _ _ _ _ _ _ ?_ ?_
  ·exact fun d _ _ _ _ h => by cases d <;> exact h
  intro v6 v7 v8 v9 v10 v11 v12 v13 v14 v15 v16 v17 v18 v19 v20 W9 h9
  have HE:=Lib.hid (HFIN.out (some ad) 0 0 W9 (by first | rfl | trivial) (by first | rfl | trivial) (by first | exact .inr rfl | exact .inr trivial | trivial) h9)
  have H9:=Lib.hid h9
  clear h9 hw2
  go_wp2_with fail
  exact bodyPost_ret (v:=.tuple #[.agg #[.slice (some ad) 0 0,.int .i64 ((used + 1:Nat):Int)],.int .i64 r]) (ret_cell2 (fn:=Tryz.f70) (p:=4) (q:=5) rfl rfl H9.out.1 Tryz.underlying78 rfl (by rw [size_draws];rfl)) rfl HE.out
 ·have HC1:=Lib.hid hc1
  clear hc1
  go_enter Tryz.func70,Tryz.ntmps70
  go_wp2_with fail
  refine rch_r1 w2 W.heap.size (W.heap.size + 1) ad used (ith us k) bound r n c #[.slice none 0 0,.int .i64 0] HK2.out HK4.out rfl (by omega) HAL.out HAG.out HC0.out HN.out HD.out.cp.1 HD.out.cp.2 HC1.out HU1.out HBD.out HW.out HRR.out _ _ _ _ _ _ _ _ _ _ _ _ _ _ _ _ _ _ _ ?_ ?_
  ·exact fun d _ _ _ _ h => by cases d <;> exact h
  intro v6 v7 v8 v9 v10 v11 v12 v13 v14 v15 v16 v17 v18 v19 v20 W9 h9
  have HE:=Lib.hid (HFIN.out (some ⟨ad.block,ad.off + 1,none⟩) (n - 1) (c - 1) W9 rfl rfl (.inl (by rw [Addr.add_succ'])) h9)
  have H9:=Lib.hid h9
  clear h9 hw2
  go_wp2_with fail
  exact bodyPost_ret (v:=.tuple #[.agg #[.slice (some ⟨ad.block,ad.off + 1,none⟩) (n - 1) (c - 1),.int .i64 ((used + 1:Nat):Int)],.int .i64 r]) (ret_cell2 (fn:=Tryz.f70) (p:=4) (q:=5) rfl rfl H9.out.1 Tryz.underlying78 rfl (by rw [size_draws];rfl)) rfl HE.out
theorem ret_cell3 {fn:Func} {p q r:Tmp} {ty:TypeId} {tmps:Array Value} {w:World} {g t:Nat} {cs:Array Value} {d:TypeDesc} (h:fn.results = #[.cell p ty,.tmp q,.tmp r]) (hp:tmps.getD p undef = .pointer (some ⟨g,0,none⟩)) (hb:Blk w g t cs)
  (hu:Tryz.prog.underlying ty = some d) (hd:d.isRow = true) (hi:(Tryz.prog.info? ty).map (·.size) = some cs.size):(results fn tmps).run Tryz.prog w = .ok (.tuple #[.agg cs,tmps.getD q undef,tmps.getD r undef]) w:=by
 have hp':tmps[p]?.getD undef = .pointer (some ⟨g,0,none⟩):=by simpa using hp
 simp [results,h,hp',asAddr,run_loadVar_row w g t ty cs (0,0) d hb hu (by cases d <;> simp_all) hi]
structure RsS (W:World) (A0:Option Addr) (n0 c0 k0:Nat) (us:List Int) (n:Nat) (l0:List Int) (tot utot g2 c2 B:Nat) (A2 A':Option Addr) (n' c' k' used' q:Nat) (l':List Int) (Wn:World):Prop where
 P:Blk Wn g2 78 #[.slice A' n' c',.int .i64 used']
 D:∀ W0,DvR W0 A0 n0 c0 us k0 → DvR W0 A' n' c' us k'
 X:XOwns Wn B 3 1 A2 n c2 (ics l')
 e:shufL us (q - 1) k' l' = l0
 k:k' + (q - 1) = tot
 u:used' + (q - 1) = utot
 le:q ≤ n
 ll:l'.length = n
 R:Blk Wn (g2 + 1) 78 #[.slice none 0 0,.int .i64 0]
 B:Below W.heap.size W Wn
def RshEnd (W:World) (A:Option Addr) (n c k used:Nat) (us:List Int) (nl:Nat) (l:List Int) (e:Ending) (w':World):Prop:=Below W.heap.size W w' ∧ ((n + 1 < nl ∧ e = .returned (.tuple #[.agg #[.slice A n c,.int .i64 used],.slice none 0 0,.int .i64 16])) ∨ (¬ n + 1 < nl ∧ ∃ (A':Option Addr) (n' c':Nat) (A2:Option Addr) (c2:Nat),e = .returned (.tuple #[.agg #[.slice A' n' c',.int .i64 ((used + (nl - 1):Nat):Int)],.slice A2 nl c2,.int .i64 0]) ∧ (∀ W0,DvR W0 A n c us k → DvR W0 A' n' c' us (k + (nl - 1))) ∧ XOwns w' W.heap.size 3 1 A2 nl c2 (ics (shuf us k l))))
theorem owns_set {W:World} {B g n c:Nat} {l:List Int} (h:XOwns W B 3 1 (some ⟨g,0,none⟩) n c (ics l)) (j:Nat) (x:Int):XOwns (W.setCell ⟨g,j,none⟩ (.int .i64 x)) B 3 1 (some ⟨g,0,none⟩) n c (ics (l.set j x)):=by
 have:=h.setX j (.int .i64 x)
 rw [ics_set]
 exact this
theorem owns_at {W:World} {B g n c j:Nat} {l:List Int} (h:XOwns W B 3 1 (some ⟨g,0,none⟩) n c (ics l)) (hj:j < l.length):W.cell? ⟨g,j,none⟩ = some (.int .i64 (ith l j)) ∧ W.frozen? ⟨g,j,none⟩ = false ∧ g < W.heap.size ∧ B ≤ g:=by
 obtain ⟨g',e,h1,h2,h3,h4⟩:=h.cell (j:=j) (u:=.int .i64 (ith l j)) (by rw [ics,List.getElem?_map,ith_get hj];rfl)
 injection e with e
 injection e with e
 subst e
 exact ⟨h3,h4,h2,h1⟩
set_option maxRecDepth 100000 in
set_option maxHeartbeats 3200000 in
theorem rshuffle_any (W:World) (A:Option Addr) (n c k used:Nat) (us:List Int) (hD:DvR W A n c us k) (hu1:used ≤ 900000) (hw:∀ i,i < us.length → 0 ≤ ith us i ∧ ith us i ≤ 18446744073709551615) (LA:Option Addr) (nl Lc:Nat) (l:List Int) (hL:Reads W 1 LA nl (ics l)) (hA:LA = none → Lc = 0) (hn5:nl ≤ 500) :
  Calls Tryz.prog 36 #[.agg #[.slice A n c,.int .i64 used],.slice LA nl Lc] W (RshEnd W A n c k used us nl l):=by
 obtain ⟨g2,hg2⟩:∃ z,W.heap.size = z:=⟨_,rfl⟩
 obtain ⟨w2,hw2⟩:∃ z,(W.alloc (.cells #[.slice A n c,.int .i64 used] 78)).alloc (.cells #[.slice none 0 0,.int .i64 0] 78) = z:=⟨_,rfl⟩
 have hb2:Below W.heap.size W w2:=by rw [← hw2];exact ((Below.refl _ _).alloc (Nat.le_refl _) _).alloc (by simp) _
 have HB2:=Lib.hid hb2
 have HK2:Hid (Blk w2 g2 78 #[.slice A n c,.int .i64 used]):=Lib.hid (by rw [← hw2];exact (Blk.mk_ W _ _ _ hg2).alloc _)
 have HK4:Hid (Blk w2 (g2 + 1) 78 #[.slice none 0 0,.int .i64 0]):=Lib.hid (by rw [← hw2];exact Blk.mk_ _ _ _ _ (by simp [hg2]))
 have HD:=Lib.hid hD
 have HL:=Lib.hid (hL.below hb2)
 have HLL:=Lib.hid (ilen hL)
 have HA:=Lib.hid hA
 have HW:=Lib.hid hw
 have HG2:=Lib.hid hg2
 have HU1:=Lib.hid hu1
 have hwq:wrap64 ((nl:Int) - 1) = (nl:Int) - 1:=by unfold wrap64;omega
 have hn9:n ≤ 9223372036854775807:=by have:=hD.cp;omega
 have d0:w2.cell? ⟨g2,0,none⟩ = some (.slice A n c):=(HK2.out.at_ 0).trans rfl
 have d1:w2.cell? ⟨g2,1,none⟩ = some (.int .i64 used):=(HK2.out.at_ 1).trans rfl
 clear hD hu1 hw hL hA hb2
 by_cases hlt:n + 1 < nl
 ·have hltI:(n:Int) < (nl:Int) - 1:=by omega
  have HLT:=Lib.hid hlt
  obtain ⟨w6,hst,hk6,hg6⟩:=HK4.out.storeAll (ty:=78) [.slice A n c,.int .i64 used] rfl (by rw [size_draws];rfl) (by simp [Value.oneCell'])
  have HST:=Lib.hid hst
  have HK6:=Lib.hid hk6
  have HB6:=Lib.hid (HB2.out.grown hg6 HB2.out.size (fun q hq => by injection hq with hq;have:=HG2.out;omega))
  clear hlt hst hk6 hg6
  go_enter Tryz.func36,Tryz.ntmps36
  go_wp2_with (first
   | (refine wpList_store_by HST.out rfl rfl rfl rfl ?_;simp only [Act.put,List.setIfInBounds_toArray,List.set_cons_succ,List.set_cons_zero])
   | fail)
  refine bodyPost_ret (v:=.tuple #[.agg #[.slice A n c,.int .i64 used],.slice none 0 0,.int .i64 16]) (ret_cell3 (fn:=Tryz.f36) (p:=4) (q:=5) (r:=6) rfl rfl HK6.out Tryz.underlying78 rfl (by rw [size_draws];rfl)) rfl ?_
  exact ⟨HB6.out,.inl ⟨HLT.out,rfl⟩⟩
 ·have hltI:decide ((n:Int) < (nl:Int) - 1) = false:=decide_eq_false (by omega)
  have hltJ:((n:Int) < (nl:Int) - 1) = False:=eq_false (by omega)
  have HLT:=Lib.hid hlt
  clear hlt
  go_enter Tryz.func36,Tryz.ntmps36
  go_wp2_with (first
   | (at_builtin;refine append_nil (w:=w2) rfl (.const (.slice none 0 0)) (.tmp 24) 25 rfl 3 _ 1 8 tinfo_ints Tryz.underlying25 rfl (by decide) rfl LA nl Lc (ics l) rfl HA.out HL.out (ics_one _) (by omega) (by omega) ?_;intro A3 c3 w3 ho3 hb3;simp only [Act.put,List.setIfInBounds_toArray,List.set_cons_succ,List.set_cons_zero];have HO3:=Lib.hid ho3;have HB3:=Lib.hid hb3;clear ho3 hb3 d0 d1)
   | fail)
  clear hw2 hg2
  have HF0:Hid ((nl:Int) - 1 = (nl:Int) - 1 ∧ RsS W A n c k us nl (shuf us k l) (k + (nl - 1)) (used + (nl - 1)) g2 c3 w2.heap.size A3 A n c k used nl l w3):=Lib.hid ⟨rfl,HK2.out.call HB3.out,fun _ h0 => h0,HO3.out,by rw [shuf,HLL.out],rfl,rfl,Nat.le_refl _,HLL.out,HK4.out.call HB3.out,below_call HB2.out HB3.out HB2.out.size⟩
  go_loopw [8] (fun i Wn => ∃ (q:Nat) (iv:Int) (A':Option Addr) (n' c' k' used':Nat) (l':List Int),i = .int .i64 iv ∧ Hid (iv = (q:Int) - 1 ∧ RsS W A n c k us nl (shuf us k l) (k + (nl - 1)) (used + (nl - 1)) g2 c3 w2.heap.size A3 A' n' c' k' used' q l' Wn)) (fun i _ => (intOf i).toNat)
  case atStart => exact ⟨nl,_,A,n,c,k,used,l,rfl,HF0⟩
  case round =>
   obtain ⟨q,iv,A',n',c',k',used',l',rfl,HF⟩:=hrel
   clear HF0
   by_cases hk:1 ≤ iv
   ·obtain ⟨i,rfl⟩:∃ i:Nat,iv = (i:Int):=⟨iv.toNat,by omega⟩
    have hi1:(1:Int) ≤ i:=hk
    have HI:Hid (q = i + 1 ∧ 1 ≤ i ∧ i < nl):=Lib.hid (by have:=HF.out.1;have:=HF.out.2.le;omega)
    have hi5:i ≤ 500:=by have:=HI.out;omega
    have hw1:wrap64 ((i:Int) + 1) = (i:Int) + 1:=by unfold wrap64;omega
    have hw2:wrap64 ((i:Int) - 1) = (i:Int) - 1:=by unfold wrap64;omega
    have HKU:Hid (0 < n' ∧ k' < us.length ∧ used' ≤ 1000000):=Lib.hid (by
     have h1:=HF.out.2.k
     have h2:=HF.out.2.u
     have h3:=(HF.out.2.D W HD.out).ln
     have h4:=HD.out.ln
     have h5:=HLT.out
     have h6:=HI.out
     have h7:=HU1.out
     omega)
    obtain ⟨rj,hrj⟩:∃ x,ith us k' % ((i:Int) + 1) = x:=⟨_,rfl⟩
    have hj0:0 ≤ rj ∧ rj < (i:Int) + 1:=by rw [← hrj];exact ⟨Int.emod_nonneg _ (by omega),Int.emod_lt_of_pos _ (by omega)⟩
    obtain ⟨j,rfl⟩:∃ j:Nat,rj = (j:Int):=⟨rj.toNat,by omega⟩
    have HCH:Hid (Calls Tryz.prog 70 #[.agg #[.slice A' n' c',.int .i64 used'],.int .i64 ((i:Int) + 1)] wr (RchEnd wr A' n' c' k' used' us (j:Int))):=Lib.hid (by
     have h:=rchoose_any wr A' n' c' k' used' us ((i:Int) + 1) ((HF.out.2.D W HD.out).below HF.out.2.B) HKU.out.1 HKU.out.2.2 (by omega) (HW.out k' HKU.out.2.1)
     rw [hrj] at h
     exact h)
    have HJ:=Lib.hid hrj
    have HJL:Hid (j < i + 1):=Lib.hid (by omega)
    have HLE:=Lib.hid HF.out.2.ll
    have hjl:j < l'.length:=by have:=HJL.out;have:=HI.out;have:=HLE.out;omega
    have hil:i < l'.length:=by have:=HI.out;have:=HLE.out;omega
    obtain ⟨g,hg⟩:∃ g,A3 = some ⟨g,0,none⟩:=by
     obtain ⟨g,e,_⟩:=HF.out.2.X.cell (j:=0) (u:=.int .i64 (ith l' 0)) (by rw [ics,List.getElem?_map,ith_get (by omega)];rfl)
     exact ⟨g,e⟩
    subst hg
    have d0:wr.cell? ⟨g2,0,none⟩ = some (.slice A' n' c'):=(HF.out.2.P.at_ 0).trans rfl
    have d1:wr.cell? ⟨g2,1,none⟩ = some (.int .i64 used'):=(HF.out.2.P.at_ 1).trans rfl
    have HIL:=Lib.hid (And.intro hil hjl)
    have hin:(i:Int) < nl:=by have:=HI.out;omega
    have hjn:(j:Int) < nl:=by have:=HI.out;have:=HJL.out;omega
    have hin':i < nl:=by omega
    have hjn':j < nl:=by omega
    clear hk hrj hj0 hil hjl
    go_wp2_with fail
    refine HCH.out.mono ?_
    rintro e v3 ⟨A9,rfl,hd9,hb3⟩
    obtain ⟨v4,hv4⟩:∃ z,v3.alloc (.cells #[.slice A9 (n' - 1) (c' - 1),.int .i64 ((used':Int) + 1)] 78) = z:=⟨_,rfl⟩
    have hb4:Below v3.heap.size v3 v4:=by rw [← hv4];exact (Below.refl _ _).alloc (Nat.le_refl _) _
    have hk44:Blk v4 v3.heap.size 78 #[.slice A9 (n' - 1) (c' - 1),.int .i64 ((used':Int) + 1)]:=by rw [← hv4];exact Blk.mk_ _ _ _ _ rfl
    have k0:v4.cell? ⟨v3.heap.size,0,none⟩ = some (.slice A9 (n' - 1) (c' - 1)):=(hk44.at_ 0).trans rfl
    have k1:v4.cell? ⟨v3.heap.size,1,none⟩ = some (.int .i64 ((used':Int) + 1)):=(hk44.at_ 1).trans rfl
    have hb34:=below_call hb3 hb4 hb3.size
    obtain ⟨v5,hst5,hk5,hg5⟩:=(HF.out.2.P.call hb34).storeAll (ty:=78) [.slice A9 (n' - 1) (c' - 1),.int .i64 ((used':Int) + 1)] rfl (by rw [size_draws];rfl) (by simp [Value.oneCell'])
    have HST:=Lib.hid hst5
    have HX5:Hid (XOwns v5 w2.heap.size 3 1 (some ⟨g,0,none⟩) nl c3 (ics l')):=Lib.hid ((HF.out.2.X.below hb34).blk_ (HF.out.2.P.call hb34) hg5 (by decide))
    have HP5:Hid (Blk v5 g2 78 #[.slice A9 (n' - 1) (c' - 1),.int .i64 ((used' + 1:Nat):Int)]):=Lib.hid hk5
    have HR5:Hid (Blk v5 (g2 + 1) 78 #[.slice none 0 0,.int .i64 0]):=Lib.hid ((HF.out.2.R.call hb34).grown hg5 (fun e => by have e:g2 + 1 = g2:=Option.some.inj e;omega))
    have HB5:Hid (Below W.heap.size W v5):=Lib.hid ((below_call HF.out.2.B hb34 HF.out.2.B.size).grown hg5 (below_call HF.out.2.B hb34 HF.out.2.B.size).size (fun q hq => by injection hq with hq;have:=HG2.out;omega))
    have HD9:Hid (∀ W0,DvR W0 A n c us k → DvR W0 A9 (n' - 1) (c' - 1) us (k' + 1)):=Lib.hid (fun W0 h0 => hd9 W0 (HF.out.2.D W0 h0))
    obtain ⟨a,ha⟩:∃ z,ith l' i = z:=⟨_,rfl⟩
    obtain ⟨bb,hbb⟩:∃ z,ith l' j = z:=⟨_,rfl⟩
    obtain ⟨ei,fi,hgl,hgB⟩:=owns_at HX5.out HIL.out.1
    obtain ⟨ej,fj,-,-⟩:=owns_at HX5.out HIL.out.2
    have HX6:=Lib.hid (owns_set HX5.out i bb)
    have hl6:(l'.set i bb).length = l'.length:=by simp
    obtain ⟨ek,fk,hgl6,-⟩:=owns_at HX6.out (j:=j) (by rw [hl6];exact HIL.out.2)
    have HX7:=Lib.hid (owns_set HX6.out j a)
    have HAB:=Lib.hid (And.intro ha hbb)
    have HGB:Hid (w2.heap.size ≤ g):=Lib.hid hgB
    rw [ha] at ei
    rw [hbb] at ej
    clear hd9 hb3 hb4 hb34 hk44 hst5 hk5 hg5 ha hbb d0 d1 hgB hl6
    go_wp2_with (first
     | (refine wpList_store_by HST.out rfl rfl rfl rfl ?_;simp only [Act.put,List.setIfInBounds_toArray,List.set_cons_succ,List.set_cons_zero])
     | fail)
    have HF9:Hid ((i:Int) - 1 = (i:Int) - 1 ∧ RsS W A n c k us nl (shuf us k l) (k + (nl - 1)) (used + (nl - 1)) g2 c3 w2.heap.size (some ⟨g,0,none⟩) A9 (n' - 1) (c' - 1) (k' + 1) (used' + 1) i (swp l' i j) ((v5.setCell ⟨g,i,none⟩ (.int .i64 bb)).setCell ⟨g,j,none⟩ (.int .i64 a))):=Lib.hid (by
     have hg6:v5.grownBy (v5.setCell ⟨g,i,none⟩ (.int .i64 bb)) (some g):=only_setCell (only_refl _ _) (.inl rfl) _
     have hg7:v5.grownBy ((v5.setCell ⟨g,i,none⟩ (.int .i64 bb)).setCell ⟨g,j,none⟩ (.int .i64 a)) (some g):=only_setCell hg6 (.inl rfl) _
     have hgg:g2 + 1 < g:=by have:=HK4.out.lt;have:=HGB.out;omega
     have he:=HF.out.2.e
     have hk9:=HF.out.2.k
     have hu9:=HF.out.2.u
     obtain ⟨hq,h1,h2⟩:=HI.out
     refine ⟨rfl,HP5.out.grown hg7 (fun e => by have e:g2 = g:=Option.some.inj e;omega),HD9.out,?_,?_,by omega,by omega,by omega,by rw [swp_len];exact HLE.out,HR5.out.grown hg7 (fun e => by have e:g2 + 1 = g:=Option.some.inj e;omega),HB5.out.grown hg7 HB5.out.size (fun q hq => by injection hq with hq;have:=HG2.out;omega)⟩
     ·have h:=HX7.out
      rw [← HAB.out.1,← HAB.out.2] at h ⊢
      exact h
     ·rw [← he]
      obtain ⟨p,rfl⟩:∃ p,i = p + 1:=⟨i - 1,by omega⟩
      subst hq
      show _ = shufL us (p + 1) k' l'
      rw [shufL,show p + 1 - 1 = p by omega]
      have hj:=HJ.out
      rw [show (((p + 1:Nat):Int) + 1) = (p:Int) + 2 by omega] at hj
      rw [hj]
      rfl)
    clear hv4 k0 k1 ei ej ek fi fj fk hgl hgl6
    go_wp2_with fail
    go_roundw
    case rel => exact ⟨i,(i:Int) - 1,A9,n' - 1,c' - 1,k' + 1,used' + 1,swp l' i j,by first | rfl | rw [hw2],HF9⟩
    case measure => simp [intOf,hw2];have:=HI.out;omega
   ·have hk0:decide (1 ≤ iv) = false:=decide_eq_false hk
    have hk1:(1 ≤ iv) = False:=eq_false hk
    have HQ1:Hid (q - 1 = 0):=Lib.hid (by have:=HF.out.1;omega)
    have d0:wr.cell? ⟨g2,0,none⟩ = some (.slice A' n' c'):=(HF.out.2.P.at_ 0).trans rfl
    have d1:wr.cell? ⟨g2,1,none⟩ = some (.int .i64 used'):=(HF.out.2.P.at_ 1).trans rfl
    obtain ⟨w9,hst,hk9,hg9⟩:=HF.out.2.R.storeAll (ty:=78) [.slice A' n' c',.int .i64 used'] rfl (by rw [size_draws];rfl) (by simp [Value.oneCell'])
    have HST:=Lib.hid hst
    have HK9:=Lib.hid hk9
    have HE:Hid (RshEnd W A n c k used us nl l (.returned (.tuple #[.agg #[.slice A' n' c',.int .i64 used'],.slice A3 nl c3,.int .i64 0])) w9):=Lib.hid (by
     have h:=HF.out.2
     have hk2:=h.k
     have hu2:=h.u
     have he:=h.e
     rw [HQ1.out,Nat.add_zero] at hk2 hu2
     rw [HQ1.out] at he
     refine ⟨h.B.grown hg9 h.B.size (fun q hq => by injection hq with hq;have:=HG2.out;omega),.inr ⟨HLT.out,A',n',c',A3,c3,by rw [hu2],by rw [← hk2];exact h.D,?_⟩⟩
     rw [← he]
     exact (h.X.blk_ h.R hg9 (by decide)).more HB2.out.size)
    clear hk hst hk9 hg9
    go_wp2_with (first
     | (refine wpList_store_by HST.out rfl rfl rfl rfl ?_;simp only [Act.put,List.setIfInBounds_toArray,List.set_cons_succ,List.set_cons_zero])
     | fail)
    exact bodyPost_ret (v:=.tuple #[.agg #[.slice A' n' c',.int .i64 used'],.slice A3 nl c3,.int .i64 0]) (ret_cell3 (fn:=Tryz.f36) (p:=4) (q:=5) (r:=6) rfl rfl HK9.out Tryz.underlying78 rfl (by rw [size_draws];rfl)) rfl HE.out

theorem insI_mem (x y:Int) (l:List Int):y ∈ insI x l ↔ y = x ∨ y ∈ l:=by
 unfold insI
 have h:l = l.take (posI x l) ++ l.drop (posI x l):=(List.take_append_drop _ _).symm
 constructor
 ·intro h1
  rcases List.mem_append.1 h1 with h1 | h1
  ·rcases List.mem_append.1 h1 with h1 | h1
   ·exact .inr (List.mem_of_mem_take h1)
   ·exact .inl (List.mem_singleton.1 h1)
  ·exact .inr (List.mem_of_mem_drop h1)
 ·rintro (rfl | h1)
  ·simp
  ·rw [h] at h1
   rcases List.mem_append.1 h1 with h1 | h1
   ·exact List.mem_append_left _ (List.mem_append_left _ h1)
   ·exact List.mem_append_right _ h1
theorem rhS_mem (l:List Int) (y:Int):y ∈ rhS l ↔ y ∈ l:=by
 have:∀ (l out:List Int),y ∈ l.foldl (fun out x => insI x out) out ↔ y ∈ out ∨ y ∈ l:=by
  intro l
  induction l with
  | nil => intro out;simp
  | cons x l ih =>
   intro out
   rw [List.foldl_cons,ih,insI_mem,List.mem_cons]
   constructor
   ·rintro ((h | h) | h)
    ·exact .inr (.inl h)
    ·exact .inl h
    ·exact .inr (.inr h)
   ·rintro (h | h | h)
    ·exact .inl (.inr h)
    ·exact .inl (.inl h)
    ·exact .inr h
 have h:=this l []
 unfold rhS
 rw [h]
 simp
theorem ocs_card {l:List Ob} {i:Nat} {o:Ob} (hi:l[i]? = some o):(ocs l)[i * 12 + 1]? = some (.int .i64 o.card):=by
 induction l generalizing i with
 | nil => simp at hi
 | cons p l ih =>
  cases i with
  | zero =>
   simp at hi
   subst hi
   rfl
  | succ i =>
   have h:=ih (i:=i) (by simpa using hi)
   unfold ocs at h ⊢
   rw [List.flatMap_cons,List.getElem?_append_right (by simp [Ob.cells];omega),← h]
   congr 1
   simp [Ob.cells]
   omega
set_option maxRecDepth 100000 in
set_option maxHeartbeats 3200000 in
theorem rmx_r25 (W:World) (gO g q gB i n c n9 c9 B:Nat) (BC:Array Value) (x:Int) (l:List Ob) (o:Ob) (hP:Blk W gO 33 BC) (hC:CellK W g q (.int .i64 x)) (hO:XOwns W B 46 12 (some ⟨gB,0,none⟩) n c (ocs l)) (hc0:BC[0]? = some (.slice (some ⟨gB,0,none⟩) n c)) (hi:l[i]? = some o) (hin:i < n) (hgb:g ≠ gB) (hn9:0 < n9) (Q:Exit → Act → World → Prop) (t0 t1 t2 t3 t4 t5 t6 t7 t8 t9 t11 t12 t13 t14 t15 t17 t19 t20 t21 t22 t23 t24 t25 t26 t27 t28 t29 t30 t31 t32 t33 t34 t35 t36 t37 t38 t39 t40 t41 t42 t43 t44 t45 t46 t47 t48 t49 t50 t51 t52 t53 t54 t55 t56 t57 t58 t59 t60 t61 t62 t63 t64 t65 t66 t67 t68 t69 t70 t71 t72 t73 t74 t75 t76 t77 t78 t79 t80 t81 t82 t83 t84 t85 t86 t87 t88 t89 t90 t91 t92 t93 t94 t95 t96 t97 t98 t99 t100 t101 t102 t103 t104 t105 t106 t107 t108 t109 t110 t111 t112 t113 t114 t115 t116:Value)
  (hQ:∀ d v c a w,Q (.panic c) (Act.put a d v) w → Q (.panic c) a w)
  (hK:∀ (u106 u107 u108 u109 u110 u111 u112 u113:Value)  (W9:World),XOwns W9 B 46 12 (some ⟨gB,0,none⟩) n c (ocs (l.set i { o with card:=x })) ∧ W.grownBy W9 (some gB) → Q .normal ⟨#[t0,t1,t2,t3,t4,t5,t6,t7,t8,t9,.pointer (some ⟨gO,0,none⟩),t11,t12,t13,t14,t15,.slice (some ⟨g,q,none⟩) n9 c9,t17,.int .i64 i,t19,t20,t21,t22,t23,t24,t25,t26,t27,t28,t29,t30,t31,t32,t33,t34,t35,t36,t37,t38,t39,t40,t41,t42,t43,t44,t45,t46,t47,t48,t49,t50,t51,t52,t53,t54,t55,t56,t57,t58,t59,t60,t61,t62,t63,t64,t65,t66,t67,t68,t69,t70,t71,t72,t73,t74,t75,t76,t77,t78,t79,t80,t81,t82,t83,t84,t85,t86,t87,t88,t89,t90,t91,t92,t93,t94,t95,t96,t97,t98,t99,t100,t101,t102,t103,t104,t105,u106,u107,u108,u109,u110,u111,u112,u113,t114,t115,t116],[]⟩ W9) :
  Code.wp Tryz.prog (regOf Tryz.f12 25) Q ⟨#[t0,t1,t2,t3,t4,t5,t6,t7,t8,t9,.pointer (some ⟨gO,0,none⟩),t11,t12,t13,t14,t15,.slice (some ⟨g,q,none⟩) n9 c9,t17,.int .i64 i,t19,t20,t21,t22,t23,t24,t25,t26,t27,t28,t29,t30,t31,t32,t33,t34,t35,t36,t37,t38,t39,t40,t41,t42,t43,t44,t45,t46,t47,t48,t49,t50,t51,t52,t53,t54,t55,t56,t57,t58,t59,t60,t61,t62,t63,t64,t65,t66,t67,t68,t69,t70,t71,t72,t73,t74,t75,t76,t77,t78,t79,t80,t81,t82,t83,t84,t85,t86,t87,t88,t89,t90,t91,t92,t93,t94,t95,t96,t97,t98,t99,t100,t101,t102,t103,t104,t105,t106,t107,t108,t109,t110,t111,t112,t113,t114,t115,t116],[]⟩ W:=by
 have HKK:=Lib.hid hK
 clear hK
 conv => arg 2;whnf
 have HP:=Lib.hid (And.intro hP hC)
 have HO:=Lib.hid hO
 have HQ:=Lib.hid hQ
 have HI:=Lib.hid hi
 have HGB:=Lib.hid hgb
 have hin':(i:Int) < n:=by omega
 have hn0:(0:Int) < n9:=by omega
 have hne_:Nonempty (In (fun W' => Blk W' gO 33 BC ∧ CellK W' g q (.int .i64 x))):=⟨⟨W,hP,hC⟩⟩
 have x0:∀ s:In (fun W' => Blk W' gO 33 BC ∧ CellK W' g q (.int .i64 x)),s.W.cell? ⟨gO,0,none⟩ = some (.slice (some ⟨gB,0,none⟩) n c):=fun s => (s.h.1.at_ 0).trans hc0
 have x1:∀ s:In (fun W' => Blk W' gO 33 BC ∧ CellK W' g q (.int .i64 x)),s.W.cell? ⟨g,q,none⟩ = some (.int .i64 x):=fun s => s.h.2.c
 clear hP hC hO hQ hi hgb
 refine wp_region_sched (fun w' => ∃ s:In (fun W' => Blk W' gO 33 BC ∧ CellK W' g q (.int .i64 x)),w' = s.W) [0,1,2,3,4,5,6,7] (.one 8 [] .done) (by kernel_rfl) (by kernel_rfl) HQ.out ⟨⟨_,⟨HP.out.1.drew,HP.out.2.drew⟩⟩,rfl⟩ ?_
 refine quiet_as (C':=(fun w' => ∃ s:In (fun W' => Blk W' gO 33 BC ∧ CellK W' g q (.int .i64 x)),w' = s.W)) rfl ?_
 simp only [opsAt,List.getElem?_toArray,List.getElem?_cons_succ,List.getElem?_cons_zero]
 repeat (go_big_quiet_step (fail))
 refine wpQuiet_nil ?_
 obtain ⟨W_d,hwd⟩:∃ v,W.drew = v:=⟨_,rfl⟩
 have HBW_1:Hid (Below W.heap.size W W_d):=Lib.hid (by rw [← hwd];exact (Below.refl _ _).drew)
 have HBR_1:Hid (Below W.heap.size W W_d):=Lib.hid (by rw [← hwd];exact (Below.refl _ _).drew)
 have P_1:=Lib.hid ((HP.out.1).call (show Below W.heap.size W W_d by rw [← hwd];exact (Below.refl _ _).drew))
 have CK_1:=Lib.hid ((HP.out.2).call (show Below W.heap.size W W_d by rw [← hwd];exact (Below.refl _ _).drew))
 have FO_1:=Lib.hid ((HO.out).below (show Below W.heap.size W W_d by rw [← hwd];exact (Below.refl _ _).drew))
 rw [hwd]
 clear hwd
 refine eff_as (C':=(fun w' => ∃ s:In (fun W' => Blk W' gO 33 BC ∧ CellK W' g q (.int .i64 x)),w' = s.W)) rfl ?_
 (refine eff_lit rfl rfl (fun K hK => ?_))
 obtain ⟨gx,ex,hgx,l9,q9,f9⟩:=FO_1.out.cell (j:=i * 12 + 1) (u:=.int .i64 o.card) (ocs_card HI.out)
 injection ex with ex
 injection ex with ex
 subst ex
 go_big_op
 obtain ⟨W_2,hv9⟩:∃ v,W_d.setCell ⟨gB,i * 12 + 1,none⟩ (.int .i64 x) = v:=⟨_,rfl⟩
 have hg9:W_d.grownBy W_2 (some gB):=by rw [← hv9];exact only_setCell (only_refl _ _) (.inl rfl) _
 have hx9:=FO_1.out.setX (i * 12 + 1) (.int .i64 x)
 rw [ocs_set HI.out,hv9] at hx9
 rw [hv9]
 clear q9 f9 hv9 hgx
 have HX9:=Lib.hid hx9
 have HG9:=Lib.hid (show W.grownBy W_2 (some gB) from only_trans_ (grownBy_below_ HBR_1.out) hg9)
 have HM9:Hid (Blk W_2 gO 33 BC ∧ CellK W_2 g q (.int .i64 x)):=Lib.hid ⟨P_1.out.grown hg9 (fun e => FO_1.out.apart_blk P_1.out (by decide) e.symm),CK_1.out.grown hg9 HGB.out⟩
 clear hx9 hg9 l9
 refine hK _ _ ⟨⟨_,HM9.out⟩,rfl⟩ ?_
 clear hK K
 try simp only [opsAt,List.getElem?_toArray,List.getElem?_cons_succ,List.getElem?_cons_zero]
 refine wpQuiet_nil ?_
 refine effs_done ?_
 exact HKK.out _ _ _ _ _ _ _ _ _ ⟨HX9.out,HG9.out⟩

end Go.Proofs.YtagpphelgghbpaaGreat
