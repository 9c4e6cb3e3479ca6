/-
  Texts: Opw, Roa, Rob, Rca.
-/
import Derived.Test.YtagpphelgghbpaaGreatMk44
import Derived.Test.YtagpphelgghbpaaGreatMk15
import Derived.Test.YtagpphelgghbpaaGreatMk36
import Derived.Test.YtagpphelgghbpaaGreatMk22
import Derived.Deep.QuietTactic
import Derived.BigQuiet
import Derived.Test.YtagpphelgghbpaaGreatMk29
set_option linter.unusedSimpArgs false
set_option linter.unusedVariables false
namespace Go.Proofs.YtagpphelgghbpaaGreat
open Go.Joins Go.ChangeShapes Go.WideShapes Go.ChangeAt Go.RowKit Go.Deep

section
variable {H:Type} {enc:TypeId × Value → H} {W:World} {base:Nat} {spare:Nat → Bool} {held:Bool}
theorem open_rows_w {P:Program} {t e:TypeId} {k:Nat} {α:Type} (cells:α → List Value) (Good:α → Prop) (ht:P.underlying t = some (.slice e)) (hk:P.cellsOf e = k) (hk0:0 < k) (hl:∀ r,(cells r).length = k)
  (dec:∀ fuel cs (x:DataW H × List MemPlace),DataW.trod enc P W base spare held fuel e cs = some x → Wt P e x.1 → ∃ r:α,cs = cells r ∧ Good r)
  {fuel:Nat} {cs:List Value} {x:DataW H × List MemPlace} (h:DataW.trod enc P W base spare held fuel t cs = some x) (hwt:Wt P t x.1) :
  ∃ (a:Option Addr) (len cap:Nat) (l:List α),cs = [.slice a len cap] ∧ RowR W k a len (l.map cells) ∧ (∀ r ∈ l,Good r) ∧ len ≤ cap ∧ (a = none → cap = 0) ∧ cap ≤ maxLen:=by
 rcases open_slice ht h with ⟨hcs,_⟩ | ⟨b,l,c,m,n,D,Pl,hcs,_,hlc,hm,hmm,hxx,hi⟩
 ·exact ⟨none,0,0,[],hcs,RowR.nil _ _,(fun _ h => by cases h),Nat.le_refl _,fun _ => rfl,Nat.zero_le _⟩
 ·have hlm:l ≤ m:=by rw [hmm];split <;> omega
  have hall:∀ i,i < l → ∃ r:α,(∀ j u,(cells r)[j]? = some u → W.cell? (b.add (i * k + j)) = some u) ∧ Good r:=by
   intro i hil
   obtain ⟨cs',hc,htr⟩:=hi i (by omega)
   rw [hk] at hc
   obtain ⟨r,hr,hg⟩:=dec _ _ _ htr (fun q hq => hwt q (by
    rw [hxx]
    unfold DataW.weights
    rw [ht]
    exact List.mem_cons_of_mem _ (List.mem_append_left _ (weights_all (j:=i) _ (by rw [List.getElem?_map,List.getElem?_range hil];rfl) q hq))))
   obtain ⟨_,hcl,hat⟩:=World.cells?_some hc
   refine ⟨r,fun j u hu => ?_,hg⟩
   have hjk:j < k:=by
    rcases Nat.lt_or_ge j k with h' | h'
    ·exact h'
    ·rw [List.getElem?_eq_none (by rw [hl];exact h')] at hu;cases hu
   have:=hat j hjk
   rw [add_of_add] at this
   rw [this,hr]
   exact hu
  obtain ⟨rs,h1,h2⟩:=rows_of l hall
  refine ⟨some b,l,c,rs,hcs,⟨⟨?_,fun hn => ⟨b,rfl,?_,fun j u hu => ?_⟩⟩,?_,by rw [List.length_map,h1]⟩,fun r hr => ?_,hlc,(fun h => by cases h),hm⟩
  ·rw [List.length_flatten,List.map_map]
   have:(rs.map (List.length ∘ cells)) = List.replicate rs.length k:=by
    rw [List.eq_replicate_iff]
    refine ⟨by simp,fun q hq => ?_⟩
    obtain ⟨r,_,rfl⟩:=List.mem_map.1 hq
    exact hl r
   rw [this,List.sum_replicate_nat,h1]
  ·have h0:rs[0]? = some (rs[0]'(by omega)):=List.getElem?_eq_getElem (by omega)
   have hc0:(cells (rs[0]'(by omega)))[0]? = some ((cells (rs[0]'(by omega)))[0]'(by rw [hl];exact hk0)):=List.getElem?_eq_getElem _
   have:=(h2 0 _ h0).1 0 _ hc0
   have:=lt_of_cell this
   rwa [block_of_add] at this
  ·have hsum:((rs.map cells).flatten).length = l * k:=by
    rw [List.length_flatten,List.map_map]
    have:(rs.map (List.length ∘ cells)) = List.replicate rs.length k:=by
     rw [List.eq_replicate_iff]
     refine ⟨by simp,fun q hq => ?_⟩
     obtain ⟨r,_,rfl⟩:=List.mem_map.1 hq
     exact hl r
    rw [this,List.sum_replicate_nat,h1]
   have hj:j < l * k:=by
    rcases Nat.lt_or_ge j (l * k) with h' | h'
    ·exact h'
    ·rw [List.getElem?_eq_none (by rw [hsum];exact h')] at hu;cases hu
   have hjk:j / k < l:=Nat.div_lt_of_lt_mul (by rw [Nat.mul_comm];exact hj)
   have hg:rs[j / k]? = some (rs[j / k]'(by omega)):=List.getElem?_eq_getElem (by omega)
   have hx:=flatten_at (size:=k) (rs.map cells) (fun r hr => by obtain ⟨q,_,rfl⟩:=List.mem_map.1 hr;exact hl q) (j / k) _ (by rw [List.getElem?_map,hg];rfl) (j % k) (Nat.mod_lt _ hk0)
   have hjj:j / k * k + j % k = j:=by rw [Nat.mul_comm];exact Nat.div_add_mod j k
   rw [hjj,hu] at hx
   have:=(h2 _ _ hg).1 (j % k) u hx.symm
   rwa [hjj] at this
  ·intro r hr
   obtain ⟨q,_,rfl⟩:=List.mem_map.1 hr
   exact hl q
  ·obtain ⟨i,hi1,hi2⟩:=List.getElem_of_mem hr
   exact (h2 i r (by rw [List.getElem?_eq_getElem hi1,hi2])).2
theorem bytes_obj:Tryz.prog.bytesOf 46 = 80:=by kernel_rfl
theorem bytes_blk:Tryz.prog.bytesOf 84 = 16:=by kernel_rfl
theorem bytes_tgt:Tryz.prog.bytesOf 124 = 16:=by kernel_rfl
structure BdB (b:Bd):Prop where
 O:b.objs.length * 80 ≤ 140737488351232
 l:∀ q,q < 9 → (b.li q).length ≤ 17592186044416
 S:b.stk.length * 56 ≤ 140737488351232
 Q:b.que.length * 56 ≤ 140737488351232
 K:b.blk.length * 16 ≤ 140737488351232
 ST:∀ x ∈ b.stk,x.tgs.length * 16 ≤ 140737488351232
 QT:∀ x ∈ b.que,x.tgs.length * 16 ≤ 140737488351232
def ItGw (W:World) (p:It × Sl):Prop:=ItG W p ∧ p.1.tgs.length * 16 ≤ 140737488351232
theorem open_it_w {fuel:Nat} {cs:List Value} {x:DataW H × List MemPlace} (h:DataW.trod enc Tryz.prog W base spare held fuel 55 cs = some x) (hw:Wt Tryz.prog 55 x.1):∃ p:It × Sl,cs = p.1.cells p.2 ∧ ItGw W p:=by
 obtain ⟨hl0,hf0⟩:=field_w Tryz.underlying55 h hw
 obtain ⟨z4,zn,zt,zw⟩:=hf0 4 4 1 53 ⟨_,rfl,rfl,rfl⟩ cells_tgts
 obtain ⟨hl,hf⟩:=row_cells Tryz.underlying55 (by kernel_rfl) (by kernel_rfl) h
 obtain ⟨v0,y0,n0,c0,t0⟩:=hf 0 _ rfl
 obtain ⟨k0,e0,w0⟩:=open_intc t0
 obtain ⟨v1,y1,n1,c1,t1⟩:=hf 1 _ rfl
 obtain ⟨k1,e1,w1⟩:=open_intc t1
 obtain ⟨v2,y2,n2,c2,t2⟩:=hf 2 _ rfl
 obtain ⟨k2,e2,w2⟩:=open_intc t2
 obtain ⟨v3,y3,n3,c3,t3⟩:=hf 3 _ rfl
 obtain ⟨k3,e3,w3⟩:=open_intc t3
 obtain ⟨v4,y4,n4,c4,t4⟩:=hf 4 _ rfl
 obtain ⟨a,len,cap,l,e4,hr,_,hlc,ha,hc⟩:=open_rows (k:=2) Tg.cells (fun _ => True) Tryz.underlying53 (by kernel_rfl) (by decide) (fun _ => rfl) (fun _ _ _ h => open_tg h) t4
 have hzz:(cs.drop 4).take 1 = [Value.slice a len cap]:=by
  have h5:cs.length = 5:=hl
  rw [← e4]
  match cs,h5,c4 with
  | [a0,a1,a2,a3,a4],_,c4 =>
   simp at c4
   simp [c4]
 rw [hzz] at zt
 have hsb:=slice_w Tryz.underlying53 zt zw
 rw [bytes_tgt] at hsb
 unfold reachBytes at hsb
 simp only [List.cons.injEq,and_true] at e0 e1 e2 e3 e4
 subst e0 e1 e2 e3 e4
 have hll:l.length = len:=by simpa using hr.2.2
 have hrr:=hr.1
 rw [flat_map] at hrr
 rw [ml] at hc
 refine ⟨(⟨k0,k1,k2,k3,l⟩,⟨a,cap⟩),?_,⟨⟨w0,w1,w2,w3⟩,?_,⟨?_,ha,hc⟩⟩,by show l.length * 16 ≤ _;rw [hll];exact hsb⟩
 ·have hl2:cs.length = 5:=hl
  match cs,hl2,c0,c1,c2,c3,c4 with
  | [a0,a1,a2,a3,a4],_,c0,c1,c2,c3,c4 =>
   simp at c0 c1 c2 c3 c4
   subst c0 c1 c2 c3 c4
   show _ = [_,_,_,_,Sl.v _ _]
   unfold Sl.v
   rw [hll]
 ·show Reads W 2 a l.length (l.flatMap Tg.cells)
  rw [hll]
  exact hrr
 ·show l.length ≤ cap
  rw [hll]
  exact hlc
theorem open_its_w {fuel:Nat} {cs:List Value} {x:DataW H × List MemPlace} (h:DataW.trod enc Tryz.prog W base spare held fuel 29 cs = some x) (hw:Wt Tryz.prog 29 x.1):∃ (s:Sl) (l:List It) (ts:List Sl),cs = [s.v l.length] ∧ IsR W s l ts ∧ (∀ x ∈ l,wfX x) ∧ l.length * 56 ≤ 140737488351232 ∧ ∀ x ∈ l,x.tgs.length * 16 ≤ 140737488351232:=by
 obtain ⟨a,len,cap,l,e,hr,hg,hlc,ha,hc⟩:=open_rows_w (k:=5) (fun p:It × Sl => p.1.cells p.2) (ItGw W) Tryz.underlying29 (by kernel_rfl) (by decide) (fun _ => rfl) (fun _ _ _ h hw => open_it_w h hw) h hw
 subst e
 have hs:=slice_w Tryz.underlying29 h hw
 rw [bytes_item] at hs
 have hll:l.length = len:=by simpa using hr.2.2
 have hrr:=hr.1
 rw [flat_map] at hrr
 unfold reachBytes at hs
 rw [ml] at hc
 refine ⟨⟨a,cap⟩,l.map (·.1),l.map (·.2),by rw [List.length_map,hll];rfl,⟨by simp,by rw [List.length_map,zip_self,hll];exact hrr,⟨by rw [List.length_map,hll];exact hlc,ha,hc⟩,fun i x t h1 h2 => ?_⟩,fun x hx => ?_,by rw [List.length_map];omega,fun x hx => ?_⟩
 ·rw [List.getElem?_map] at h1 h2
  cases hi:l[i]? with
  | none => rw [hi] at h1;cases h1
  | some p =>
   rw [hi] at h1 h2
   simp at h1 h2
   subst h1 h2
   exact (hg p (List.mem_of_getElem? hi)).1.2
 ·obtain ⟨p,hp,rfl⟩:=List.mem_map.1 hx
  exact (hg p hp).1.1
 ·obtain ⟨p,hp,rfl⟩:=List.mem_map.1 hx
  exact (hg p hp).2
theorem open_obs_w {fuel:Nat} {cs:List Value} {x:DataW H × List MemPlace} (h:DataW.trod enc Tryz.prog W base spare held fuel 22 cs = some x) (hw:Wt Tryz.prog 22 x.1):∃ (s:Sl) (l:List Ob),cs = [s.v l.length] ∧ Reads W 12 s.A l.length (l.flatMap Ob.cells) ∧ s.ok l.length ∧ (∀ r ∈ l,wfO r) ∧ l.length * 80 ≤ 140737488351232:=by
 obtain ⟨a,len,cap,l,e,hr,hg,hlc,ha,hc⟩:=open_rows (k:=12) Ob.cells wfO Tryz.underlying22 (by kernel_rfl) (by decide) (fun _ => rfl) (fun _ _ _ h => open_ob h) h
 subst e
 have hs:=slice_w Tryz.underlying22 h hw
 rw [bytes_obj] at hs
 unfold reachBytes at hs
 have hll:l.length = len:=by simpa using hr.2.2
 have hrr:=hr.1
 rw [flat_map] at hrr
 rw [ml] at hc
 exact ⟨⟨a,cap⟩,l,by rw [hll];rfl,by rw [hll];exact hrr,⟨by rw [hll];exact hlc,ha,hc⟩,hg,by rw [hll];exact hs⟩
theorem open_bks_w {fuel:Nat} {cs:List Value} {x:DataW H × List MemPlace} (h:DataW.trod enc Tryz.prog W base spare held fuel 30 cs = some x) (hw:Wt Tryz.prog 30 x.1):∃ (s:Sl) (l:List Bk),cs = [s.v l.length] ∧ Reads W 2 s.A l.length (l.flatMap Bk.cells) ∧ s.ok l.length ∧ (∀ r ∈ l,(fun r:Bk => wfI r.a ∧ wfI r.b) r) ∧ l.length * 16 ≤ 140737488351232:=by
 obtain ⟨a,len,cap,l,e,hr,hg,hlc,ha,hc⟩:=open_rows (k:=2) Bk.cells (fun r:Bk => wfI r.a ∧ wfI r.b) Tryz.underlying30 (by kernel_rfl) (by decide) (fun _ => rfl) (fun _ _ _ h => open_bk h) h
 subst e
 have hs:=slice_w Tryz.underlying30 h hw
 rw [bytes_blk] at hs
 unfold reachBytes at hs
 have hll:l.length = len:=by simpa using hr.2.2
 have hrr:=hr.1
 rw [flat_map] at hrr
 rw [ml] at hc
 exact ⟨⟨a,cap⟩,l,by rw [hll];rfl,by rw [hll];exact hrr,⟨by rw [hll];exact hlc,ha,hc⟩,hg,by rw [hll];exact hs⟩
theorem open_seat_w {fuel:Nat} {cs:List Value} {x:DataW H × List MemPlace} (h:DataW.trod enc Tryz.prog W base spare held fuel 27 cs = some x) (hw:Wt Tryz.prog 27 x.1):∃ (s:Se) (m:SeM),cs = s.cells m ∧ SeR W s m ∧ s.ids.length ≤ 70368744177664 ∧ s.lib.length ≤ 17592186044416 ∧ s.hand.length ≤ 17592186044416 ∧ s.fld.length ≤ 17592186044416 ∧ s.grv.length ≤ 17592186044416:=by
 obtain ⟨hl,hf⟩:=field_w Tryz.underlying27 h hw
 have hl14:cs.length = 14:=hl.trans cells_seat
 obtain ⟨y0,n0,t0,z0⟩:=hf 0 0 1 3 ⟨_,rfl,rfl,rfl⟩ cells_int
 obtain ⟨k0,e0,_⟩:=open_intc t0
 obtain ⟨y1,n1,t1,z1⟩:=hf 1 1 4 24 ⟨_,rfl,rfl,rfl⟩ cells_pl
 obtain ⟨p0,p1,p2,p3,e1⟩:=open_pool t1 z1
 obtain ⟨y2,n2,t2,z2⟩:=hf 2 5 1 25 ⟨_,rfl,rfl,rfl⟩ cells_ints
 obtain ⟨s2,l2,e2,r2,b2⟩:=open_li t2 z2
 obtain ⟨y3,n3,t3,z3⟩:=hf 3 6 1 25 ⟨_,rfl,rfl,rfl⟩ cells_ints
 obtain ⟨s3,l3,e3,r3,b3⟩:=open_li t3 z3
 obtain ⟨y4,n4,t4,z4⟩:=hf 4 7 1 25 ⟨_,rfl,rfl,rfl⟩ cells_ints
 obtain ⟨s4,l4,e4,r4,b4⟩:=open_li t4 z4
 obtain ⟨y5,n5,t5,z5⟩:=hf 5 8 1 25 ⟨_,rfl,rfl,rfl⟩ cells_ints
 obtain ⟨s5,l5,e5,r5,b5⟩:=open_li t5 z5
 obtain ⟨y6,n6,t6,z6⟩:=hf 6 9 1 4 ⟨_,rfl,rfl,rfl⟩ cells_bool
 obtain ⟨k6,e6⟩:=open_boolc t6
 obtain ⟨y7,n7,t7,z7⟩:=hf 7 10 1 4 ⟨_,rfl,rfl,rfl⟩ cells_bool
 obtain ⟨k7,e7⟩:=open_boolc t7
 obtain ⟨y8,n8,t8,z8⟩:=hf 8 11 1 4 ⟨_,rfl,rfl,rfl⟩ cells_bool
 obtain ⟨k8,e8⟩:=open_boolc t8
 obtain ⟨y9,n9,t9,z9⟩:=hf 9 12 1 3 ⟨_,rfl,rfl,rfl⟩ cells_int
 obtain ⟨k9,e9,_⟩:=open_intc t9
 obtain ⟨y10,n10,t10,z10⟩:=hf 10 13 1 3 ⟨_,rfl,rfl,rfl⟩ cells_int
 obtain ⟨k10,e10,_⟩:=open_intc t10
 have key:=((drop_seg cs 0 1 1 rfl).trans (congrArg ((cs.drop 0).take 1 ++ ·) ((drop_seg cs 1 4 5 rfl).trans (congrArg ((cs.drop 1).take 4 ++ ·) ((drop_seg cs 5 1 6 rfl).trans (congrArg ((cs.drop 5).take 1 ++ ·) ((drop_seg cs 6 1 7 rfl).trans (congrArg ((cs.drop 6).take 1 ++ ·) ((drop_seg cs 7 1 8 rfl).trans (congrArg ((cs.drop 7).take 1 ++ ·) ((drop_seg cs 8 1 9 rfl).trans (congrArg ((cs.drop 8).take 1 ++ ·) ((drop_seg cs 9 1 10 rfl).trans (congrArg ((cs.drop 9).take 1 ++ ·) ((drop_seg cs 10 1 11 rfl).trans (congrArg ((cs.drop 10).take 1 ++ ·) ((drop_seg cs 11 1 12 rfl).trans (congrArg ((cs.drop 11).take 1 ++ ·) ((drop_seg cs 12 1 13 rfl).trans (congrArg ((cs.drop 12).take 1 ++ ·) ((drop_seg cs 13 1 14 rfl).trans (congrArg ((cs.drop 13).take 1 ++ ·) (List.drop_eq_nil_of_le (Nat.le_of_eq hl14):cs.drop 14 = [])))))))))))))))))))))))
 rw [e0,e1,e2,e3,e4,e5,e6,e7,e8,e9,e10,List.drop_zero] at key
 refine ⟨⟨k0,p0,p1,p2,p3,l2,l3,l4,l5,k6,k7,k8,k9,k10⟩,⟨s2,s3,s4,s5⟩,key,⟨r2,r3,r4,r5⟩,?_,b2,b3,b4,b5⟩
 simp only [Se.ids,List.length_append]
 omega
theorem open_seats_w {fuel:Nat} {cs:List Value} {x:DataW H × List MemPlace} (h:DataW.trod enc Tryz.prog W base spare held fuel 28 cs = some x) (hw:Wt Tryz.prog 28 x.1):∃ (s:Se) (m:SeM) (s':Se) (m':SeM),cs = s.cells m ++ s'.cells m' ∧ SeR W s m ∧ SeR W s' m' ∧ s.ids.length ≤ 70368744177664 ∧ s'.ids.length ≤ 70368744177664 ∧ (s.lib.length ≤ 17592186044416 ∧ s.hand.length ≤ 17592186044416 ∧ s.fld.length ≤ 17592186044416 ∧ s.grv.length ≤ 17592186044416) ∧ (s'.lib.length ≤ 17592186044416 ∧ s'.hand.length ≤ 17592186044416 ∧ s'.fld.length ≤ 17592186044416 ∧ s'.grv.length ≤ 17592186044416):=by
 obtain ⟨hl,hf⟩:=elem_w Tryz.underlying28 h hw
 have hl28:cs.length = 28:=hl.trans cells_seats
 obtain ⟨y0,n0,t0,z0⟩:=hf 0 0 14 (by decide) cells_seat rfl
 obtain ⟨s,m,e0,r0,b0,d0⟩:=open_seat_w t0 z0
 obtain ⟨y1,n1,t1,z1⟩:=hf 1 14 14 (by decide) cells_seat rfl
 obtain ⟨s',m',e1,r1,b1,d1⟩:=open_seat_w t1 z1
 have key:=((drop_seg cs 0 14 14 rfl).trans (congrArg ((cs.drop 0).take 14 ++ ·) ((drop_seg cs 14 14 28 rfl).trans (congrArg ((cs.drop 14).take 14 ++ ·) (List.drop_eq_nil_of_le (Nat.le_of_eq hl28):cs.drop 28 = [])))))
 rw [e0,e1,List.drop_zero,List.append_nil] at key
 exact ⟨s,m,s',m',key,r0,r1,b0,b1,d0,d1⟩
set_option maxRecDepth 100000 in
theorem open_board_cells_w {fuel:Nat} {cs:List Value} {x:DataW H × List MemPlace} (h:DataW.trod enc Tryz.prog W base spare held fuel 33 cs = some x) (hw:Wt Tryz.prog 33 x.1):∃ (b:Bd) (m:BdM),cs = b.cells m ∧ BdR W b m ∧ b.plc.length < 9223372036854775807 ∧ BdB b:=by
 obtain ⟨hl,hf⟩:=field_w Tryz.underlying33 h hw
 have hl38:cs.length = 38:=hl.trans (by kernel_rfl)
 obtain ⟨y0,n0,t0,z0⟩:=hf 0 0 1 22 ⟨_,rfl,rfl,rfl⟩ cells_objs
 obtain ⟨s0,l0,e0,r0,o0,g0,b0⟩:=open_obs_w t0 z0
 obtain ⟨y1,n1,t1,z1⟩:=hf 1 1 28 28 ⟨_,rfl,rfl,rfl⟩ cells_seats
 obtain ⟨sa,ma,sb,mb,e1,ra,rb,ba,bb,da,db⟩:=open_seats_w t1 z1
 obtain ⟨y2,n2,t2,z2⟩:=hf 2 29 1 29 ⟨_,rfl,rfl,rfl⟩ cells_itms
 obtain ⟨s2,l2,ts2,e2,r2,g2,b2,c2⟩:=open_its_w t2 z2
 obtain ⟨y3,n3,t3,z3⟩:=hf 3 30 1 29 ⟨_,rfl,rfl,rfl⟩ cells_itms
 obtain ⟨s3,l3,ts3,e3,r3,g3,b3,c3⟩:=open_its_w t3 z3
 obtain ⟨y4,n4,t4,z4⟩:=hf 4 31 1 25 ⟨_,rfl,rfl,rfl⟩ cells_ints
 obtain ⟨s4,l4,e4,r4,b4⟩:=open_li t4 z4
 obtain ⟨y5,n5,t5,z5⟩:=hf 5 32 1 30 ⟨_,rfl,rfl,rfl⟩ cells_blks
 obtain ⟨s5,l5,e5,r5,o5,g5,b5⟩:=open_bks_w t5 z5
 obtain ⟨y6,n6,t6,z6⟩:=hf 6 33 1 3 ⟨_,rfl,rfl,rfl⟩ cells_int
 obtain ⟨k6,e6,_⟩:=open_intc t6
 obtain ⟨y7,n7,t7,z7⟩:=hf 7 34 1 3 ⟨_,rfl,rfl,rfl⟩ cells_int
 obtain ⟨k7,e7,_⟩:=open_intc t7
 obtain ⟨y8,n8,t8,z8⟩:=hf 8 35 1 31 ⟨_,rfl,rfl,rfl⟩ cells_phase
 obtain ⟨k8,e8⟩:=open_phase t8
 obtain ⟨y9,n9,t9,z9⟩:=hf 9 36 1 3 ⟨_,rfl,rfl,rfl⟩ cells_int
 obtain ⟨k9,e9,_⟩:=open_intc t9
 obtain ⟨y10,n10,t10,z10⟩:=hf 10 37 1 3 ⟨_,rfl,rfl,rfl⟩ cells_int
 obtain ⟨k10,e10,_⟩:=open_intc t10
 have key:=((drop_seg cs 0 1 1 rfl).trans (congrArg ((cs.drop 0).take 1 ++ ·) ((drop_seg cs 1 28 29 rfl).trans (congrArg ((cs.drop 1).take 28 ++ ·) ((drop_seg cs 29 1 30 rfl).trans (congrArg ((cs.drop 29).take 1 ++ ·) ((drop_seg cs 30 1 31 rfl).trans (congrArg ((cs.drop 30).take 1 ++ ·) ((drop_seg cs 31 1 32 rfl).trans (congrArg ((cs.drop 31).take 1 ++ ·) ((drop_seg cs 32 1 33 rfl).trans (congrArg ((cs.drop 32).take 1 ++ ·) ((drop_seg cs 33 1 34 rfl).trans (congrArg ((cs.drop 33).take 1 ++ ·) ((drop_seg cs 34 1 35 rfl).trans (congrArg ((cs.drop 34).take 1 ++ ·) ((drop_seg cs 35 1 36 rfl).trans (congrArg ((cs.drop 35).take 1 ++ ·) ((drop_seg cs 36 1 37 rfl).trans (congrArg ((cs.drop 36).take 1 ++ ·) ((drop_seg cs 37 1 38 rfl).trans (congrArg ((cs.drop 37).take 1 ++ ·) (List.drop_eq_nil_of_le (Nat.le_of_eq hl38):cs.drop 38 = [])))))))))))))))))))))))
 rw [e0,e1,e2,e3,e4,e5,e6,e7,e8,e9,e10,List.drop_zero] at key
 refine ⟨⟨l0,sa,sb,l2,l3,l4,l5,k6,k7,k8,k9,k10⟩,⟨s0,ma,mb,s2,s3,ts2,ts3,s4,s5⟩,?_,⟨r0,o0,g0,ra,rb,r2,g2,r3,g3,r4,r5,o5,g5⟩,?_,?_⟩
 ·exact key
 ·have hst:(l2.filter fun x => decide (x.trg < 0)).length ≤ l2.length:=List.length_filter_le _ _
  simp only [Bd.plc,onStk,List.length_append,List.length_map]
  omega
 ·refine ⟨b0,fun q hq => ?_,b2,b3,b5,c2,c3⟩
  rcases (show q = 0 ∨ q = 1 ∨ q = 2 ∨ q = 3 ∨ q = 4 ∨ q = 5 ∨ q = 6 ∨ q = 7 ∨ q = 8 by omega) with rfl | rfl | rfl | rfl | rfl | rfl | rfl | rfl | rfl
  ·exact da.1
  ·exact da.2.1
  ·exact da.2.2.1
  ·exact da.2.2.2
  ·exact db.1
  ·exact db.2.1
  ·exact db.2.2.1
  ·exact db.2.2.2
  ·exact b4
set_option maxRecDepth 100000 in
theorem open_board_w {r:Reach} {b0:Nat} {v:Value} {d:DataW H} {p:List MemPlace} (hv:Value.okWide Tryz.prog W r b0 33 v) (h:DataW.Trod enc Tryz.prog W base spare held 33 v d p) (hw:Wt Tryz.prog 33 d):∃ (b:Bd) (m:BdM),v = .agg (b.cells m).toArray ∧ BdR W b m ∧ b.plc.length < 9223372036854775807 ∧ BdB b:=by
 obtain ⟨cs,rfl,hsz⟩:=okWide_struct Tryz.underlying33 hv
 obtain ⟨fuel,hf0⟩:=h
 obtain ⟨b,m,e,hR,hz⟩:=open_board_cells_w hf0 hw
 refine ⟨b,m,?_,hR,hz⟩
 have hcs:cs = ((Value.agg cs).cells.toList).toArray:=by simp [Value.cells]
 rw [hcs,e]
end
end Go.Proofs.YtagpphelgghbpaaGreat

set_option linter.unusedSimpArgs false
set_option linter.unusedVariables false
namespace Go.Proofs.YtagpphelgghbpaaGreat
open Go.RowKit

theorem ablk (a:Addr) (n:Nat):(a.add n).block = a.block:=by unfold Addr.add;split <;> rfl
theorem ics_app (l l':List Int):ics l ++ ics l' = ics (l ++ l'):=by simp [ics]
theorem append_i_op {w:World} {o:Oper} {a:Act} {K:Act → World → Prop} {Q:Exit → Act → World → Prop} (s x:Operand)
  (ho:o.op = .call { callee:=.builtin .append,args:=#[s,x],argTypes:=#[25,25] })
  (B:Nat) (A:Option Addr) (n c:Nat) (l:List Int) (hs:a.eval s = .slice A n c) (hown:XOwns w B 3 1 A n c (ics l))
  (A':Option Addr) (m c':Nat) (l':List Int) (hx:a.eval x = .slice A' m c') (hr:Reads w 1 A' m (ics l')) (hm:0 < m)
  (hbd:n + m ≤ 1000000) (hB:B ≤ w.heap.size)
  (h:∀ g c2 w',XOwns w' B 3 1 (some ⟨g,0,none⟩) (n + m) c2 (ics (l ++ l')) → w.grownBy w' (blkOf A) → Below B w w' → K (a.put o.dst (.slice (some ⟨g,0,none⟩) (n + m) c2)) w'):o.wp Tryz.prog a w K Q:=by
 refine append_x_op s x 25 ho B 3 _ 1 8 tinfo_ints Tryz.underlying25 rfl (by decide) A n c (ics l) hs hown A' m c' (ics l') hx hr (ics_one _) hm (by omega) (by omega) hB _ rfl ?_
 intro g c2 w' h1 h2 _ _
 rw [ics_app] at h1
 exact h g c2 w' h1 h2 (grown_below h2 hB (fun g hg => (hown.lt g hg).1))
theorem append_i {w:World} {ops:Array Oper} {rest:List Oper} {o:Oper} {a:Act} {Q:Exit → Act → World → Prop} (hgd:o.guard = none) (s x:Operand)
  (ho:o.op = .call { callee:=.builtin .append,args:=#[s,x],argTypes:=#[25,25] })
  (B:Nat) (A:Option Addr) (n c:Nat) (l:List Int) (hs:a.eval s = .slice A n c) (hown:XOwns w B 3 1 A n c (ics l))
  (A':Option Addr) (m c':Nat) (l':List Int) (hx:a.eval x = .slice A' m c') (hr:Reads w 1 A' m (ics l')) (hm:0 < m)
  (hbd:n + m ≤ 1000000) (hB:B ≤ w.heap.size)
  (h:∀ g c2 w',XOwns w' B 3 1 (some ⟨g,0,none⟩) (n + m) c2 (ics (l ++ l')) → w.grownBy w' (blkOf A) → Below B w w' → wpList Tryz.prog ops Q rest (a.put o.dst (.slice (some ⟨g,0,none⟩) (n + m) c2)) w'):wpList Tryz.prog ops Q (o :: rest) a w :=
 wpList_plain hgd fun _ hK => append_i_op s x ho B A n c l hs hown A' m c' l' hx hr hm hbd hB fun g c2 w' h1 h2 h3 => hK _ _ (h g c2 w' h1 h2 h3)
theorem XOwns.over {w w':World} {B e size n c:Nat} {A O:Option Addr} {xs:List Value} (h:XOwns w B e size A n c xs) (hg:w.grownBy w' (blkOf O)) (hlt:∀ i,blkOf O = some i → i < B):XOwns w' B e size A n c xs :=
 h.grown hg (by
  cases hA:blkOf A with
  | none => exact .inl rfl
  | some i =>
   right
   intro he
   have h1:=(h.lt i hA).1
   have h2:=hlt i he.symm
   omega)
theorem Blk.over {w w':World} {g t B n c:Nat} {A:Option Addr} {l:List Int} {cs:Array Value} (h:Blk w g t cs) (hx:XOwns w B 3 1 A n c (ics l)) (hg:w.grownBy w' (blkOf A)) (ht:t ≠ 3):Blk w' g t cs :=
 h.grown hg (fun e => hx.apart_blk h (fun e => ht e.symm) e.symm)

theorem zip_snoc {l:List It} {ts:List Sl} {k:Nat} {x:It} {t:Sl} (hx:l[k]? = some x) (ht:ts.length = k):itcs ((l.take (k + 1)).zip (ts ++ [t])) = itcs ((l.take k).zip ts) ++ x.cells t:=by
 have hk:(l.take k).length = ts.length:=by
  rw [List.length_take,ht]
  have:=(List.getElem?_eq_some_iff.1 hx).1
  omega
 rw [take_snoc hx,List.zip_append hk]
 simp [itcs]
theorem one_xc (x:It) (t:Sl):∀ u ∈ x.cells t,u.oneCell' = true:=by
 intro u hu
 simp only [It.cells,Sl.v,List.mem_cons,List.not_mem_nil,or_false] at hu
 rcases hu with rfl | rfl | rfl | rfl | rfl <;> rfl
structure RcS (w:World) (l:List It) (k:Nat) (A:Option Addr) (c:Nat) (ts:List Sl) (W:World):Prop where
 len:ts.length = k
 row:XOwns W w.heap.size 55 5 A k c (itcs ((l.take k).zip ts))
 tg:∀ (i:Nat) (x:It) (t:Sl),l[i]? = some x → ts[i]? = some t → XOwns W w.heap.size 124 2 t.A x.tgs.length t.c (tcs x.tgs)
 B:Below w.heap.size w W
theorem RcS.below {w:World} {l:List It} {k:Nat} {A:Option Addr} {c:Nat} {ts:List Sl} {W W':World} (h:RcS w l k A c ts W) (hb:Below W.heap.size W W'):RcS w l k A c ts W':=⟨h.len,h.row.below hb,fun i x t h1 h2 => (h.tg i x t h1 h2).below hb,below_call h.B hb h.B.size⟩
theorem RcS.blk {w:World} {l:List It} {k:Nat} {A:Option Addr} {c g:Nat} {ts:List Sl} {W W':World} {cs:Array Value} (h:RcS w l k A c ts W) (hk:Blk W g 55 cs) (hge:w.heap.size ≤ g) (hA:blkOf A ≠ some g) (hg:W.grownBy W' (some g)):RcS w l k A c ts W' :=
 ⟨h.len,h.row.grown hg (.inr hA),fun i x t h1 h2 => (h.tg i x t h1 h2).blk_ hk hg (by decide),h.B.grown hg h.B.size (fun q hq => by injection hq with hq;omega)⟩
set_option maxRecDepth 100000 in
set_option maxHeartbeats 3200000 in
theorem rcopied_any (w:World) (s:Sl) (l:List It) (ts:List Sl) (n:Nat) (hS:IsR w s l ts) (hl:l.length = n) (hn:n * 56 ≤ 140737488351232) (h4:∀ x ∈ l,x.tgs.length * 16 ≤ 140737488351232) :
  Calls Tryz.prog 22 #[.slice s.A n s.c] w (ItsEnd l n w):=by
 obtain ⟨⟨SA,Sc⟩,hs⟩:∃ z,s = z:=⟨_,rfl⟩
 subst hs
 simp only
 have HS:=Lib.hid hS
 have HLL:=Lib.hid hl
 have H4:=Lib.hid h4
 have hn9:n ≤ 9223372036854775807:=by omega
 have HN:=Lib.hid hn
 have HI0:Hid (RcS w l 0 none 0 [] w):=Lib.hid ⟨rfl,by rw [List.take_zero];exact XOwns.nil_ _ _ _ _,fun i x t _ h => by simp at h,Below.refl _ _⟩
 clear hS hl h4 hn
 go_enter Tryz.func22,Tryz.ntmps22
 go_wp2_with fail
 go_loopw [3,4] (fun a i W => ∃ (k:Nat) (A:Option Addr) (c:Nat) (ts':List Sl),k ≤ n ∧ i = .int .i64 k ∧ a = .slice A k c ∧ Hid (RcS w l k A c ts' W)) (fun _ i _ => n - (intOf i).toNat)
 case atStart => exact ⟨0,none,0,[],Nat.zero_le _,rfl,rfl,HI0⟩
 case round =>
  obtain ⟨k,A,c,ts',hk,rfl,rfl,HI⟩:=hrel
  clear HI0
  by_cases hkn:k < n
  ·have hkn':(k:Int) < n:=by omega
   have HKN:=Lib.hid hkn
   obtain ⟨x,hx⟩:=get_of (l:=l) (k:=k) (by rw [HLL.out];exact hkn)
   obtain ⟨⟨TA,Tc⟩,hzp,-,htr,hto⟩:=HS.out.at_ hx
   have hrow:=HS.out.row.below HI.out.B
   obtain ⟨ad,hA,hadl,c0,c1,c2,c3,c4⟩:=item_at hrow hzp (by rw [HLL.out];exact hkn)
   simp only at hA
   subst hA
   have HX:=Lib.hid hx
   have HT4:=Lib.hid (H4.out x (List.mem_of_getElem? hx))
   obtain ⟨nt,hnt⟩:∃ z,x.tgs.length = z:=⟨_,rfl⟩
   have HNT:=Lib.hid hnt
   simp only [hnt] at c4 htr hto
   rw [hnt] at HT4
   have hnt4:nt ≤ 9223372036854775807:=by have:=HT4.out;omega
   obtain ⟨w5,hw5⟩:∃ z,wr.alloc (.cells #[.int .i64 x.pl,.int .i64 x.id,.int .i64 x.card,.int .i64 x.trg,.slice TA nt Tc] 55) = z:=⟨_,rfl⟩
   have hb5:Below wr.heap.size wr w5:=by rw [← hw5];exact (Below.refl _ _).alloc (Nat.le_refl _) _
   obtain ⟨g5,hg5⟩:∃ z,wr.heap.size = z:=⟨_,rfl⟩
   have hk5:Blk w5 g5 55 #[.int .i64 x.pl,.int .i64 x.id,.int .i64 x.card,.int .i64 x.trg,.slice TA nt Tc]:=by rw [← hw5];exact Blk.mk_ _ _ _ _ hg5
   have HI5:=Lib.hid (HI.out.below hb5)
   have HG5:Hid (w.heap.size ≤ g5 ∧ blkOf A ≠ some g5):=Lib.hid ⟨by rw [← hg5];exact HI.out.B.size,fun e => by have:=(HI.out.row.lt g5 e).2;omega⟩
   have HTR:=Lib.hid ((htr.below HI.out.B).below hb5)
   have HK5:=Lib.hid hk5
   have HTO:=Lib.hid hto.2.1
   have d4:=(hk5.at_ 4).trans rfl
   clear hrow hzp htr hto hadl hx hnt hk5 HI hb5
   go_wp2_with (first
    | (at_builtin;refine append_nil (w:=w5) rfl (.const (.slice none 0 0)) (.tmp 17) 53 rfl 124 _ 2 16 tinfo_tgts Tryz.underlying53 rfl (by decide) rfl TA nt Tc (tcs x.tgs) rfl HTO.out HTR.out (one_tcs _) (by have:=HT4.out;omega) (by have:=HT4.out;omega) ?_;intro A6 c6 w6 ho6 hb6;simp only [Act.put,List.setIfInBounds_toArray,List.set_cons_succ,List.set_cons_zero];have HO6:=Lib.hid ho6;have HI6:=Lib.hid (HI5.out.below hb6);have HK6:=Lib.hid (HK5.out.call hb6);have HB6:=Lib.hid hb6;clear ho6 hb6;have q4:=(HK6.out.at_ 4).trans rfl;have f4:=HK6.out.free 4;have hlt6:=HK6.out.lt;clear d4;have hk7:Blk (w6.setCell ⟨g5,4,none⟩ (.slice A6 nt c6)) g5 55 #[.int .i64 x.pl,.int .i64 x.id,.int .i64 x.card,.int .i64 x.trg,.slice A6 nt c6]:=HK6.out.put 4 (.slice A6 nt c6);have e0:=(hk7.at_ 0).trans rfl;have e1:=(hk7.at_ 1).trans rfl;have e2:=(hk7.at_ 2).trans rfl;have e3:=(hk7.at_ 3).trans rfl;have e4:=(hk7.at_ 4).trans rfl;have HG7:Hid (w6.grownBy (w6.setCell ⟨g5,4,none⟩ (.slice A6 nt c6)) (some g5)):=Lib.hid (only_setCell (only_refl _ _) (.inl rfl) _);have HI7:=Lib.hid (HI6.out.blk HK6.out HG5.out.1 HG5.out.2 HG7.out);have HO7:=Lib.hid (HO6.out.blk_ HK6.out HG7.out (by decide));have HB8:Hid (Below (w6.setCell ⟨g5,4,none⟩ (.slice A6 nt c6)).heap.size (w6.setCell ⟨g5,4,none⟩ (.slice A6 nt c6)) ((w6.setCell ⟨g5,4,none⟩ (.slice A6 nt c6)).alloc (.cells #[.int .i64 x.pl,.int .i64 x.id,.int .i64 x.card,.int .i64 x.trg,.slice A6 nt c6] 55))):=Lib.hid ((Below.refl _ _).alloc (Nat.le_refl _) _);have HL8:Hid (Blk ((w6.setCell ⟨g5,4,none⟩ (.slice A6 nt c6)).alloc (.cells #[.int .i64 x.pl,.int .i64 x.id,.int .i64 x.card,.int .i64 x.trg,.slice A6 nt c6] 55)) w6.heap.size 55 #[.int .i64 x.pl,.int .i64 x.id,.int .i64 x.card,.int .i64 x.trg,.slice A6 nt c6]):=Lib.hid (Blk.mk_ _ _ _ _ (by simp));have HI8:=Lib.hid (HI7.out.below HB8.out);have HO8:=Lib.hid (HO7.out.below HB8.out);clear hk7)
    | (at_builtin;refine append_x (w:=(w6.setCell ⟨g5,4,none⟩ (.slice A6 nt c6)).alloc (.cells #[.int .i64 x.pl,.int .i64 x.id,.int .i64 x.card,.int .i64 x.trg,.slice A6 nt c6] 55)) rfl (.tmp 20) (.tmp 22) 29 rfl w.heap.size 55 _ 5 56 tinfo_items Tryz.underlying29 rfl (by decide) A k c (itcs ((l.take k).zip ts')) rfl HI8.out.row (some ⟨w6.heap.size,0,none⟩) 1 1 (x.cells ⟨A6,c6⟩) rfl (by have h:=reads_block HL8.out 5 1 rfl;unfold It.cells Sl.v;rw [HNT.out];exact h) (one_xc x ⟨A6,c6⟩) (by decide) (by have:=HN.out;have:=HKN.out;omega) (by have:=HN.out;have:=HKN.out;omega) HI8.out.B.size _ rfl ?_;intro g9 c9 w9 ho9 hg9 hi9 hl9;simp only [Act.put,List.setIfInBounds_toArray,List.set_cons_succ,List.set_cons_zero])
    | fail)
   have HI9:Hid (RcS w l (k + 1) (some ⟨g9,0,none⟩) c9 (ts' ++ [⟨A6,c6⟩]) w9):=Lib.hid (by
    have h:=HI8.out
    refine ⟨by rw [List.length_append,h.len];rfl,by rw [zip_snoc HX.out h.len];exact ho9,fun i y t hy ht => ?_,h.B.trans (grown_below hg9 h.B.size (fun g hg => (h.row.lt g hg).1))⟩
    rcases Nat.lt_or_ge i ts'.length with hlt | hge
    ·rw [List.getElem?_append_left hlt] at ht
     have h3:=h.tg i y t hy ht
     exact h3.grown hg9 (h3.apart h.row (by decide))
    ·rw [List.getElem?_append_right hge] at ht
     have hik:i = k:=by
      have:=h.len
      rcases Nat.lt_or_ge (i - ts'.length) 1 with h' | h'
      ·omega
      ·rw [List.getElem?_eq_none (by simpa using h')] at ht
       cases ht
     subst hik
     rw [HX.out] at hy
     injection hy with hy
     subst hy
     have e:t = ⟨A6,c6⟩:=by
      rw [show i - ts'.length = 0 by rw [h.len];omega] at ht
      simpa using ht.symm
     subst e
     rw [HNT.out]
     have h3:=HO8.out.more (Nat.le_trans HI5.out.B.size (Nat.le_refl _))
     exact h3.grown hg9 (h3.apart h.row (by decide)))
   clear ho9 hg9 hi9 hl9 e0 e1 e2 e3 e4 q4 f4 hw5 hg5
   go_wp2_with fail
   go_roundw
   case rel => exact ⟨k + 1,_,c9,_,HKN.out,by go_num,rfl,HI9⟩
   case measure => simp [intOf];have:=HKN.out;omega
  ·have HKE:Hid (k = n):=Lib.hid (by omega)
   clear hk
   go_wp2_with fail
   go_ret
   refine ⟨⟨A,c⟩,ts',by rw [HKE.out];rfl,⟨by rw [HI.out.len,HLL.out,HKE.out],?_,HI.out.tg⟩,HI.out.B⟩
   have h:=HI.out.row
   rw [List.take_of_length_le (by rw [HLL.out,HKE.out];exact Nat.le_refl _)] at h
   rw [HLL.out,← HKE.out]
   exact h
end Go.Proofs.YtagpphelgghbpaaGreat
