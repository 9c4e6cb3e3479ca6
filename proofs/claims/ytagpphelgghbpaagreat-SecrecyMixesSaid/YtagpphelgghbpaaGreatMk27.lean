/-
  Texts: Rva.
-/
import Derived.Test.YtagpphelgghbpaaGreatMk25
import Derived.Test.YtagpphelgghbpaaGreatMk10
set_option linter.unusedSimpArgs false
set_option linter.unusedVariables false
namespace Go.Proofs.YtagpphelgghbpaaGreat
open Go.RowKit

theorem count_snoc (l:List Int) (x y:Int):(l ++ [y]).count x = l.count x + if y = x then 1 else 0:=by
 rw [List.count_append]
 congr 1
 by_cases h:y = x
 ·simp [h]
 ·rw [if_neg h]
  simp [h]
set_option maxHeartbeats 1600000 in
theorem rcount_any (A:Option Addr) (n c:Nat) (l:List Int) (x:Int) (w:World) (hx:Reads w 1 A n (ics l)) (hn:n ≤ 9223372036854775807) :
  Calls Tryz.prog 69 #[.slice A n c,.int .i64 x] w fun e w' => e = .returned (.int .i64 (l.count x:Nat)) ∧ w = w':=by
 have HX:=Lib.hid hx
 have HL:=Lib.hid (ilen hx)
 clear hx
 go_enter Tryz.func69,Tryz.ntmps69
 go_wp2_with fail
 go_loopw [5,6] (fun q i W => ∃ k z:Nat,k ≤ n ∧ z ≤ k ∧ q = .int .i64 z ∧ i = .int .i64 k ∧ W = w ∧ Hid ((l.take k).count x = z)) (fun _ i _ => n - (intOf i).toNat)
 case atStart => exact ⟨0,0,Nat.zero_le _,Nat.le_refl _,rfl,rfl,rfl,Lib.hid rfl⟩
 case round =>
  obtain ⟨k,z,hk,hz,rfl,rfl,rfl,HI⟩:=hrel
  by_cases hkn:k < n
  ·have hkn':(k:Int) < n:=by omega
   obtain ⟨ad,rfl,-,c0⟩:=int_at HX.out hkn
   have hg0:=ith_get (xs:=l) (k:=k) (by rw [HL.out];exact hkn)
   obtain ⟨y,hy⟩:∃ y,ith l k = y:=⟨_,rfl⟩
   rw [hy] at hg0 c0
   have HG:=Lib.hid hg0
   clear hg0 hy
   by_cases hxy:y = x
   ·have HN:Hid ((l.take (k + 1)).count x = z + 1):=Lib.hid (by rw [take_snoc HG.out,count_snoc,if_pos hxy,HI.out])
    have hb:(y == x) = true:=by simp [hxy]
    clear hxy
    go_wp2_with fail
    go_roundw
    case rel => exact ⟨k + 1,z + 1,hkn,by omega,by go_num,by go_num,trivial,HN⟩
    case measure => simp [intOf];omega
   ·have HN:Hid ((l.take (k + 1)).count x = z):=Lib.hid (by rw [take_snoc HG.out,count_snoc,if_neg hxy,HI.out,Nat.add_zero])
    have hb:(y == x) = false:=by simp [hxy]
    clear hxy
    go_wp2_with fail
    go_roundw
    case rel => exact ⟨k + 1,z,hkn,by omega,rfl,by go_num,trivial,HN⟩
    case measure => simp [intOf];omega
  ·obtain rfl:k = n:=by omega
   have HE:Hid (l.count x = z):=Lib.hid (by have h:=HI.out;rwa [List.take_of_length_le (by rw [HL.out];exact Nat.le_refl _)] at h)
   go_wp2_with fail
   go_ret
   exact ⟨by rw [HE.out];rfl,rfl⟩
def RIx (l:List Ob) (id:Int) (w:World) (e:Ending) (w':World):Prop:=Below w.heap.size w w' ∧ ((∃ (k:Nat) (o:Ob),e = .returned (.int .i64 k) ∧ l[k]? = some o ∧ o.id = id) ∨ (e = .returned (.int .i64 (-1)) ∧ ∀ o ∈ l,o.id ≠ id))
theorem noneI_of {l:List Ob} {n:Nat} {id:Int} (hl:l.length = n) (h:∀ j o,j < n → l[j]? = some o → o.id ≠ id):∀ o ∈ l,o.id ≠ id:=fun o ho => by
 obtain ⟨j,hj,rfl⟩:=List.getElem_of_mem ho
 exact h j _ (by omega) (List.getElem?_eq_getElem hj)
set_option maxRecDepth 100000 in
set_option maxHeartbeats 1600000 in
theorem rindex_any (b:Bd) (m:BdM) (id:Int) (w:World) (hR:BdR w b m) :
  Calls Tryz.prog 66 #[.agg (b.cells m).toArray,.int .i64 id] w (RIx b.objs id w):=by
 obtain ⟨cs,hcs⟩:∃ cs,(b.cells m).toArray = cs:=⟨_,rfl⟩
 obtain ⟨⟨OA,Oc⟩,hO⟩:∃ s,m.O = s:=⟨_,rfl⟩
 obtain ⟨no,hno⟩:∃ n,b.objs.length = n:=⟨_,rfl⟩
 have HO:=Lib.hid hR.O
 have hoo:=hR.Oo
 rw [hO,hno] at HO hoo
 have hn9:no ≤ 9223372036854775807:=Nat.le_trans hoo.1 hoo.2.2
 have HNO:=Lib.hid hno
 have e0:cs[0]? = some (.slice OA no Oc):=by
  rw [← hcs]
  show some (m.O.v b.objs.length) = _
  rw [hO,hno]
  rfl
 rw [hcs]
 have HB0:Hid (Below w.heap.size w (w.alloc (.cells cs 33))):=Lib.hid ((Below.refl _ _).alloc (Nat.le_refl _) _)
 have c0:(w.alloc (.cells cs 33)).cell? ⟨w.heap.size,0,none⟩ = some (.slice OA no Oc):=((Blk.mk_ w 33 cs _ rfl).at_ 0).trans e0
 obtain ⟨g,hg⟩:∃ g,w.heap.size = g:=⟨_,rfl⟩
 obtain ⟨w1,hw1⟩:∃ x,w.alloc (.cells cs 33) = x:=⟨_,rfl⟩
 rw [hw1] at HB0 c0
 rw [hg] at c0
 obtain ⟨l,hl⟩:∃ l,b.objs = l:=⟨_,rfl⟩
 rw [hl] at HO HNO ⊢
 clear hR hoo hO hno hcs e0 hl
 go_enter Tryz.func66,Tryz.ntmps66
 go_wp2_with fail
 clear hw1
 go_loopw [5] (fun i W => ∃ k:Nat,k ≤ no ∧ i = .int .i64 k ∧ W = w1 ∧ Hid (∀ j o,j < k → l[j]? = some o → o.id ≠ id)) (fun i _ => no - (intOf i).toNat)
 case atStart => exact ⟨0,Nat.zero_le _,rfl,rfl,Lib.hid (fun q x h => absurd h (by omega))⟩
 case round =>
  obtain ⟨k,hk,rfl,rfl,HE⟩:=hrel
  by_cases hkn:k < no
  ·have hkn':(k:Int) < no:=by omega
   obtain ⟨o,ho⟩:=get_of (l:=l) (k:=k) (by rw [HNO.out];exact hkn)
   obtain ⟨ad,rfl,-,d0,-⟩:=obj_at (HO.out.below HB0.out) ho hkn
   have HG:=Lib.hid ho
   clear ho
   by_cases hxy:o.id = id
   ·have HR:Hid (RIx l id w (.returned (.int .i64 k)) wr):=Lib.hid ⟨HB0.out,Or.inl ⟨k,o,rfl,HG.out,hxy⟩⟩
    have hb:(o.id == id) = true:=by simp [hxy]
    clear hxy
    go_wp2_with fail
    go_ret
    exact HR.out
   ·have HN:Hid (∀ j o,j < k + 1 → l[j]? = some o → o.id ≠ id):=Lib.hid (fun j p hj hp => by
     rcases Nat.lt_or_ge j k with h | h
     ·exact HE.out j p h hp
     ·obtain rfl:j = k:=by omega
      rw [HG.out] at hp
      rw [← Option.some.inj hp]
      exact hxy)
    have hb:(o.id == id) = false:=by simp [hxy]
    clear hxy
    go_wp2_with fail
    go_roundw
    case rel => exact ⟨k + 1,hkn,by go_num,trivial,HN⟩
    case measure => simp [intOf];omega
  ·obtain rfl:k = no:=by omega
   have HR:Hid (RIx l id w (.returned (.int .i64 (-1))) wr):=Lib.hid ⟨HB0.out,Or.inr ⟨rfl,noneI_of HNO.out HE.out⟩⟩
   go_wp2_with fail
   go_ret
   exact HR.out
def Se.zl (s:Se) (k:Nat):List Int:=[s.lib,s.hand,s.fld,s.grv].getD k []
def SeM.zm (m:SeM) (k:Nat):Sl:=[m.L,m.H,m.F,m.G].getD k m.L
def zonV (s:Se) (m:SeM):Value:=.agg #[m.L.v s.lib.length,m.H.v s.hand.length,m.F.v s.fld.length,m.G.v s.grv.length]
set_option maxRecDepth 100000 in
theorem size_zon:(Tryz.prog.info? 85).map (·.size) = some 4:=by decide +kernel
theorem zon_idx (s:Se) (m:SeM) {k:Nat} (hk:k < 4) (w:World):(Instr.index 85 (zonV s m) (.int .i64 k)).run Tryz.prog w = .ok (.slice (m.zm k).A (s.zl k).length (m.zm k).c) w:=by
 unfold zonV
 rcases (show k = 0 ∨ k = 1 ∨ k = 2 ∨ k = 3 by omega) with rfl | rfl | rfl | rfl <;> simp [Instr.index,run_underlying Tryz.underlying85,asIntOf,go_sem,Se.zl,SeM.zm,Sl.v]
theorem SeR.zl {w:World} {s:Se} {m:SeM} (h:SeR w s m) {k:Nat} (hk:k < 4):LsR w (m.zm k) (s.zl k):=by
 rcases (show k = 0 ∨ k = 1 ∨ k = 2 ∨ k = 3 by omega) with rfl | rfl | rfl | rfl
 ·exact h.L
 ·exact h.H
 ·exact h.F
 ·exact h.G
set_option maxRecDepth 100000 in
set_option maxHeartbeats 1600000 in
theorem zones_any (s:Se) (m:SeM) (w:World) :
  Calls Tryz.prog 38 #[.agg (s.cells m).toArray] w fun e w' => e = .returned (zonV s m) ∧ Below w.heap.size w w':=by
 obtain ⟨cs,hcs⟩:∃ cs,(s.cells m).toArray = cs:=⟨_,rfl⟩
 have hbox:=Blk.mk_ w 27 cs _ rfl
 have e5:cs[5]? = some (m.L.v s.lib.length):=by rw [← hcs];rfl
 have e6:cs[6]? = some (m.H.v s.hand.length):=by rw [← hcs];rfl
 have e7:cs[7]? = some (m.F.v s.fld.length):=by rw [← hcs];rfl
 have e8:cs[8]? = some (m.G.v s.grv.length):=by rw [← hcs];rfl
 have HB0:Hid (Below w.heap.size w (w.alloc (.cells cs 27))):=Lib.hid ((Below.refl _ _).alloc (Nat.le_refl _) _)
 rw [hcs]
 unfold zonV
 obtain ⟨v5,h5⟩:∃ v,m.L.v s.lib.length = v:=⟨_,rfl⟩
 obtain ⟨v6,h6⟩:∃ v,m.H.v s.hand.length = v:=⟨_,rfl⟩
 obtain ⟨v7,h7⟩:∃ v,m.F.v s.fld.length = v:=⟨_,rfl⟩
 obtain ⟨v8,h8⟩:∃ v,m.G.v s.grv.length = v:=⟨_,rfl⟩
 have HE:=Lib.hid (And.intro h5 (And.intro h6 (And.intro h7 h8)))
 rw [h5] at e5
 rw [h6] at e6
 rw [h7] at e7
 rw [h8] at e8
 rw [h5,h6,h7,h8]
 obtain ⟨s5,z5⟩:∃ A,∃ n c,v5 = .slice A n c:=⟨_,_,_,h5.symm⟩
 obtain ⟨s6,z6⟩:∃ A,∃ n c,v6 = .slice A n c:=⟨_,_,_,h6.symm⟩
 obtain ⟨s7,z7⟩:∃ A,∃ n c,v7 = .slice A n c:=⟨_,_,_,h7.symm⟩
 obtain ⟨s8,z8⟩:∃ A,∃ n c,v8 = .slice A n c:=⟨_,_,_,h8.symm⟩
 obtain ⟨n5,c5,rfl⟩:=z5
 obtain ⟨n6,c6,rfl⟩:=z6
 obtain ⟨n7,c7,rfl⟩:=z7
 obtain ⟨n8,c8,rfl⟩:=z8
 obtain ⟨w1,hw1⟩:∃ x,w.alloc (.cells cs 27) = x:=⟨_,rfl⟩
 rw [hw1] at hbox HB0
 obtain ⟨w2,hw2⟩:∃ x,w1.alloc (.cells #[.slice none 0 0,.slice none 0 0,.slice none 0 0,.slice none 0 0] 85) = x:=⟨_,rfl⟩
 have hb12:Below w1.heap.size w1 w2:=by rw [← hw2];exact (Below.refl _ _).alloc (Nat.le_refl _) _
 have hk2:Blk w2 w1.heap.size 85 #[.slice none 0 0,.slice none 0 0,.slice none 0 0,.slice none 0 0]:=by rw [← hw2];exact Blk.mk_ _ _ _ _ rfl
 obtain ⟨w3,hst,hk3,hg3⟩:=hk2.storeAll (ty:=85) [.slice s5 n5 c5,.slice s6 n6 c6,.slice s7 n7 c7,.slice s8 n8 c8] rfl (by rw [size_zon];rfl) (by simp [Value.oneCell'])
 have HST:=Lib.hid hst
 have HK3:=Lib.hid hk3
 have hb1:Below w.heap.size w w2:=below_call HB0.out hb12 HB0.out.size
 have HB3:=Lib.hid (hb1.grown hg3 hb1.size (fun k hk => by injection hk with hk;have:=HB0.out.size;omega))
 have hx2:=hbox.call hb12
 have o5:w2.cell? ⟨w.heap.size,5,none⟩ = some (.slice s5 n5 c5):=(hx2.at_ 5).trans e5
 have o6:w2.cell? ⟨w.heap.size,6,none⟩ = some (.slice s6 n6 c6):=(hx2.at_ 6).trans e6
 have o7:w2.cell? ⟨w.heap.size,7,none⟩ = some (.slice s7 n7 c7):=(hx2.at_ 7).trans e7
 have o8:w2.cell? ⟨w.heap.size,8,none⟩ = some (.slice s8 n8 c8):=(hx2.at_ 8).trans e8
 clear hbox hx2 hb12 h5 h6 h7 h8 e5 e6 e7 e8 hcs hst hk3 hg3 hk2 hb1
 go_enter Tryz.func38,Tryz.ntmps38
 go_wp2_with (first
  | (refine wpList_store_by HST.out rfl rfl rfl rfl ?_;simp only [Act.put,List.setIfInBounds_toArray,List.set_cons_succ,List.set_cons_zero])
  | fail)
 refine bodyPost_ret (v:=.agg #[.slice s5 n5 c5,.slice s6 n6 c6,.slice s7 n7 c7,.slice s8 n8 c8]) (ret_cell (fn:=Tryz.f38) (p:=2) rfl rfl HK3.out Tryz.underlying85 rfl (by rw [size_zon];rfl)) rfl ?_
 exact ⟨rfl,HB3.out⟩
end Go.Proofs.YtagpphelgghbpaaGreat
