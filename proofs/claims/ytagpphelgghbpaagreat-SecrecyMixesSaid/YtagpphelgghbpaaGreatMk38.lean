/-
  Texts: Out.
-/
import Derived.Test.YtagpphelgghbpaaGreatMk37
import Derived.Test.YtagpphelgghbpaaGreatMk12
set_option linter.unusedSimpArgs false
set_option linter.unusedVariables false
namespace Go.Proofs.YtagpphelgghbpaaGreat
open Go.RowKit

set_option maxHeartbeats 800000 in
theorem idxX0_any (A:Option Addr) (c:Nat) (f:Value) (w:World):Calls Tryz.prog 77 #[.slice A 0 c,f] w fun e w' => e = .returned (.int .i64 (-1)) ∧ w = w':=by
 have h0:decide ((0:Int) < 0) = false:=by decide
 go_enter Tryz.func77,Tryz.ntmps77
 go_wp2_with fail
 go_loopw [8] (fun i W => i = .int .i64 0 ∧ W = w) (fun i _ => 0)
 case atStart => exact ⟨rfl,rfl⟩
 case round =>
  obtain ⟨rfl,rfl⟩:=hrel
  go_wp2_with fail
  go_ret
  exact ⟨rfl,rfl⟩
set_option maxHeartbeats 800000 in
theorem idxK0_any (A:Option Addr) (c:Nat) (f:Value) (w:World):Calls Tryz.prog 113 #[.slice A 0 c,f] w fun e w' => e = .returned (.int .i64 (-1)) ∧ w = w':=by
 have h0:decide ((0:Int) < 0) = false:=by decide
 go_enter Tryz.func113,Tryz.ntmps113
 go_wp2_with fail
 go_loopw [8] (fun i W => i = .int .i64 0 ∧ W = w) (fun i _ => 0)
 case atStart => exact ⟨rfl,rfl⟩
 case round =>
  obtain ⟨rfl,rfl⟩:=hrel
  go_wp2_with fail
  go_ret
  exact ⟨rfl,rfl⟩
set_option maxHeartbeats 800000 in
theorem delX0_any (A:Option Addr) (c:Nat) (f:Value) (w:World):Calls Tryz.prog 88 #[.slice A 0 c,f] w fun e w' => e = .returned (.slice A 0 c) ∧ w = w':=by
 go_enter Tryz.func88,Tryz.ntmps88
 go_wp2_with (first
  | (go_at_call 77;refine (idxX0_any A c f w).mono ?_;rintro e w_ ⟨rfl,rfl⟩)
  | fail)
 go_ret
 exact ⟨rfl,rfl⟩
set_option maxHeartbeats 800000 in
theorem delK0_any (A:Option Addr) (c:Nat) (f:Value) (w:World):Calls Tryz.prog 90 #[.slice A 0 c,f] w fun e w' => e = .returned (.slice A 0 c) ∧ w = w':=by
 go_enter Tryz.func90,Tryz.ntmps90
 go_wp2_with (first
  | (go_at_call 113;refine (idxK0_any A c f w).mono ?_;rintro e w_ ⟨rfl,rfl⟩)
  | fail)
 go_ret
 exact ⟨rfl,rfl⟩
set_option maxHeartbeats 800000 in
theorem idxN0_any (A:Option Addr) (c:Nat) (f:Value) (w:World):Calls Tryz.prog 112 #[.slice A 0 c,f] w fun e w' => e = .returned (.int .i64 (-1)) ∧ w = w':=by
 have h0:decide ((0:Int) < 0) = false:=by decide
 go_enter Tryz.func112,Tryz.ntmps112
 go_wp2_with fail
 go_loopw [8] (fun i W => i = .int .i64 0 ∧ W = w) (fun i _ => 0)
 case atStart => exact ⟨rfl,rfl⟩
 case round =>
  obtain ⟨rfl,rfl⟩:=hrel
  go_wp2_with fail
  go_ret
  exact ⟨rfl,rfl⟩
set_option maxHeartbeats 800000 in
theorem delN0_any (A:Option Addr) (c:Nat) (f:Value) (w:World):Calls Tryz.prog 87 #[.slice A 0 c,f] w fun e w' => e = .returned (.slice A 0 c) ∧ w = w':=by
 go_enter Tryz.func87,Tryz.ntmps87
 go_wp2_with (first
  | (go_at_call 112;refine (idxN0_any A c f w).mono ?_;rintro e w_ ⟨rfl,rfl⟩)
  | fail)
 go_ret
 exact ⟨rfl,rfl⟩
theorem set_self (m:BdM) {k:Nat} (hk:k < 8):m.set k (m.sl k) = m:=by
 rcases (show k = 0 ∨ k = 1 ∨ k = 2 ∨ k = 3 ∨ k = 4 ∨ k = 5 ∨ k = 6 ∨ k = 7 by omega) with rfl | rfl | rfl | rfl | rfl | rfl | rfl | rfl <;> rfl
theorem IsO.apart_ {W W':World} {B:Nat} {s:Sl} {l:List It} {ts:List Sl} (h:IsO W B s l ts) {B' n c:Nat} {A:Option Addr} {xs:List Value} (hx:XOwns W B' 3 1 A n c xs) (hg:W.grownBy W' (blkOf A)):IsO W' B s l ts :=
 ⟨h.len,h.row.grown hg (h.row.apart hx (by decide)),fun i x t h1 h2 => (h.tg i x t h1 h2).grown hg ((h.tg i x t h1 h2).apart hx (by decide))⟩
theorem BdO.list {W W':World} {B:Nat} {b:Bd} {m:BdM} (h:BdO W B b m) {k:Nat} (hk:k < 8) {l':List Int} (hg:W.grownBy W' (blkOf (m.sl k).A)) (hx:XOwns W' B 3 1 (m.sl k).A l'.length (m.sl k).c (ics l')):BdO W' B (b.seti k l') m:=by
 obtain ⟨e1,e2,e3,e4,e5⟩:=seti_rest b l' hk
 have hl:=h.l k (by omega)
 refine ⟨by rw [e1];exact h.O.grown hg (h.O.apart hl (by decide)),fun q hq => ?_,h.ap,by rw [e2];exact h.S.apart_ hl hg,by rw [e3];exact h.Q.apart_ hl hg,by rw [e5];exact h.BK.grown hg (h.BK.apart hl (by decide))⟩
 by_cases e:q = k
 ·subst e
  rw [li_same _ _ hk]
  exact hx
 ·rw [li_other _ _ hk e]
  exact (h.l q hq).grown hg (h.ap q k hq (by omega) e)
def delTo (b:Bd) (id:Int):Nat → Bd
 | 0 => b
 | k + 1 => (delTo b id k).seti k (nq id (b.li k))
theorem delTo_rest (b:Bd) (id:Int):∀ {k:Nat},k ≤ 8 → (delTo b id k).objs = b.objs ∧ (delTo b id k).stk = b.stk ∧ (delTo b id k).que = b.que ∧ (delTo b id k).att = b.att ∧ (delTo b id k).blk = b.blk
 | 0,_ => ⟨rfl,rfl,rfl,rfl,rfl⟩
 | k + 1,hk => by
  obtain ⟨h1,h2,h3,h4,h5⟩:=delTo_rest b id (k:=k) (by omega)
  obtain ⟨e1,e2,e3,e4,e5⟩:=seti_rest (delTo b id k) (nq id (b.li k)) (by omega:k < 8)
  exact ⟨e1.trans h1,e2.trans h2,e3.trans h3,e4.trans h4,e5.trans h5⟩
theorem delTo_li (b:Bd) (id:Int):∀ {k q:Nat},k ≤ q → q < 8 → (delTo b id k).li q = b.li q
 | 0,q,_,_ => rfl
 | k + 1,q,h1,h2 => by
  show ((delTo b id k).seti k _).li q = _
  rw [li_other _ _ (by omega) (by omega)]
  exact delTo_li b id (by omega) h2
structure OtS (w:World) (b:Bd) (id:Int) (m:BdM) (B k:Nat) (W:World):Prop where
 P:Blk W w.heap.size 33 ((delTo b id k).cells m).toArray
 D:BdO W B (delTo b id k) m
 I:Blk W (w.heap.size + 1) 3 #[.int .i64 id]
 res:Blk W (w.heap.size + 2) 33 zbd
 bel:Below w.heap.size w W
 hB:w.heap.size + 2 < B
theorem OtS.below {w:World} {b:Bd} {id:Int} {m:BdM} {B k:Nat} {W W':World} (h:OtS w b id m B k W) (hb:Below W.heap.size W W'):OtS w b id m B k W':=⟨h.P.call hb,h.D.below hb,h.I.call hb,h.res.call hb,below_call h.bel hb h.bel.size,h.hB⟩
theorem OtS.step {w:World} {b:Bd} {id:Int} {m:BdM} {B k:Nat} {W W':World} (h:OtS w b id m B k W) (hk:k < 8) (hg:W.grownBy W' (blkOf (m.sl k).A)) (hx:XOwns W' B 3 1 (m.sl k).A (nq id (b.li k)).length (m.sl k).c (ics (nq id (b.li k)))) :
  OtS w b id m B (k + 1) (W'.setCell ⟨w.heap.size,offL k,none⟩ ((m.sl k).v (nq id (b.li k)).length)):=by
 have hl:=h.D.l k (by omega)
 have hne:∀ {g t:Nat} {cs:Array Value},Blk W g t cs → g < B → some g ≠ blkOf (m.sl k).A:=fun hb hlt e => by
  have:=(hl.lt _ e.symm).1
  omega
 have hB:=h.hB
 have hP:=h.P.grown hg (hne h.P (by omega))
 have hI:=h.I.grown hg (hne h.I (by omega))
 have hR:=h.res.grown hg (hne h.res (by omega))
 have hD:=h.D.list hk hg hx
 have hg2:W'.grownBy (W'.setCell ⟨w.heap.size,offL k,none⟩ ((m.sl k).v (nq id (b.li k)).length)) (some w.heap.size):=only_setCell (only_refl _ _) (.inl rfl) _
 have hP2:=hP.put (offL k) ((m.sl k).v (nq id (b.li k)).length)
 rw [cells_seti (delTo b id k) m (m.sl k) (nq id (b.li k)) hk,set_self m hk] at hP2
 exact ⟨hP2,hD.blk hP hg2 off_board,hI.grown hg2 (fun e => by injection e with e;omega),hR.grown hg2 (fun e => by injection e with e;omega),(h.bel.grown hg h.bel.size (fun q hq => by have:=(hl.lt q hq).1;omega)).grown hg2 (Nat.le_trans h.bel.size hg.size) (fun q hq => by injection hq with hq;omega),hB⟩
theorem OtS.same {w:World} {b:Bd} {id:Int} {m:BdM} {B k o:Nat} {v:Value} {W:World} (h:OtS w b id m B k W) (ho:((delTo b id k).cells m).toArray[o]? = some v):OtS w b id m B k (W.setCell ⟨w.heap.size,o,none⟩ v):=by
 have hg:W.grownBy (W.setCell ⟨w.heap.size,o,none⟩ v) (some w.heap.size):=only_setCell (only_refl _ _) (.inl rfl) _
 have hP:=h.P.put o v
 have hs:((delTo b id k).cells m).toArray.setIfInBounds o v = ((delTo b id k).cells m).toArray:=by
  apply Array.ext_getElem?
  intro i
  by_cases e:o = i
  ·subst e
   have hlt:=(Array.getElem?_eq_some_iff.1 ho).1
   rw [Array.getElem?_setIfInBounds_self_of_lt hlt,ho]
  ·rw [Array.getElem?_setIfInBounds_ne e]
 rw [hs] at hP
 exact ⟨hP,h.D.blk h.P hg off_board,h.I.grown hg (fun e => by injection e with e;omega),h.res.grown hg (fun e => by injection e with e;omega),h.bel.grown hg h.bel.size (fun q hq => by injection hq with hq;omega),h.hB⟩
def OutEnd (b:Bd) (id:Int) (w:World) (e:Ending) (w':World):Prop:=∃ m',e = .returned (.agg ((delTo b id 8).cells m').toArray) ∧ BdO w' w.heap.size (delTo b id 8) m' ∧ Below w.heap.size w w'
set_option maxRecDepth 100000 in
set_option maxHeartbeats 6400000 in
theorem out_any (b:Bd) (m:BdM) (id:Int) (w:World) (hR:BdR w b m) (hsm:BdSm b) (h1:b.stk = []) (h2:b.att = []) (h3:b.blk = []):Calls Tryz.prog 53 #[.agg (b.cells m).toArray,.int .i64 id] w (OutEnd b id w):=by
 have HR:=Lib.hid hR
 have HSM:=Lib.hid hsm
 have HZ:=Lib.hid (And.intro h1 (And.intro h2 h3))
 obtain ⟨cs,hcs⟩:∃ cs,(b.cells m).toArray = cs:=⟨_,rfl⟩
 have HCS:=Lib.hid hcs
 have hsz:cs.toList.length = 38:=by rw [← hcs];rfl
 obtain ⟨w2,hw2⟩:∃ w2,((w.alloc (.cells cs 33)).alloc (.cells #[.int .i64 id] 3)).alloc (.cells zbd 33) = w2:=⟨_,rfl⟩
 have HB2:Hid (Below w.heap.size w w2):=Lib.hid (by rw [← hw2];exact (((Below.refl _ _).alloc (Nat.le_refl _) _).alloc (by simp) _).alloc (by simp;omega) _)
 have HBX2:Hid (Blk w2 w.heap.size 33 cs):=Lib.hid (by rw [← hw2];exact ((Blk.mk_ w _ _ _ rfl).alloc _).alloc _)
 have HI2:Hid (Blk w2 (w.heap.size + 1) 3 #[.int .i64 id]):=Lib.hid (by rw [← hw2];exact (Blk.mk_ _ _ _ _ (by simp)).alloc _)
 have HRS2:Hid (Blk w2 (w.heap.size + 2) 33 zbd):=Lib.hid (by rw [← hw2];exact Blk.mk_ _ _ _ _ (by simp))
 have HL2:Hid ((Instr.loadAt 33 (.pointer (some ⟨w.heap.size,0,none⟩))).run Tryz.prog w2 = .ok (.agg cs) w2):=Lib.hid (by
  have:=HBX2.out.mid (o:=0) (ty:=33) cs.toList _ (fun j v hj => by rw [Nat.zero_add];simpa using hj) Tryz.underlying33 rfl (by rw [hsz];exact size_board)
  rwa [Array.toArray_toList] at this)
 have HC:Hid (Calls Tryz.prog 25 #[.agg cs] w2 (CopyEnd b w2)):=Lib.hid (by rw [← hcs];exact copy_any b m w2 (hR.below HB2.out) hsm)
 rw [hcs]
 unfold zbd at hw2
 clear hR hsm hcs hsz h1 h2 h3
 go_enter Tryz.func53,Tryz.ntmps53
 go_wp2_with (first
  | (refine wpList_load_by HL2.out rfl rfl rfl ?_;simp only [Act.put,List.setIfInBounds_toArray,List.set_cons_succ,List.set_cons_zero])
  | (go_at_call 25;refine HC.out.mono ?_;rintro e w4 ⟨m1,rfl,ho4,hb4⟩;obtain ⟨w5,hst,hp5,hg5⟩:=(HBX2.out.call hb4).storeAll (ty:=33) (b.cells m1) (by rw [← HCS.out];rfl) (by rw [size_board];rfl) (one_bd _ _);have HST:=Lib.hid hst;have HF5:Hid (OtS w b id m1 w2.heap.size 0 w5):=Lib.hid ⟨hp5,ho4.blk (HBX2.out.call hb4) hg5 off_board,(HI2.out.call hb4).grown hg5 (fun e => by injection e with e;omega),(HRS2.out.call hb4).grown hg5 (fun e => by injection e with e;omega),(below_call HB2.out hb4 HB2.out.size).grown hg5 (Nat.le_trans HB2.out.size hb4.size) (fun q hq => by injection hq with hq;omega),HRS2.out.lt⟩;clear ho4 hb4 hst hp5 hg5)
  | (refine wpList_store_by HST.out rfl rfl rfl rfl ?_;simp only [Act.put,List.setIfInBounds_toArray,List.set_cons_succ,List.set_cons_zero])
  | fail)
 obtain ⟨B,hB⟩:∃ x,w2.heap.size = x:=⟨_,rfl⟩
 rw [hB] at HF5
 clear hB hw2 HB2 HBX2 HI2 HRS2 HL2 HC HST
 go_loopw [12] (fun i W => ∃ p:Nat,p ≤ 2 ∧ i = .int .i64 p ∧ Hid (OtS w b id m1 B (4 * p) W)) (fun i _ => 2 - (intOf i).toNat)
 case atStart => exact ⟨0,by omega,rfl,HF5⟩
 case round =>
  obtain ⟨p,hp,rfl,HF⟩:=hrel
  clear HF5
  by_cases hp2:p < 2
  ·have hp2':(p:Int) < 2:=by omega
   have HP2:=Lib.hid hp2
   go_wp2_with fail
   refine (lists_any w.heap.size (1 + p * 14) wr).mono ?_
   rintro e w3 ⟨rfl,hb3⟩
   have HF3:=Lib.hid (HF.out.below hb3)
   clear hb3 HF
   have HIX:Hid (∀ (j:Nat) (W:World),j < 4 → (Instr.index 111 (.agg #[.pointer (some ⟨w.heap.size,1 + p * 14 + 5,none⟩),.pointer (some ⟨w.heap.size,1 + p * 14 + 6,none⟩),.pointer (some ⟨w.heap.size,1 + p * 14 + 7,none⟩),.pointer (some ⟨w.heap.size,1 + p * 14 + 8,none⟩)]) (.int .i64 j)).run Tryz.prog W = .ok (.pointer (some ⟨w.heap.size,offL (4 * p + j),none⟩)) W):=Lib.hid (fun j W hj => by
    rcases (show j = 0 ∨ j = 1 ∨ j = 2 ∨ j = 3 by omega) with rfl | rfl | rfl | rfl <;> rcases (show p = 0 ∨ p = 1 by have:=HP2.out;omega) with rfl | rfl <;> simp [Instr.index,run_underlying Tryz.underlying111,asIntOf,go_sem,offL])
   obtain ⟨PV,hPV⟩:∃ v,#[Value.pointer (some ⟨w.heap.size,1 + p * 14 + 5,none⟩),.pointer (some ⟨w.heap.size,1 + p * 14 + 6,none⟩),.pointer (some ⟨w.heap.size,1 + p * 14 + 7,none⟩),.pointer (some ⟨w.heap.size,1 + p * 14 + 8,none⟩)] = v:=⟨_,rfl⟩
   rw [hPV] at HIX
   rw [hPV]
   clear hPV hp2
   go_wp2_with fail
   go_loopw [19] (fun i W => ∃ j:Nat,j ≤ 4 ∧ i = .int .i64 j ∧ Hid (OtS w b id m1 B (4 * p + j) W)) (fun i _ => 4 - (intOf i).toNat)
   case atStart => exact ⟨0,by omega,rfl,HF3⟩
   case round =>
    obtain ⟨j,hj,rfl,HFJ⟩:=hrel
    clear HF3
    by_cases hj4:j < 4
    ·have hj4':(j:Int) < 4:=by omega
     have HJ:=Lib.hid hj4
     obtain ⟨q,hq⟩:∃ q,4 * p + j = q:=⟨_,rfl⟩
     have HQ:=Lib.hid hq
     have HQ8:Hid (q < 8):=Lib.hid (by have:=HP2.out;omega)
     have hix:∀ W,_:=fun W => HIX.out j W hj4
     rw [hq] at hix HFJ
     obtain ⟨⟨LA,Lc⟩,hL⟩:∃ s,m1.sl q = s:=⟨_,rfl⟩
     obtain ⟨nl,hnl⟩:∃ n,(b.li q).length = n:=⟨_,rfl⟩
     have hat:=cells_at (delTo b id q) m1 HQ8.out
     rw [hL,delTo_li b id (Nat.le_refl q) HQ8.out,hnl] at hat
     have hc:=(HFJ.out.P.at_ (offL q)).trans hat
     rw [show Sl.v ⟨LA,Lc⟩ nl = .slice LA nl Lc from rfl] at hc
     have hX:=HFJ.out.D.l q (by have:=HQ8.out;omega)
     rw [hL,delTo_li b id (Nat.le_refl q) HQ8.out,hnl] at hX
     have HDE:=Lib.hid (delI_any wr B nl Lc LA (b.li q) id (w.heap.size + 1) hX ⟨HFJ.out.I.lt,(HFJ.out.I.at_ 0).trans rfl⟩ (by have:=HFJ.out.hB;omega) (by have:=HSM.out.li HQ8.out;omega))
     have HL:=Lib.hid hL
     have f9:∀ W,wr.grownBy W (blkOf LA) → W.frozen? ⟨w.heap.size,offL q,none⟩ = false ∧ (∃ u,W.cell? ⟨w.heap.size,offL q,none⟩ = some u) ∧ w.heap.size < W.heap.size:=fun W hg => by
      have hP:=HFJ.out.P.grown hg (fun e => by have:=(hX.lt _ e.symm).1;have:=HFJ.out.hB;omega)
      exact ⟨hP.free _,⟨_,(hP.at_ (offL q)).trans (cells_at _ _ HQ8.out)⟩,hP.lt⟩
     have HF9:=Lib.hid f9
     clear hL hnl hat hj4 hX f9
     go_wp2_with fail
     refine HDE.out.mono ?_
     rintro e w5 ⟨rfl,hx5,hg5⟩
     obtain ⟨f9,⟨u9,q9⟩,l9⟩:=HF9.out w5 hg5
     have HST:=Lib.hid (HFJ.out.step HQ8.out (by rw [HL.out];exact hg5) (by rw [HL.out];exact hx5))
     rw [HL.out] at HST
     clear hx5 hg5 hc hix HFJ HDE HF9
     go_wp2_with fail
     go_roundw
     case rel => exact ⟨j + 1,by have:=HJ.out;omega,by go_num,Lib.hid (by rw [show 4 * p + (j + 1) = q + 1 by have:=HQ.out;omega];exact HST.out)⟩
     case measure => simp [intOf];have:=HJ.out;omega
    ·have hj4':decide ((j:Int) < 4) = false:=by simp;omega
     have HJ4:Hid (j = 4):=Lib.hid (by omega)
     clear hj hj4
     go_wp2_with fail
     go_roundw
     case rel => exact ⟨p + 1,by have:=HP2.out;omega,by go_num,Lib.hid (by rw [show 4 * (p + 1) = 4 * p + j by have:=HJ4.out;omega];exact HFJ.out)⟩
     case measure => simp [intOf];have:=HP2.out;omega
  ·have hp2':decide ((p:Int) < 2) = false:=by simp;omega
   rw [show 4 * p = 8 by omega] at HF
   obtain ⟨r1,r2,r3,r4,r5⟩:=delTo_rest b id (k:=8) (Nat.le_refl _)
   obtain ⟨⟨SA,Sc⟩,hS⟩:∃ s,m1.S = s:=⟨_,rfl⟩
   obtain ⟨⟨AA,Ac⟩,hA⟩:∃ s,m1.AT = s:=⟨_,rfl⟩
   obtain ⟨⟨KA,Kc⟩,hK⟩:∃ s,m1.BK = s:=⟨_,rfl⟩
   have o29:((delTo b id 8).cells m1).toArray[29]? = some (.slice SA 0 Sc):=by
    show some (m1.S.v (delTo b id 8).stk.length) = _
    rw [r2,HZ.out.1,hS]
    rfl
   have o31:((delTo b id 8).cells m1).toArray[31]? = some (.slice AA 0 Ac):=by
    show some (m1.AT.v (delTo b id 8).att.length) = _
    rw [r4,HZ.out.2.1,hA]
    rfl
   have o32:((delTo b id 8).cells m1).toArray[32]? = some (.slice KA 0 Kc):=by
    show some (m1.BK.v (delTo b id 8).blk.length) = _
    rw [r5,HZ.out.2.2,hK]
    rfl
   have HO:=Lib.hid (And.intro o29 (And.intro o31 o32))
   have HI:=Lib.hid HF.out.I
   have c29:=(HF.out.P.at_ 29).trans o29
   have f29:=HF.out.P.free 29
   have l29:=HF.out.P.lt
   clear hp hp2 r1 r2 r3 r4 r5 hS hA hK o29 o31 o32
   go_wp2_with (first
    | (go_at_call 88;refine (delX0_any SA Sc _ wr).mono ?_;rintro e w_ ⟨rfl,rfl⟩;obtain ⟨w6,hw6⟩:∃ x,wr.setCell ⟨w.heap.size,29,none⟩ (.slice SA 0 Sc) = x:=⟨_,rfl⟩;have HF6:Hid (OtS w b id m1 B 8 w6):=Lib.hid (by rw [← hw6];exact HF.out.same HO.out.1);have c31:=(HF6.out.P.at_ 31).trans HO.out.2.1;have f31:=HF6.out.P.free 31;have l31:=HF6.out.P.lt)
    | (go_at_call 87;refine (delN0_any AA Ac _ w6).mono ?_;rintro e w_ ⟨rfl,rfl⟩;obtain ⟨w7,hw7⟩:∃ x,w6.setCell ⟨w.heap.size,31,none⟩ (.slice AA 0 Ac) = x:=⟨_,rfl⟩;have HF7:Hid (OtS w b id m1 B 8 w7):=Lib.hid (by rw [← hw7];exact HF6.out.same HO.out.2.1);have c32:=(HF7.out.P.at_ 32).trans HO.out.2.2;have f32:=HF7.out.P.free 32;have l32:=HF7.out.P.lt)
    | (go_at_call 90;refine (delK0_any KA Kc _ w7).mono ?_;rintro e w_ ⟨rfl,rfl⟩;obtain ⟨w8,hw8⟩:∃ x,w7.setCell ⟨w.heap.size,32,none⟩ (.slice KA 0 Kc) = x:=⟨_,rfl⟩;have HF8:Hid (OtS w b id m1 B 8 w8):=Lib.hid (by rw [← hw8];exact HF7.out.same HO.out.2.2);have hb:=HF8.out.P;have hone:=one_bd (delTo b id 8) m1;have hlen:((delTo b id 8).cells m1).length = 38:=rfl;obtain ⟨BC,hBC⟩:∃ l,(delTo b id 8).cells m1 = l:=⟨_,rfl⟩;rw [hBC] at hb hone hlen;have HLP:Hid ((Instr.loadAt 33 (.pointer (some ⟨w.heap.size,0,none⟩))).run Tryz.prog w8 = .ok (.agg BC.toArray) w8):=Lib.hid (hb.mid BC _ (fun j v hj => by rw [Nat.zero_add];simpa using hj) Tryz.underlying33 rfl (by rw [size_board,hlen]));obtain ⟨W9,hst,hB9,hg9⟩:=HF8.out.res.storeAll (ty:=33) BC (by rw [hlen];rfl) (by rw [size_board,hlen]) hone;have HST:=Lib.hid hst;have HB9:=Lib.hid hB9;have HEND:Hid (BdO W9 w.heap.size (delTo b id 8) m1 ∧ Below w.heap.size w W9):=Lib.hid ⟨(HF8.out.D.blk HF8.out.res hg9 off_board).more (by have:=HF8.out.hB;omega),HF8.out.bel.grown hg9 HF8.out.bel.size (fun q hq => by injection hq with hq;omega)⟩;have HBE:=Lib.hid hBC;have HLEN:=Lib.hid hlen;clear hb hone hlen hBC hst hB9 hg9)
    | (refine wpList_load_by HLP.out rfl rfl rfl ?_;simp only [Act.put,List.setIfInBounds_toArray,List.set_cons_succ,List.set_cons_zero])
    | (refine wpList_store_by HST.out rfl rfl rfl rfl ?_;simp only [Act.put,List.setIfInBounds_toArray,List.set_cons_succ,List.set_cons_zero])
    | fail)
   refine bodyPost_ret (v:=.agg BC.toArray) (ret_cell (fn:=Tryz.f53) (p:=4) rfl rfl HB9.out Tryz.underlying33 rfl (by rw [size_board];simp [HLEN.out])) rfl ?_
   exact ⟨_,by rw [HBE.out],HEND.out.1,HEND.out.2⟩
end Go.Proofs.YtagpphelgghbpaaGreat
