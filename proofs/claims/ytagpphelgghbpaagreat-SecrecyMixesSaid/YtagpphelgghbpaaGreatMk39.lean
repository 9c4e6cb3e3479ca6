/-
  Texts: Mov.
-/
import Derived.Test.YtagpphelgghbpaaGreatMk38
import Derived.Test.YtagpphelgghbpaaGreatMk34
set_option linter.unusedSimpArgs false
set_option linter.unusedVariables false
namespace Go.Proofs.YtagpphelgghbpaaGreat
open Go.RowKit

def setL:List Value → Nat → List Value → List Value
 | xs,_,[] => xs
 | xs,o,v :: r => setL (xs.set o v) (o + 1) r
theorem setL_app (ys:List Value) (k:Nat):∀ (vs xs:List Value),setL (xs ++ ys) (xs.length + k) vs = xs ++ setL ys k vs
 | vs,xs => by
  induction vs generalizing ys k with
  | nil => rfl
  | cons v r ih =>
   rw [setL,setL,List.set_append_right _ _ (by omega),show xs.length + k - xs.length = k by omega,show xs.length + k + 1 = xs.length + (k + 1) by omega]
   exact ih _ _
theorem setL_ocs {l:List Ob} {i:Nat} {o:Ob} (hi:l[i]? = some o) (o':Ob):setL (ocs l) (i * 12) o'.cells = ocs (l.set i o'):=by
 unfold ocs
 induction l generalizing i with
 | nil => simp at hi
 | cons p l ih =>
  cases i with
  | zero => simp [setL,Ob.cells]
  | succ i =>
   rw [List.set_cons_succ,List.flatMap_cons,List.flatMap_cons,← ih (i:=i) (by simpa using hi),show (i + 1) * 12 = p.cells.length + i * 12 by show _ = 12 + i * 12;omega]
   exact setL_app _ _ _ _
theorem xs_setL12 {B e n c g:Nat}:∀ (vs:List Value) (o:Nat) (W:World) (xs:List Value),XOwns W B e 12 (some ⟨g,0,none⟩) n c xs → XOwns (W.setCells g o vs) B e 12 (some ⟨g,0,none⟩) n c (setL xs o vs)
 | [],o,W,xs,h => h
 | v :: r,o,W,xs,h => xs_setL12 r (o + 1) _ _ (h.setX o v)
theorem one_obc (o:Ob):∀ v ∈ o.cells,v.oneCell' = true:=by
 intro v hv
 simp only [Ob.cells,List.mem_cons,List.not_mem_nil,or_false] at hv
 rcases hv with rfl | rfl | rfl | rfl | rfl | rfl | rfl | rfl | rfl | rfl | rfl | rfl <;> rfl
theorem own_put {W:World} {B n c gB:Nat} {l:List Ob} (h:XOwns W B 46 12 (some ⟨gB,0,none⟩) n c (ocs l)) {i:Nat} {o:Ob} (hi:l[i]? = some o) (o':Ob) :
  ∃ W',(Instr.storeAt 46 (.pointer (some ⟨gB,i * 12,none⟩)) (.agg o'.cells.toArray)).run Tryz.prog W = .ok () W' ∧ XOwns W' B 46 12 (some ⟨gB,0,none⟩) n c (ocs (l.set i o')) ∧ W.grownBy W' (some gB):=by
 have hcell:∀ j,j < 12 → ∃ v,W.cell? ⟨gB,i * 12 + j,none⟩ = some v ∧ W.frozen? ⟨gB,i * 12 + j,none⟩ = false:=fun j hj => by
  have hx:∃ u,o.cells[j]? = some u:=⟨_,List.getElem?_eq_getElem (by show j < 12;exact hj)⟩
  obtain ⟨u,hu⟩:=hx
  obtain ⟨g',e,-,-,h1,h2⟩:=h.cell (j:=i * 12 + j) (u:=u) (by rw [ocs,flatMap_at (enc:=Ob.cells) (k:=12) (fun _ => rfl) hi hj];exact hu)
  injection e with e
  injection e with e
  subst e
  exact ⟨u,h1,h2⟩
 refine ⟨_,run_storeAt_mid W gB (i * 12) 46 o'.cells.toArray (fun j hj => ?_) (by rw [size_object];rfl) (all_oneCell_toArray (one_obc o')),?_,setCells_only _ _ _ (only_refl _ _)⟩
 ·obtain ⟨v,h1,h2⟩:=hcell j (by simpa [Ob.cells] using hj)
  exact ⟨by rw [h1];rfl,h2⟩
 ·have h9:=xs_setL12 o'.cells (i * 12) W _ h
  rw [setL_ocs hi o'] at h9
  exact h9
def rstO (o:Ob):Ob:={ o with dam:=0,pp:=0,pt:=0,cnt:=0,tap:=false,doom:=false,sick:=true }
def movB (b:Bd) (id:Int) (i:Nat) (o:Ob):Bd:={ ((delTo b id 8).seti 2 (nq id b.s0.fld ++ [id])) with objs:=b.objs.set i (rstO o) }
theorem BdO.app {W W':World} {B:Nat} {b:Bd} {m:BdM} (h:BdO W B b m) {k:Nat} (hk:k < 8) {l':List Int} {g8 c8:Nat} (hg:W.grownBy W' (blkOf (m.sl k).A)) (hi:blkOf (m.sl k).A = some g8 ∨ W.heap.size ≤ g8) (ho:XOwns W' B 3 1 (some ⟨g8,0,none⟩) l'.length c8 (ics l')):BdO W' B (b.seti k l') (m.set k ⟨some ⟨g8,0,none⟩,c8⟩):=by
 obtain ⟨h1,h2⟩:=ints_app hk h.l h.ap hg hi ho
 obtain ⟨e1,e2,e3,e4,e5⟩:=seti_rest b l' hk
 obtain ⟨f1,f2,f3,f4,f5,f6,f7⟩:=set_rest m ⟨some ⟨g8,0,none⟩,c8⟩ hk
 have hl:=h.l k (by omega)
 exact ⟨by rw [e1,f1];exact h.O.grown hg (h.O.apart hl (by decide)),h1,h2,by rw [e2,f2,f4];exact h.S.apart_ hl hg,by rw [e3,f3,f5];exact h.Q.apart_ hl hg,by rw [e5,f7];exact h.BK.grown hg (h.BK.apart hl (by decide))⟩
theorem mov_c0 {d:Bd} {m:BdM} {gB Oc no:Nat} {l:List Ob} (hA:m.O.A = some ⟨gB,0,none⟩) (hOc:m.O.c = Oc) (ho:d.objs = l) (hn:l.length = no):(d.cells m).toArray[0]? = some (.slice (some ⟨gB,0,none⟩) no Oc):=by
 show some (m.O.v d.objs.length) = _
 unfold Sl.v
 rw [hA,hOc,ho,hn]
theorem mov_ld {W:World} {B n c gB i:Nat} {A:Option Addr} {l:List Ob} {o:Ob} (h:XOwns W B 46 12 A n c (ocs l)) (hA:A = some ⟨gB,0,none⟩) (hi:l[i]? = some o):(Instr.loadAt 46 (.pointer (some ⟨gB,i * 12,none⟩))).run Tryz.prog W = .ok (.agg o.cells.toArray) W:=by
 subst hA
 exact run_loadAt_mid W gB (i * 12) 46 o.cells _ (fun j v hj => own_obj h hi (by have:=(List.getElem?_eq_some_iff.1 hj).1;exact this) hj) Tryz.underlying46 rfl (by rw [size_object];rfl)
structure MovE (d:Bd) (m:BdM) (B:Nat) (w:World) (gB g10:Nat) (RC:Array Value) (i:Nat) (o:Ob) (W W':World):Prop where
 run:(Instr.storeAt 46 (.pointer (some ⟨gB,i * 12,none⟩)) (.agg RC)).run Tryz.prog W = .ok () W'
 D:BdO W' B { d with objs:=d.objs.set i (rstO o) } m
 P:Blk W' w.heap.size 33 (d.cells m).toArray
 R:Blk W' (w.heap.size + 1) 33 zbd
 B:Below w.heap.size w W'
 K:Blk W' g10 46 RC
theorem mov_put {d:Bd} {m:BdM} {B:Nat} {w:World} {gB g10:Nat} {RC:Array Value} {i:Nat} {o:Ob} {W:World} (hB:w.heap.size + 1 < B) (hD:BdO W B d m) (hP:Blk W w.heap.size 33 (d.cells m).toArray) (hR:Blk W (w.heap.size + 1) 33 zbd) (hb:Below w.heap.size w W) (hK:Blk W g10 46 RC)
  (hA:m.O.A = some ⟨gB,0,none⟩) (hne:gB ≠ g10) (hi:d.objs[i]? = some o) (hRC:(rstO o).cells.toArray = RC):∃ W',MovE d m B w gB g10 RC i o W W':=by
 have hX:=hD.O
 rw [hA] at hX
 obtain ⟨W',hrun,hX',hg⟩:=own_put hX hi (rstO o)
 rw [hRC] at hrun
 have hgB:=hX.lt gB rfl
 have hlt:i < d.objs.length:=(List.getElem?_eq_some_iff.1 hi).1
 exact ⟨W',hrun,hD.objs hA hg (by omega) (l:=d.objs.set i (rstO o)) (by rw [List.length_set,hA];exact hX'),hP.grown hg (fun e => by injection e with e;omega),hR.grown hg (fun e => by injection e with e;omega),hb.grown hg hb.size (fun q hq => by injection hq with hq;omega),hK.grown hg (fun e => by injection e with e;omega)⟩
theorem mov_app {d2:Bd} {m:BdM} {B nf g8 c8:Nat} {w W9 W10 W11 W12:World} {id:Int} (hB:w.heap.size + 1 < B) (hBz:B ≤ W9.heap.size) (hD:BdO W9 B d2 m) (hP:Blk W9 w.heap.size 33 (d2.cells m).toArray) (hR:Blk W9 (w.heap.size + 1) 33 zbd) (hb:Below w.heap.size w W9) (hb10:Below W9.heap.size W9 W10)
  (hnf:(d2.li 2).length = nf) (ho:XOwns W11 B 3 1 (some ⟨g8,0,none⟩) (nf + 1) c8 (ics (d2.li 2) ++ ics [id])) (hg:W10.grownBy W11 (blkOf (m.sl 2).A)) (hi:blkOf (m.sl 2).A = some g8 ∨ g8 = W10.heap.size) (h12:W11.setCell ⟨w.heap.size,8,none⟩ (.slice (some ⟨g8,0,none⟩) (nf + 1) c8) = W12) :
  BdO W12 B (d2.seti 2 (d2.li 2 ++ [id])) (m.set 2 ⟨some ⟨g8,0,none⟩,c8⟩) ∧ Blk W12 w.heap.size 33 ((d2.seti 2 (d2.li 2 ++ [id])).cells (m.set 2 ⟨some ⟨g8,0,none⟩,c8⟩)).toArray ∧ Blk W12 (w.heap.size + 1) 33 zbd ∧ Below w.heap.size w W12:=by
 have hD10:=hD.below hb10
 have hl:=hD10.l 2 (by decide)
 have hne:∀ {g:Nat},g < B → some g ≠ blkOf (m.sl 2).A:=fun hlt e => by
  have:=(hl.lt _ e.symm).1
  omega
 have hlen:(d2.li 2 ++ [id]).length = nf + 1:=by rw [List.length_append,hnf];rfl
 have hD11:=hD10.app (k:=2) (by decide) (l':=d2.li 2 ++ [id]) hg (hi.imp_right (fun h => by omega)) (by rw [hlen,show ics (d2.li 2 ++ [id]) = ics (d2.li 2) ++ ics [id] by simp [ics]];exact ho)
 have hP11:=(hP.call hb10).grown hg (hne (by omega))
 have hR11:=(hR.call hb10).grown hg (hne (by omega))
 have hB11:=(below_call hb hb10 hb.size).grown hg (Nat.le_trans hb.size hb10.size) (fun q hq => by have:=(hl.lt q hq).1;omega)
 have hg2:W11.grownBy W12 (some w.heap.size):=by rw [← h12];exact only_setCell (only_refl _ _) (.inl rfl) _
 have hP12:Blk W12 w.heap.size 33 ((d2.seti 2 (d2.li 2 ++ [id])).cells (m.set 2 ⟨some ⟨g8,0,none⟩,c8⟩)).toArray:=by
  have h:=hP11.put 8 (.slice (some ⟨g8,0,none⟩) (nf + 1) c8)
  have hc:=cells_seti d2 m ⟨some ⟨g8,0,none⟩,c8⟩ (d2.li 2 ++ [id]) (k:=2) (by decide)
  rw [hlen] at hc
  rw [h12] at h
  rw [← hc]
  exact h
 exact ⟨hD11.blk hP11 hg2 off_board,hP12,hR11.grown hg2 (fun e => by injection e with e;omega),hB11.grown hg2 hB11.size (fun q hq => by injection hq with hq;omega)⟩
def OutD (d:Bd) (w:World) (e:Ending) (w':World):Prop:=∃ m',e = .returned (.agg (d.cells m').toArray) ∧ BdO w' w.heap.size d m' ∧ Below w.heap.size w w'
def MovEnd (b:Bd) (id:Int) (i:Nat) (o:Ob) (w:World) (e:Ending) (w':World):Prop:=∃ m',e = .returned (.tuple #[.agg ((movB b id i o).cells m').toArray,.int .i64 0]) ∧ BdO w' w.heap.size (movB b id i o) m' ∧ Below w.heap.size w w'
set_option maxRecDepth 100000 in
set_option maxHeartbeats 3200000 in
theorem move_any (b:Bd) (m:BdM) (w:World) (id:Int) (i:Nat) (o:Ob) (hR:BdR w b m) (hz:b.plc.length < 9223372036854775807) (hv:b.Valid) (hi:b.objs[i]? = some o) (hid:o.id = id) (hown:o.own = 0) (h1:b.stk = []) (h2:b.att = []) (h3:b.blk = []) :
  Calls Tryz.prog 21 #[.agg (b.cells m).toArray,.int .i64 id,.int .i64 2] w (MovEnd b id i o w):=by
 have HR:=Lib.hid hR
 have HSM:=Lib.hid (bd_sm hv)
 have hob:=obs_ok hv.2.2.2.2.2.1
 have hidr:0 ≤ id ∧ id ≤ 1000:=by have:=hob.1 o (List.mem_of_getElem? hi);omega
 obtain ⟨cs,hcs⟩:∃ cs,(b.cells m).toArray = cs:=⟨_,rfl⟩
 have HCS:=Lib.hid hcs
 have hsz:cs.toList.length = 38:=by rw [← hcs];rfl
 obtain ⟨w2,hw2⟩:∃ w2,(w.alloc (.cells cs 33)).alloc (.cells zbd 33) = w2:=⟨_,rfl⟩
 have HB2:Hid (Below w.heap.size w w2):=Lib.hid (by rw [← hw2];exact ((Below.refl _ _).alloc (Nat.le_refl _) _).alloc (by simp) _)
 have HBX2:Hid (Blk w2 w.heap.size 33 cs):=Lib.hid (by rw [← hw2];exact (Blk.mk_ w _ _ _ rfl).alloc _)
 have HRS2:Hid (Blk w2 (w.heap.size + 1) 33 zbd):=Lib.hid (by rw [← hw2];exact Blk.mk_ _ _ _ _ (by simp))
 have HLD:Hid (∀ W,Blk W w.heap.size 33 cs → (Instr.loadAt 33 (.pointer (some ⟨w.heap.size,0,none⟩))).run Tryz.prog W = .ok (.agg cs) W):=Lib.hid (fun W hW => by
  have:=hW.mid (o:=0) (ty:=33) cs.toList _ (fun j v hj => by rw [Nat.zero_add];simpa using hj) Tryz.underlying33 rfl (by rw [hsz];exact size_board)
  rwa [Array.toArray_toList] at this)
 have HIX:Hid (Calls Tryz.prog 52 #[.agg cs,.int .i64 id] w2 fun e w' => e = .returned (.tuple #[.int .i64 i,.int .i64 0]) ∧ Below w2.heap.size w2 w'):=Lib.hid (by
  rw [← hcs]
  refine (index_any b m id w2 (hR.below HB2.out) hz hv hidr).mono ?_
  rintro e w' ⟨⟨i',o',hi',ho',rfl⟩ | ⟨hn,_⟩,hb⟩
  ·have hii:i' = i:=by
    rcases Nat.lt_trichotomy i' i with h | h | h
    ·have:=hob.2 i' i o' o h hi' hi
     omega
    ·exact h
    ·have:=hob.2 i i' o o' h hi hi'
     omega
   exact ⟨by rw [hii],hb⟩
  ·exact absurd hid (hn o (List.mem_of_getElem? hi)))
 obtain ⟨d,hd⟩:∃ x,delTo b id 8 = x:=⟨_,rfl⟩
 have HOU:Hid (∀ W,Below w.heap.size w W → Calls Tryz.prog 53 #[.agg cs,.int .i64 id] W (OutD d W)):=Lib.hid (fun W hW => by rw [← hcs,← hd];exact out_any b m id W (hR.below hW) HSM.out h1 h2 h3)
 have HDO:Hid (d.objs = b.objs ∧ d.s0.fld = nq id b.s0.fld):=Lib.hid (by rw [← hd];exact ⟨(delTo_rest b id (Nat.le_refl _)).1,rfl⟩)
 have HDE:=Lib.hid hd
 have hcl:∀ m:BdM,(d.cells m).length = cs.size:=fun m => by
  rw [show (d.cells m).length = 38 from rfl,← hsz]
  simp
 have HCLN:=Lib.hid hcl
 have HI:=Lib.hid (And.intro hi (And.intro hid hown))
 have hin:i < b.objs.length:=(List.getElem?_eq_some_iff.1 hi).1
 have hn5:=HSM.out.O
 have HF:=Lib.hid (HSM.out.li (q:=2) (by decide))
 obtain ⟨RC,hRC⟩:∃ x,(rstO o).cells.toArray = x:=⟨_,rfl⟩
 have HRC:=Lib.hid hRC
 have HRE:Hid (∀ W,Calls Tryz.prog 54 #[.agg o.cells.toArray,.int .i64 2] W fun e w' => e = .returned (.agg RC) ∧ Below W.heap.size W w'):=Lib.hid (fun W => (oreset_any o 2 W).mono fun e w' h => ⟨by rw [h.1,← hRC];rfl,h.2⟩)
 rw [hcs]
 unfold zbd at hw2
 clear hR hz hv hi hid hown h1 h2 h3 hob hidr hcs hsz hd hcl hRC
 obtain ⟨no,hno⟩:∃ x,b.objs.length = x:=⟨_,rfl⟩
 rw [hno] at hin hn5
 have HNO:=Lib.hid hno
 clear hno
 go_enter Tryz.func21,Tryz.ntmps21
 go_wp2_with (first
  | (refine wpList_load_by (HLD.out w2 HBX2.out) rfl rfl rfl ?_;simp only [Act.put,List.setIfInBounds_toArray,List.set_cons_succ,List.set_cons_zero])
  | (go_at_call 52;refine HIX.out.mono ?_;rintro e w3 ⟨rfl,hb3⟩;have HB3:=Lib.hid (below_call HB2.out hb3 HB2.out.size);have HBX3:=Lib.hid (HBX2.out.call hb3);have HRS3:=Lib.hid (HRS2.out.call hb3);clear hb3)
  | (go_at_call 42;refine (within_any 2 0 3 _).mono ?_;rw [show inR 2 0 3 = true from rfl];rintro e w_ ⟨rfl,rfl⟩)
  | (refine wpList_load_by (HLD.out w3 HBX3.out) rfl rfl rfl ?_;simp only [Act.put,List.setIfInBounds_toArray,List.set_cons_succ,List.set_cons_zero])
  | (go_at_call 53;refine (HOU.out w3 HB3.out).mono ?_;rintro e w4 ⟨m1,rfl,ho4,hb4⟩;obtain ⟨w5,hst,hp5,hg5⟩:=(HBX3.out.call hb4).storeAll (ty:=33) (d.cells m1) (HCLN.out m1) (by rw [size_board];rfl) (one_bd _ _);have HST:=Lib.hid hst;have HP5:=Lib.hid hp5;have HD5:=Lib.hid (ho4.blk (HBX3.out.call hb4) hg5 off_board);have HR5:=Lib.hid ((HRS3.out.call hb4).grown hg5 (fun e => by injection e with e;omega));have HB5:=Lib.hid ((below_call HB3.out hb4 HB3.out.size).grown hg5 (Nat.le_trans HB3.out.size hb4.size) (fun q hq => by injection hq with hq;omega));obtain ⟨B,hB⟩:∃ x,w3.heap.size = x:=⟨_,rfl⟩;rw [hB] at HD5;have HBB:Hid (w.heap.size + 1 < B):=Lib.hid (by rw [← hB];exact HRS3.out.lt);obtain ⟨gB,hA,hBg,hBl⟩:=own_addr HD5.out.O (i:=i) (o:=o) (by rw [HDO.out.1];exact HI.out.1);obtain ⟨Oc,hOc⟩:∃ x,m1.O.c = x:=⟨_,rfl⟩;have HA:=Lib.hid (And.intro hA (And.intro hBg (And.intro hBl hOc)));have e5:w5.cell? ⟨w.heap.size,0,none⟩ = some (.slice (some ⟨gB,0,none⟩) no Oc):=(hp5.at_ 0).trans (mov_c0 hA hOc HDO.out.1 HNO.out);have HLO:Hid ((Instr.loadAt 46 (.pointer (some ⟨gB,i * 12,none⟩))).run Tryz.prog w5 = .ok (.agg o.cells.toArray) w5):=Lib.hid (mov_ld HD5.out.O hA (by rw [HDO.out.1];exact HI.out.1));clear ho4 hb4 hst hp5 hg5 hB hA hBg hBl hOc)
  | (refine wpList_store_by HST.out rfl rfl rfl rfl ?_;simp only [Act.put,List.setIfInBounds_toArray,List.set_cons_succ,List.set_cons_zero])
  | (refine wpList_load_by HLO.out rfl rfl rfl ?_;simp only [Act.put,List.setIfInBounds_toArray,List.set_cons_succ,List.set_cons_zero])
  | (go_at_call 54;refine (HRE.out w5).mono ?_;rintro e w6 ⟨rfl,hb6⟩;obtain ⟨g10,hg10⟩:∃ x,w6.heap.size = x:=⟨_,rfl⟩;obtain ⟨w7,hst7,hk7,hg7⟩:=(Blk.mk_ w6 46 #[.int .i64 0,.int .i64 0,.int .i64 0,.int .i64 0,.int .i64 0,.int .i64 0,.int .i64 0,.int .i64 0,.int .i64 0,.bool false,.bool false,.bool false] g10 hg10).storeAll (ty:=46) (rstO o).cells rfl (by rw [size_object];rfl) (one_obc _);have hb67:Below w6.heap.size w6 w7:=((Below.refl _ _).alloc (Nat.le_refl _) _).grown hg7 (by simp) (fun q hq => by injection hq with hq;omega);have hb57:=below_call hb6 hb67 hb6.size;rw [HRC.out] at hst7 hk7;have HST7:=Lib.hid hst7;have HP7:=Lib.hid (HP5.out.call hb57);have HD7:=Lib.hid (HD5.out.below hb57);have HR7:=Lib.hid (HR5.out.call hb57);have HB7:=Lib.hid (below_call HB5.out hb57 HB5.out.size);have HK7:=Lib.hid hk7;have e7:w7.cell? ⟨w.heap.size,0,none⟩ = some (.slice (some ⟨gB,0,none⟩) no Oc):=(keep_at hb57 w.heap.size HP5.out.lt 0).trans e5;have HL10:Hid ((Instr.loadAt 46 (.pointer (some ⟨g10,0,none⟩))).run Tryz.prog w7 = .ok (.agg RC) w7):=Lib.hid (by rw [← HRC.out];exact (show Blk w7 g10 46 (rstO o).cells.toArray by rw [HRC.out];exact hk7).mid (o:=0) (rstO o).cells _ (fun j v hj => by rw [Nat.zero_add];simpa using hj) Tryz.underlying46 rfl (by rw [size_object];rfl));have HW8:Hid (∃ w8,MovE d m1 B w gB g10 RC i o w7 w8):=Lib.hid (mov_put HBB.out HD7.out HP7.out HR7.out HB7.out hk7 HA.out.1 (by have:=HA.out.2.2.1;have:=hb6.size;omega) (by rw [HDO.out.1];exact HI.out.1) HRC.out);obtain ⟨w8,HE8⟩:=HW8.out;have HE8:=Lib.hid HE8;have HST8:=Lib.hid HE8.out.run;have cw:w8.cell? ⟨g10,2,none⟩ = some (.int .i64 0):=(HE8.out.K.at_ 2).trans (by rw [← HRC.out];show some (Value.int .i64 o.own) = _;rw [HI.out.2.2]);clear hb6 hst7 hk7 hg7 hb67 hb57)
  | (refine wpList_store_by HST7.out rfl rfl rfl rfl ?_;simp only [Act.put,List.setIfInBounds_toArray,List.set_cons_succ,List.set_cons_zero])
  | (refine wpList_load_by HL10.out rfl rfl rfl ?_;simp only [Act.put,List.setIfInBounds_toArray,List.set_cons_succ,List.set_cons_zero])
  | (refine wpList_store_by HST8.out rfl rfl rfl rfl ?_;simp only [Act.put,List.setIfInBounds_toArray,List.set_cons_succ,List.set_cons_zero])
  | (go_at_call 55;refine (lists_any w.heap.size 1 w8).mono ?_;rintro e w9 ⟨rfl,hb9⟩;have HD9:=Lib.hid (HE8.out.D.below hb9);have HR9:=Lib.hid (HE8.out.R.call hb9);have HB9:=Lib.hid (below_call HE8.out.B hb9 HE8.out.B.size);have HP9:=Lib.hid (HE8.out.P.call hb9);have hix:∀ W,(Instr.index 111 (.agg #[.pointer (some ⟨w.heap.size,6,none⟩),.pointer (some ⟨w.heap.size,7,none⟩),.pointer (some ⟨w.heap.size,8,none⟩),.pointer (some ⟨w.heap.size,9,none⟩)]) (.int .i64 2)).run Tryz.prog W = .ok (.pointer (some ⟨w.heap.size,8,none⟩)) W:=(fun W => by simp [Instr.index,run_underlying Tryz.underlying111,asIntOf,go_sem]);obtain ⟨d2,hd2⟩:∃ x,({ d with objs:=d.objs.set i (rstO o) }:Bd) = x:=⟨_,rfl⟩;have HD2:=Lib.hid hd2;have hcd:(d.cells m1).toArray = (d2.cells m1).toArray:=(by rw [← hd2];unfold Bd.cells;rw [List.length_set]);rw [hcd] at HP9;rw [hd2] at HD9;obtain ⟨⟨FA,Fc⟩,hFs⟩:∃ x,m1.sl 2 = x:=⟨_,rfl⟩;obtain ⟨nf,hnf⟩:∃ x,(d2.li 2).length = x:=⟨_,rfl⟩;have HFN:=Lib.hid (And.intro hFs hnf);have hnf5:nf ≤ 500:=(by rw [← hnf,← hd2];show d.s0.fld.length ≤ 500;rw [HDO.out.2];exact Nat.le_trans (List.length_filter_le _ _) HF.out);have e9:w9.cell? ⟨w.heap.size,8,none⟩ = some (.slice FA nf Fc):=(HP9.out.at_ 8).trans ((cells_at d2 m1 (k:=2) (by decide)).trans (by rw [hFs,hnf];rfl));obtain ⟨w10,hw10⟩:∃ x,w9.alloc (.cells #[.int .i64 id] 3) = x:=⟨_,rfl⟩;have hb10:Below w9.heap.size w9 w10:=(by rw [← hw10];exact (Below.refl _ _).alloc (Nat.le_refl _) _);have HB10:=Lib.hid hb10;have HK10:Hid (Blk w10 w9.heap.size 3 #[.int .i64 id]):=Lib.hid (by rw [← hw10];exact Blk.mk_ _ _ _ _ rfl);have HX10:Hid (XOwns w10 B 3 1 FA nf Fc (ics (d2.li 2))):=Lib.hid (by have h:=(HD9.out.below hb10).l 2 (by decide);rw [hFs,hnf] at h;exact h);have HBZ:Hid (B ≤ w9.heap.size):=Lib.hid (by have h1:=HA.out.2.1;have h2:=HD9.out.O;rw [HA.out.1] at h2;have h3:=h2.lt gB rfl;omega);clear hb9 hd2 hcd hFs hnf hb10)
  | (at_builtin;refine append_x (w:=w10) rfl (.tmp 55) (.tmp 57) 25 rfl B 3 _ 1 8 tinfo_ints Tryz.underlying25 rfl (by decide) FA nf Fc (ics (d2.li 2)) rfl HX10.out (some ⟨w9.heap.size,0,none⟩) 1 1 (ics [id]) rfl (reads_block HK10.out 1 1 rfl) (ics_one _) (by decide) (by omega) (by omega) (Nat.le_trans HBZ.out HB10.out.size) w10.heap.size rfl ?_;intro g8 c8 w11 ho8 hg8 hi8 hl8;simp only [Act.put,List.setIfInBounds_toArray,List.set_cons_succ,List.set_cons_zero];obtain ⟨w12,hw12⟩:∃ x,w11.setCell ⟨w.heap.size,8,none⟩ (.slice (some ⟨g8,0,none⟩) (nf + 1) c8) = x:=⟨_,rfl⟩;have hX9:=HX10.out;have hP11:=(HP9.out.call HB10.out).grown hg8 (fun e => by have:=(hX9.lt _ e.symm).1;have:=HBB.out;omega);have q9:=(hP11.at_ 8).trans (cells_at d2 m1 (k:=2) (by decide));have f9:=hP11.free 8;have l9:=hP11.lt;have HE12:=Lib.hid (mov_app HBB.out HBZ.out HD9.out HP9.out HR9.out HB9.out HB10.out HFN.out.2 ho8 (by rw [HFN.out.1];exact hg8) (by rw [HFN.out.1];exact hi8) hw12);obtain ⟨b9,hb9⟩:∃ x,d2.seti 2 (d2.li 2 ++ [id]) = x:=⟨_,rfl⟩;obtain ⟨m9,hm9⟩:∃ x,m1.set 2 ⟨some ⟨g8,0,none⟩,c8⟩ = x:=⟨_,rfl⟩;have HB9E:=Lib.hid hb9;rw [hb9,hm9] at HE12;have hb:=HE12.out.2.1;have hone:=one_bd b9 m9;have hlen:(b9.cells m9).length = 38:=rfl;obtain ⟨BC,hBC⟩:∃ l,b9.cells m9 = l:=⟨_,rfl⟩;rw [hBC] at hb hone hlen;have HLP:Hid ((Instr.loadAt 33 (.pointer (some ⟨w.heap.size,0,none⟩))).run Tryz.prog w12 = .ok (.agg BC.toArray) w12):=Lib.hid (hb.mid BC _ (fun j v hj => by rw [Nat.zero_add];simpa using hj) Tryz.underlying33 rfl (by rw [size_board,hlen]));obtain ⟨W9,hst,hB9,hg9⟩:=HE12.out.2.2.1.storeAll (ty:=33) BC (by rw [hlen];rfl) (by rw [size_board,hlen]) hone;have HST9:=Lib.hid hst;have HBL:=Lib.hid hB9;have HEND:Hid (BdO W9 w.heap.size b9 m9 ∧ Below w.heap.size w W9):=Lib.hid ⟨(HE12.out.1.blk HE12.out.2.2.1 hg9 off_board).more (by have:=HBB.out;omega),HE12.out.2.2.2.grown hg9 HE12.out.2.2.2.size (fun q hq => by injection hq with hq;omega)⟩;have HBE:=Lib.hid hBC;have HLEN:=Lib.hid hlen;clear hb hone hlen hBC hst hB9 hg9 hX9 hP11 ho8 hg8 hi8 hl8 hb9 hm9)
  | (refine wpList_load_by HLP.out rfl rfl rfl ?_;simp only [Act.put,List.setIfInBounds_toArray,List.set_cons_succ,List.set_cons_zero])
  | (refine wpList_store_by HST9.out rfl rfl rfl rfl ?_;simp only [Act.put,List.setIfInBounds_toArray,List.set_cons_succ,List.set_cons_zero])
  | fail)
 refine bodyPost_ret (v:=.tuple #[.agg BC.toArray,.int .i64 0]) (ret_cell2 (fn:=Tryz.f21) (p:=6) (q:=7) rfl rfl HBL.out Tryz.underlying33 rfl (by rw [size_board];simp [HLEN.out])) rfl ?_
 have hmv:b9 = movB b id i o:=by
  rw [← HB9E.out,← HD2.out]
  unfold movB
  rw [HDE.out,← HDO.out.1,← HDO.out.2]
  rfl
 exact ⟨m9,by rw [← hmv,HBE.out],by rw [← hmv];exact HEND.out.1,HEND.out.2⟩
end Go.Proofs.YtagpphelgghbpaaGreat
