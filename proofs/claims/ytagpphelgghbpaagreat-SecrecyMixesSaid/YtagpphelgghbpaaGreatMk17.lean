/-
  Texts: Bne, Shf.
-/
import Derived.Test.YtagpphelgghbpaaGreatMk16
import Derived.Test.YtagpphelgghbpaaGreatMk3
set_option linter.unusedSimpArgs false
set_option linter.unusedVariables false
namespace Go.Proofs.YtagpphelgghbpaaGreat
open Go.RowKit

theorem nbS_step0 {d0 d1:List Int} (life l1:Int) {q:Nat} {c:Int} (hd:(d0 ++ d1)[q]? = some c) (hq:q < d0.length):({ nbS life l1 d0 d1 q with objs:=(nbS life l1 d0 d1 q).objs ++ [⟨(q:Int) + 1,c,(if 0 = 0 then (0:Int) else 1),0,0,0,0,0,0,false,false,false⟩] }:Bd).seti 0 (({ nbS life l1 d0 d1 q with objs:=(nbS life l1 d0 d1 q).objs ++ [⟨(q:Int) + 1,c,(if 0 = 0 then (0:Int) else 1),0,0,0,0,0,0,false,false,false⟩] }:Bd).li 0 ++ [(q:Int) + 1]) = nbS life l1 d0 d1 (q + 1):=by
 have h1:=newObs_at hd
 rw [if_pos hq] at h1
 unfold nbS Bd.seti Bd.li
 dsimp only
 rw [take_snoc h1,Nat.min_eq_left (Nat.le_of_lt hq),Nat.min_eq_left hq,Nat.max_eq_right (Nat.le_of_lt hq),Nat.max_eq_right hq,idsF_snoc (Nat.zero_le q)]
 rfl
theorem nbS_step1 {d0 d1:List Int} (life l1:Int) {q:Nat} {c:Int} (hd:(d0 ++ d1)[q]? = some c) (hq:d0.length ≤ q):({ nbS life l1 d0 d1 q with objs:=(nbS life l1 d0 d1 q).objs ++ [⟨(q:Int) + 1,c,(if 1 = 0 then (0:Int) else 1),0,0,0,0,0,0,false,false,false⟩] }:Bd).seti 4 (({ nbS life l1 d0 d1 q with objs:=(nbS life l1 d0 d1 q).objs ++ [⟨(q:Int) + 1,c,(if 1 = 0 then (0:Int) else 1),0,0,0,0,0,0,false,false,false⟩] }:Bd).li 4 ++ [(q:Int) + 1]) = nbS life l1 d0 d1 (q + 1):=by
 have h1:=newObs_at hd
 rw [if_neg (by omega)] at h1
 unfold nbS Bd.seti Bd.li
 dsimp only
 rw [take_snoc h1,Nat.min_eq_right hq,Nat.min_eq_right (by omega:d0.length ≤ q + 1),Nat.max_eq_left hq,Nat.max_eq_left (by omega:d0.length ≤ q + 1),idsF_snoc hq]
 rfl
theorem wpList_op_by {P:Program} {ops:Array Oper} {rest:List Oper} {op:Oper} {a:Act} {w w':World} {Q:Exit → Act → World → Prop} {v:Value} (hgd:op.guard = none) (h:(execOp a.eval op).run P w = .ok (.value v) w') (hk:wpList P ops Q rest (a.put op.dst v) w'):wpList P ops Q (op :: rest) a w :=
 wpList_plain hgd fun _ hK => wp_op_by h (hK _ _ hk)
set_option maxRecDepth 100000 in
theorem size_decks:(Tryz.prog.info? 57).map (·.size) = some 2:=by decide +kernel
set_option maxRecDepth 100000 in
theorem built_new:Tryz.prog.built 33 [(9,Value.int .i64 (-1))] = some #[.slice none 0 0,.int .i64 0,.int .i64 0,.int .i64 0,.int .i64 0,.int .i64 0,.slice none 0 0,.slice none 0 0,.slice none 0 0,.slice none 0 0,.bool false,.bool false,.bool false,.int .i64 0,.int .i64 0,.int .i64 0,.int .i64 0,.int .i64 0,.int .i64 0,.int .i64 0,.slice none 0 0,.slice none 0 0,.slice none 0 0,.slice none 0 0,.bool false,.bool false,.bool false,.int .i64 0,.int .i64 0,.slice none 0 0,.slice none 0 0,.slice none 0 0,.slice none 0 0,.int .i64 0,.int .i64 0,.int .i64 0,.int .i64 (-1),.int .i64 0]:=by kernel_rfl
section
variable {w:World} {b:Bd} {m:BdM} {g:Nat} {DA EA:Option Addr} {n0 Dc n1 Ec:Nat} {W W':World}
theorem IsO.nil_ (W:World) (B:Nat):IsO W B ⟨none,0⟩ [] []:=⟨rfl,XOwns.nil_ _ _ _ _,fun i x t h => by simp at h⟩
theorem NwS.done (h:NwS w b m g DA EA n0 Dc n1 Ec W) (h1:b.stk = []) (h2:b.que = []) (h3:b.blk = []):BdO W w.heap.size b m:=by
 obtain ⟨e1,e2,e3,e4,e5⟩:=h.E
 refine ⟨h.O,h.l,h.ap,?_,?_,?_⟩
 ·rw [e1,e4,h1];exact IsO.nil_ _ _
 ·rw [e2,e5,h2];exact IsO.nil_ _ _
 ·rw [e3,h3];exact XOwns.nil_ _ _ _ _
theorem nbS_zero {d0 d1:List Int} (h1:Blk W (w.heap.size + 2) 33 #[.slice none 0 0,.int .i64 0,.int .i64 0,.int .i64 0,.int .i64 0,.int .i64 0,.slice none 0 0,.slice none 0 0,.slice none 0 0,.slice none 0 0,.bool false,.bool false,.bool false,.int .i64 0,.int .i64 0,.int .i64 0,.int .i64 0,.int .i64 0,.int .i64 0,.int .i64 0,.slice none 0 0,.slice none 0 0,.slice none 0 0,.slice none 0 0,.bool false,.bool false,.bool false,.int .i64 0,.int .i64 0,.slice none 0 0,.slice none 0 0,.slice none 0 0,.slice none 0 0,.int .i64 0,.int .i64 0,.int .i64 0,.int .i64 (-1),.int .i64 0]) (h2:Blk W (w.heap.size + 1) 33 zbd) (h3:Blk W w.heap.size 57 #[.slice DA n0 Dc,.slice EA n1 Ec]) (h4:Below w.heap.size w W):NwS w (nbS 0 0 d0 d1 0) ⟨⟨none,0⟩,⟨⟨none,0⟩,⟨none,0⟩,⟨none,0⟩,⟨none,0⟩⟩,⟨⟨none,0⟩,⟨none,0⟩,⟨none,0⟩,⟨none,0⟩⟩,⟨none,0⟩,⟨none,0⟩,[],[],⟨none,0⟩,⟨none,0⟩⟩ (w.heap.size + 2) DA EA n0 Dc n1 Ec W:=by
 have e0:idsF 0 (min 0 d0.length) = []:=by simp [idsF]
 have e1:idsF d0.length (max 0 d0.length) = []:=by simp [idsF]
 have hl:∀ q,(nbS 0 0 d0 d1 0).li q = []:=fun q => by rcases q with _ | _ | _ | _ | _ | _ | _ | _ | q <;> first | exact e0 | exact e1 | rfl
 have hs:∀ q,(⟨⟨none,0⟩,⟨⟨none,0⟩,⟨none,0⟩,⟨none,0⟩,⟨none,0⟩⟩,⟨⟨none,0⟩,⟨none,0⟩,⟨none,0⟩,⟨none,0⟩⟩,⟨none,0⟩,⟨none,0⟩,[],[],⟨none,0⟩,⟨none,0⟩⟩:BdM).sl q = ⟨none,0⟩:=fun q => by rcases q with _ | _ | _ | _ | _ | _ | _ | _ | q <;> rfl
 refine ⟨?_,?_,fun q hq => by rw [hl,hs];exact XOwns.nil_ _ _ _ _,fun q r _ _ _ => by rw [hs];exact .inl rfl,⟨rfl,rfl,rfl,rfl,rfl⟩,h2,h3,by omega,h4⟩
 ·have hc:(Bd.cells (nbS 0 0 d0 d1 0) ⟨⟨none,0⟩,⟨⟨none,0⟩,⟨none,0⟩,⟨none,0⟩,⟨none,0⟩⟩,⟨⟨none,0⟩,⟨none,0⟩,⟨none,0⟩,⟨none,0⟩⟩,⟨none,0⟩,⟨none,0⟩,[],[],⟨none,0⟩,⟨none,0⟩⟩).toArray = #[.slice none 0 0,.int .i64 0,.int .i64 0,.int .i64 0,.int .i64 0,.int .i64 0,.slice none 0 0,.slice none 0 0,.slice none 0 0,.slice none 0 0,.bool false,.bool false,.bool false,.int .i64 0,.int .i64 0,.int .i64 0,.int .i64 0,.int .i64 0,.int .i64 0,.int .i64 0,.slice none 0 0,.slice none 0 0,.slice none 0 0,.slice none 0 0,.bool false,.bool false,.bool false,.int .i64 0,.int .i64 0,.slice none 0 0,.slice none 0 0,.slice none 0 0,.slice none 0 0,.int .i64 0,.int .i64 0,.int .i64 0,.int .i64 (-1),.int .i64 0]:=by
   unfold nbS
   rw [e0,e1]
   rfl
  rw [hc]
  exact h1
 ·exact XOwns.nil_ _ _ _ _
end
def NewEnd (life:Int) (d0 d1:List Int) (w:World) (e:Ending) (w':World):Prop:=∃ m',e = .returned (.tuple #[.agg ((nbS life life d0 d1 (d0.length + d1.length)).cells m').toArray,.int .i64 0]) ∧ BdO w' w.heap.size (nbS life life d0 d1 (d0.length + d1.length)) m' ∧ Below w.heap.size w w'
set_option maxRecDepth 100000 in
set_option maxHeartbeats 6400000 in
theorem new_any (life:Int) (d0 d1:List Int) (DA EA:Option Addr) (n0 Dc n1 Ec:Nat) (w:World) (hlife:inR life 1 9999 = true) (hx0:Reads w 1 DA n0 (ics d0)) (hx1:Reads w 1 EA n1 (ics d1)) (hin:∀ c ∈ d0 ++ d1,inR c 0 399 = true) (hsum:n0 + n1 ≤ 500):Calls Tryz.prog 19 #[.int .i64 life,.agg #[.slice DA n0 Dc,.slice EA n1 Ec]] w (NewEnd life d0 d1 w):=by
 have HX0:=Lib.hid hx0
 have HX1:=Lib.hid hx1
 have HIN:=Lib.hid hin
 have HSUM:=Lib.hid hsum
 have HN0:=Lib.hid (ilen hx0)
 have HN1:=Lib.hid (ilen hx1)
 have HC1:Hid (∀ W,Calls Tryz.prog 42 #[.int .i64 life,.int .i64 1,.int .i64 9999] W fun e w' => e = .returned (.bool true) ∧ W = w'):=Lib.hid (fun W => by have h:=within_any life 1 9999 W;rw [hlife] at h;exact h)
 have HIX0:Hid (∀ W,(Instr.index 57 (.agg #[.slice DA n0 Dc,.slice EA n1 Ec]) (.int .i64 (0:Nat))).run Tryz.prog W = .ok (.slice DA n0 Dc) W):=Lib.hid (fun W => by simp [Instr.index,run_underlying Tryz.underlying57,asIntOf,go_sem])
 have HIX1:Hid (∀ W,(Instr.index 57 (.agg #[.slice DA n0 Dc,.slice EA n1 Ec]) (.int .i64 (1:Nat))).run Tryz.prog W = .ok (.slice EA n1 Ec) W):=Lib.hid (fun W => by simp [Instr.index,run_underlying Tryz.underlying57,asIntOf,go_sem])
 obtain ⟨w2,hw2⟩:∃ w2,(w.alloc (.cells #[.slice DA n0 Dc,.slice EA n1 Ec] 57)).alloc (.cells zbd 33) = w2:=⟨_,rfl⟩
 have hw2s:w2.heap.size = w.heap.size + 2:=by rw [← hw2];simp
 have HB2:Hid (Below w.heap.size w w2):=Lib.hid (by rw [← hw2];exact ((Below.refl _ _).alloc (Nat.le_refl _) _).alloc (by simp) _)
 have HBX2:Hid (Blk w2 w.heap.size 57 #[.slice DA n0 Dc,.slice EA n1 Ec]):=Lib.hid (by rw [← hw2];exact (Blk.mk_ w _ _ _ rfl).alloc _)
 have HRS2:Hid (Blk w2 (w.heap.size + 1) 33 zbd):=Lib.hid (by rw [← hw2];exact Blk.mk_ _ _ _ _ (by simp))
 obtain ⟨w3,hw3⟩:∃ w3,w2.alloc (.cells zbd 33) = w3:=⟨_,rfl⟩
 have hb3:Below w2.heap.size w2 w3:=by rw [← hw3];exact (Below.refl _ _).alloc (Nat.le_refl _) _
 have hk3:Blk w3 (w.heap.size + 2) 33 zbd:=by rw [← hw3];exact Blk.mk_ _ _ _ _ hw2s
 have HBX3:=Lib.hid (HBX2.out.call hb3)
 have HRS3:=Lib.hid (HRS2.out.call hb3)
 have HB3:=Lib.hid (below_call HB2.out hb3 HB2.out.size)
 obtain ⟨W8,hst,hB8,hg8⟩:=hk3.storeAll (ty:=33) [.slice none 0 0,.int .i64 0,.int .i64 0,.int .i64 0,.int .i64 0,.int .i64 0,.slice none 0 0,.slice none 0 0,.slice none 0 0,.slice none 0 0,.bool false,.bool false,.bool false,.int .i64 0,.int .i64 0,.int .i64 0,.int .i64 0,.int .i64 0,.int .i64 0,.int .i64 0,.slice none 0 0,.slice none 0 0,.slice none 0 0,.slice none 0 0,.bool false,.bool false,.bool false,.int .i64 0,.int .i64 0,.slice none 0 0,.slice none 0 0,.slice none 0 0,.slice none 0 0,.int .i64 0,.int .i64 0,.int .i64 0,.int .i64 (-1),.int .i64 0] rfl (by rw [size_board];rfl) (by decide)
 have HST:=Lib.hid hst
 have HF8:Hid (NwS w (nbS 0 0 d0 d1 0) ⟨⟨none,0⟩,⟨⟨none,0⟩,⟨none,0⟩,⟨none,0⟩,⟨none,0⟩⟩,⟨⟨none,0⟩,⟨none,0⟩,⟨none,0⟩,⟨none,0⟩⟩,⟨none,0⟩,⟨none,0⟩,[],[],⟨none,0⟩,⟨none,0⟩⟩ (w.heap.size + 2) DA EA n0 Dc n1 Ec W8):=Lib.hid (nbS_zero hB8 (HRS3.out.grown hg8 (by intro e;injection e with e;omega)) (HBX3.out.grown hg8 (by intro e;injection e with e;omega)) (HB3.out.grown hg8 HB3.out.size (fun q hq => by injection hq with hq;omega)))
 obtain ⟨g,hg⟩:∃ g,w.heap.size + 2 = g:=⟨_,rfl⟩
 rw [hg] at hw2s HF8 HST
 have HGG:=Lib.hid hg
 have HLD:Hid ((Instr.loadAt 57 (.pointer (some ⟨w.heap.size,0,none⟩))).run Tryz.prog W8 = .ok (.agg #[.slice DA n0 Dc,.slice EA n1 Ec]) W8):=Lib.hid (HF8.out.bx.mid [.slice DA n0 Dc,.slice EA n1 Ec] _ (fun j v hj => by rw [Nat.zero_add];simpa using hj) Tryz.underlying57 rfl (by rw [size_decks];rfl))
 have q20:w2.cell? ⟨w.heap.size,0,none⟩ = some (.slice DA n0 Dc):=HBX2.out.at_ 0
 have q21:w2.cell? ⟨w.heap.size,1,none⟩ = some (.slice EA n1 Ec):=HBX2.out.at_ 1
 unfold zbd at hw2 hw3
 clear hlife hx0 hx1 hin hst hB8 hg8 hk3 hb3 hg
 go_enter Tryz.func19,Tryz.ntmps19
 go_wp2_with (first
  | (go_at_call 42;refine (HC1.out w2).mono ?_;rintro e w_ ⟨rfl,rfl⟩)
  | (refine wpList_op_by rfl (run_of_build rfl rfl built_new) ?_;simp only [Act.put,List.setIfInBounds_toArray,List.set_cons_succ,List.set_cons_zero])
  | (refine wpList_store_by HST.out rfl rfl rfl rfl ?_;simp only [Act.put,List.setIfInBounds_toArray,List.set_cons_succ,List.set_cons_zero])
  | (refine wpList_load_by HLD.out rfl rfl rfl ?_;simp only [Act.put,List.setIfInBounds_toArray,List.set_cons_succ,List.set_cons_zero])
  | fail)
 go_loopw [29] (fun i W => ∃ (p:Nat) (m:BdM),p ≤ 2 ∧ i = .int .i64 p ∧ Hid (NwS w (nbS (if 0 < p then life else 0) (if 1 < p then life else 0) d0 d1 (if p = 0 then 0 else if p = 1 then n0 else n0 + n1)) m g DA EA n0 Dc n1 Ec W)) (fun i _ => 2 - (intOf i).toNat)
 case atStart => exact ⟨0,_,by omega,rfl,HF8⟩
 case round =>
  obtain ⟨p,m,hp,rfl,HF⟩:=hrel
  clear HF8 q20 q21 hw2 hw3 hw2s HST HLD
  by_cases hp2:p < 2
  ·have hp2':(p:Int) < 2:=by omega
   have HP2:=Lib.hid hp2
   rcases (show p = 0 ∨ p = 1 by omega) with h0 | h0
   ·clear hp2 hp
    have HP0:=Lib.hid h0
    clear h0
    have hHF:=HF.out
    rw [show (if 0 < p then life else 0) = 0 by rw [HP0.out];rfl,show (if 1 < p then life else 0) = 0 by rw [HP0.out];rfl,show (if p = 0 then 0 else if p = 1 then n0 else n0 + n1) = 0 by rw [HP0.out];rfl] at hHF
    have hixp:∀ W,(Instr.index 57 (.agg #[.slice DA n0 Dc,.slice EA n1 Ec]) (.int .i64 p)).run Tryz.prog W = .ok (.slice DA n0 Dc) W:=fun W => by rw [HP0.out];exact HIX0.out W
    obtain ⟨u1,q1⟩:∃ u,wr.cell? ⟨g,1 + p * 14,none⟩ = some u:=⟨_,by rw [HP0.out];exact (hHF.P.at_ 1).trans rfl⟩
    have f1:=hHF.P.free (1 + p * 14)
    have HF3:Hid (NwS w (nbS life 0 d0 d1 0) m g DA EA n0 Dc n1 Ec (wr.setCell ⟨g,1 + p * 14,none⟩ (.int .i64 life))):=Lib.hid (by
     rw [HP0.out]
     exact hHF.life0 d0 d1 life (0))
    clear hHF HF
    go_wp2_with fail
    clear q1 f1 hixp
    go_loopw [42] (fun i W => ∃ (k:Nat) (m:BdM),k ≤ n0 ∧ i = .int .i64 k ∧ Hid (NwS w (nbS life 0 d0 d1 k) m g DA EA n0 Dc n1 Ec W)) (fun i _ => n0 - (intOf i).toNat)
    case atStart => exact ⟨0,m,Nat.zero_le _,rfl,HF3⟩
    case round =>
     obtain ⟨k,m,hk,rfl,HF⟩:=hrel
     clear HF3
     by_cases hkn:k < n0
     ·have hkn':(k:Int) < n0:=by omega
      have HKN:=Lib.hid hkn
      obtain ⟨ad,hX,hadl,c0⟩:=int_at (HX0.out.below HF.out.bel) hkn
      have hget:=ith_get (xs:=d0) (k:=k) (by rw [HN0.out];exact hkn)
      obtain ⟨c,hc⟩:∃ c,ith d0 k = c:=⟨_,rfl⟩
      rw [hc] at c0 hget
      have hin:=HIN.out c (by exact List.mem_append_left _ (List.mem_of_getElem? hget))
      have HDQ:Hid ((d0 ++ d1)[k]? = some c):=Lib.hid (by rw [List.getElem?_append_left (by rw [HN0.out];exact hkn)];exact hget)
      have HC5:Hid (∀ W,Calls Tryz.prog 42 #[.int .i64 c,.int .i64 0,.int .i64 399] W fun e w' => e = .returned (.bool true) ∧ W = w'):=Lib.hid (fun W => by have h:=within_any c 0 399 W;rw [hin] at h;exact h)
      obtain ⟨q,hq⟩:∃ q,k = q:=⟨_,rfl⟩
      have HQK:=Lib.hid hq
      rw [hq] at HF HDQ
      have HQ5:Hid (q < n0 + n1):=Lib.hid (by have:=HKN.out;have:=HQK.out;omega)
      have hq5:(q:Int) ≤ 500:=by have:=HQ5.out;have:=HSUM.out;omega
      obtain ⟨⟨OA,Oc⟩,hO⟩:∃ s,m.O = s:=⟨_,rfl⟩
      have hol:(nbS life 0 d0 d1 q).objs.length = q:=by show ((newObs d0 d1).take q).length = q;rw [List.length_take,newObs_len,HN0.out,HN1.out];have:=HQ5.out;omega
      have e0:wr.cell? ⟨g,0,none⟩ = some (.slice OA q Oc):=(HF.out.P.at_ 0).trans (by show some (m.O.v (nbS life 0 d0 d1 q).objs.length) = _;rw [hO,hol];rfl)
      have HOL:=Lib.hid hol
      clear hc hget hin hq hO hol hkn
      subst hX
      go_wp2_with (first
       | (go_at_call 42;refine (HC5.out wr).mono ?_;rintro e w_ ⟨rfl,rfl⟩)
       | fail)
      refine nw_obj w wr g (nbS life 0 d0 d1 q) m _ c p HF.out.bel (Nat.le_of_lt (by have:=HF.out.gB;omega)) HF.out.P HF.out.O (by rw [HOL.out];have:=HQ5.out;have:=HSUM.out;omega) _ _ _ _ _ _ _ _ _ _ _ _ _ _ _ _ _ _ _ _ _ _ _ _ _ _ _ _ _ _ _ _ _ _ _ _ _ _ _ _ _ _ _ _ _ _ _ _ _ _ _ _ _ _ _ _ _ _ _ _ _ _ _ _ _ _ _ _ _ _ _ _ _ ?_ ?_
      ·exact fun d _ _ _ _ h => by cases d <;> exact h
      intro v54 v55 v56 v57 v58 v59 v60 v61 v62 sO W5 h5
      clear e0 c0 hadl
      have HF5:=Lib.hid (HF.out.obj h5)
      clear h5 HF
      iterate 2 go_step
      refine nw_lib0 p HP0.out w W5 g _ _ (q + 1) _ _ n0 Dc n1 Ec HF5.out ?_ _ _ _ _ _ _ _ _ _ _ _ _ _ _ _ _ _ _ _ _ _ _ _ _ _ _ _ _ _ _ _ _ _ _ _ _ _ _ _ _ _ _ _ _ _ _ _ _ _ _ _ _ _ _ _ _ _ _ _ _ _ _ _ _ _ _ _ _ _ _ _ _ _ _ _ ?_ ?_
      ·show (idsF _ _).length ≤ 500;simp [idsF];have:=HSUM.out;have:=HN0.out;have:=HQ5.out;omega
      ·exact fun d _ _ _ _ h => by cases d <;> exact h
      intro v63 v64 v65 v66 v67 v68 v69 v70 v71 v72 sL W9 h9
      have HF9:Hid (NwS w (nbS life 0 d0 d1 (q + 1)) _ g _ _ n0 Dc n1 Ec W9):=Lib.hid (by
       have h:=nbS_step0 life 0 (q:=q) (HDQ.out) (by rw [HN0.out];have:=HKN.out;have:=HQK.out;omega)
       rw [show (if 0 = 0 then (0:Int) else 1) = 0 from rfl] at h
       rw [HP0.out] at h9
       exact h ▸ h9)
      clear h9 HF5
      go_wp2_with fail
      go_roundw
      case rel => exact ⟨k + 1,_,by have:=HKN.out;omega,by go_num,Lib.hid (by rw [show k + 1 = q + 1 by have:=HQK.out;omega];exact HF9.out)⟩
      case measure => simp [intOf];have:=HKN.out;omega
     ·have HKN:Hid (k = n0):=Lib.hid (by omega)
      clear hk
      go_wp2_with fail
      go_roundw
      case rel => exact ⟨p + 1,m,by have:=HP0.out;omega,by go_num,Lib.hid (by
       have h:=HF.out
       rw [HP0.out]
       rw [HKN.out] at h
       exact h)⟩
      case measure => simp [intOf];have:=HP0.out;omega
   ·clear hp2 hp
    have HP0:=Lib.hid h0
    clear h0
    have hHF:=HF.out
    rw [show (if 0 < p then life else 0) = life by rw [HP0.out];rfl,show (if 1 < p then life else 0) = 0 by rw [HP0.out];rfl,show (if p = 0 then 0 else if p = 1 then n0 else n0 + n1) = n0 by rw [HP0.out];rfl] at hHF
    have hixp:∀ W,(Instr.index 57 (.agg #[.slice DA n0 Dc,.slice EA n1 Ec]) (.int .i64 p)).run Tryz.prog W = .ok (.slice EA n1 Ec) W:=fun W => by rw [HP0.out];exact HIX1.out W
    obtain ⟨u1,q1⟩:∃ u,wr.cell? ⟨g,1 + p * 14,none⟩ = some u:=⟨_,by rw [HP0.out];exact (hHF.P.at_ 15).trans rfl⟩
    have f1:=hHF.P.free (1 + p * 14)
    have HF3:Hid (NwS w (nbS life life d0 d1 n0) m g DA EA n0 Dc n1 Ec (wr.setCell ⟨g,1 + p * 14,none⟩ (.int .i64 life))):=Lib.hid (by
     rw [HP0.out]
     exact hHF.life1 d0 d1 life (n0))
    clear hHF HF
    go_wp2_with fail
    clear q1 f1 hixp
    go_loopw [42] (fun i W => ∃ (k:Nat) (m:BdM),k ≤ n1 ∧ i = .int .i64 k ∧ Hid (NwS w (nbS life life d0 d1 (n0 + k)) m g DA EA n0 Dc n1 Ec W)) (fun i _ => n1 - (intOf i).toNat)
    case atStart => exact ⟨0,m,Nat.zero_le _,rfl,HF3⟩
    case round =>
     obtain ⟨k,m,hk,rfl,HF⟩:=hrel
     clear HF3
     by_cases hkn:k < n1
     ·have hkn':(k:Int) < n1:=by omega
      have HKN:=Lib.hid hkn
      obtain ⟨ad,hX,hadl,c0⟩:=int_at (HX1.out.below HF.out.bel) hkn
      have hget:=ith_get (xs:=d1) (k:=k) (by rw [HN1.out];exact hkn)
      obtain ⟨c,hc⟩:∃ c,ith d1 k = c:=⟨_,rfl⟩
      rw [hc] at c0 hget
      have hin:=HIN.out c (by exact List.mem_append_right _ (List.mem_of_getElem? hget))
      have HDQ:Hid ((d0 ++ d1)[(n0 + k)]? = some c):=Lib.hid (by rw [List.getElem?_append_right (by rw [HN0.out];omega),HN0.out,Nat.add_sub_cancel_left];exact hget)
      have HC5:Hid (∀ W,Calls Tryz.prog 42 #[.int .i64 c,.int .i64 0,.int .i64 399] W fun e w' => e = .returned (.bool true) ∧ W = w'):=Lib.hid (fun W => by have h:=within_any c 0 399 W;rw [hin] at h;exact h)
      obtain ⟨q,hq⟩:∃ q,(n0 + k) = q:=⟨_,rfl⟩
      have HQK:=Lib.hid hq
      rw [hq] at HF HDQ
      have HQ5:Hid (q < n0 + n1):=Lib.hid (by have:=HKN.out;have:=HQK.out;omega)
      have hq5:(q:Int) ≤ 500:=by have:=HQ5.out;have:=HSUM.out;omega
      obtain ⟨⟨OA,Oc⟩,hO⟩:∃ s,m.O = s:=⟨_,rfl⟩
      have hol:(nbS life life d0 d1 q).objs.length = q:=by show ((newObs d0 d1).take q).length = q;rw [List.length_take,newObs_len,HN0.out,HN1.out];have:=HQ5.out;omega
      have e0:wr.cell? ⟨g,0,none⟩ = some (.slice OA q Oc):=(HF.out.P.at_ 0).trans (by show some (m.O.v (nbS life life d0 d1 q).objs.length) = _;rw [hO,hol];rfl)
      have HOL:=Lib.hid hol
      clear hc hget hin hq hO hol hkn
      subst hX
      go_wp2_with (first
       | (go_at_call 42;refine (HC5.out wr).mono ?_;rintro e w_ ⟨rfl,rfl⟩)
       | fail)
      refine nw_obj w wr g (nbS life life d0 d1 q) m _ c p HF.out.bel (Nat.le_of_lt (by have:=HF.out.gB;omega)) HF.out.P HF.out.O (by rw [HOL.out];have:=HQ5.out;have:=HSUM.out;omega) _ _ _ _ _ _ _ _ _ _ _ _ _ _ _ _ _ _ _ _ _ _ _ _ _ _ _ _ _ _ _ _ _ _ _ _ _ _ _ _ _ _ _ _ _ _ _ _ _ _ _ _ _ _ _ _ _ _ _ _ _ _ _ _ _ _ _ _ _ _ _ _ _ ?_ ?_
      ·exact fun d _ _ _ _ h => by cases d <;> exact h
      intro v54 v55 v56 v57 v58 v59 v60 v61 v62 sO W5 h5
      clear e0 c0 hadl
      have HF5:=Lib.hid (HF.out.obj h5)
      clear h5 HF
      iterate 2 go_step
      refine nw_lib1 p HP0.out w W5 g _ _ (q + 1) _ _ n0 Dc n1 Ec HF5.out ?_ _ _ _ _ _ _ _ _ _ _ _ _ _ _ _ _ _ _ _ _ _ _ _ _ _ _ _ _ _ _ _ _ _ _ _ _ _ _ _ _ _ _ _ _ _ _ _ _ _ _ _ _ _ _ _ _ _ _ _ _ _ _ _ _ _ _ _ _ _ _ _ _ _ _ _ ?_ ?_
      ·show (idsF _ _).length ≤ 500;simp [idsF];have:=HSUM.out;have:=HN0.out;have:=HQ5.out;omega
      ·exact fun d _ _ _ _ h => by cases d <;> exact h
      intro v63 v64 v65 v66 v67 v68 v69 v70 v71 v72 sL W9 h9
      have HF9:Hid (NwS w (nbS life life d0 d1 (q + 1)) _ g _ _ n0 Dc n1 Ec W9):=Lib.hid (by
       have h:=nbS_step1 life life (q:=q) (HDQ.out) (by rw [HN0.out];have:=HKN.out;have:=HQK.out;omega)
       rw [show (if 1 = 0 then (0:Int) else 1) = 1 from rfl] at h
       rw [HP0.out] at h9
       exact h ▸ h9)
      clear h9 HF5
      go_wp2_with fail
      go_roundw
      case rel => exact ⟨k + 1,_,by have:=HKN.out;omega,by go_num,Lib.hid (by rw [show (n0 + (k + 1)) = q + 1 by have:=HQK.out;omega];exact HF9.out)⟩
      case measure => simp [intOf];have:=HKN.out;omega
     ·have HKN:Hid (k = n1):=Lib.hid (by omega)
      clear hk
      go_wp2_with fail
      go_roundw
      case rel => exact ⟨p + 1,m,by have:=HP0.out;omega,by go_num,Lib.hid (by
       have h:=HF.out
       rw [HP0.out]
       rw [HKN.out] at h
       exact h)⟩
      case measure => simp [intOf];have:=HP0.out;omega
  ·have hp2':decide ((p:Int) < 2) = false:=by simp;omega
   have HEQ:Hid (nbS (if 0 < p then life else 0) (if 1 < p then life else 0) d0 d1 (if p = 0 then 0 else if p = 1 then n0 else n0 + n1) = nbS life life d0 d1 (d0.length + d1.length)):=Lib.hid (by rw [show p = 2 by omega,HN0.out,HN1.out];rfl)
   rw [HEQ.out] at HF
   obtain ⟨B9,hB9⟩:∃ B,nbS life life d0 d1 (d0.length + d1.length) = B:=⟨_,rfl⟩
   have HNIL:Hid (B9.stk = [] ∧ B9.que = [] ∧ B9.blk = []):=Lib.hid (by rw [← hB9];exact ⟨rfl,rfl,rfl⟩)
   rw [hB9] at HF
   have hF:=HF.out
   have hb:=hF.P
   have hone:=one_bd B9 m
   have hlen:(B9.cells m).length = 38:=rfl
   obtain ⟨BC,hBC⟩:∃ l,B9.cells m = l:=⟨_,rfl⟩
   rw [hBC] at hb hone hlen
   have HLP:Hid ((Instr.loadAt 33 (.pointer (some ⟨g,0,none⟩))).run Tryz.prog wr = .ok (.agg BC.toArray) wr):=Lib.hid (hb.mid BC _ (fun j v hj => by rw [Nat.zero_add];simpa using hj) Tryz.underlying33 rfl (by rw [size_board,hlen]))
   obtain ⟨W9,hst,hB9',hg9⟩:=hF.res.storeAll (ty:=33) BC (by rw [hlen];rfl) (by rw [size_board,hlen]) hone
   have HST:=Lib.hid hst
   have HB9':=Lib.hid hB9'
   have HEND:Hid (BdO W9 w.heap.size B9 m ∧ Below w.heap.size w W9):=Lib.hid ⟨(hF.done HNIL.out.1 HNIL.out.2.1 HNIL.out.2.2).blk hF.res hg9 off_board,hF.bel.grown hg9 hF.bel.size (fun q hq => by injection hq with hq;omega)⟩
   have HBE:=Lib.hid hBC
   have HB9:=Lib.hid hB9
   have HLEN:=Lib.hid hlen
   clear hb hone hlen hBC hB9 hst hB9' hg9 HF hF hp hp2
   go_wp2_with (first | (refine wpList_load_by HLP.out rfl rfl rfl ?_;simp only [Act.put,List.setIfInBounds_toArray,List.set_cons_succ,List.set_cons_zero]) | (refine wpList_store_by HST.out rfl rfl rfl rfl ?_;simp only [Act.put,List.setIfInBounds_toArray,List.set_cons_succ,List.set_cons_zero]) | fail)
   refine bodyPost_ret (v:=.tuple #[.agg BC.toArray,.int .i64 0]) (ret_cell2 (fn:=Tryz.f19) (p:=4) (q:=5) rfl rfl HB9'.out Tryz.underlying33 rfl (by rw [size_board];simp [HLEN.out])) rfl ?_
   exact ⟨_,by rw [HB9.out,HBE.out],by rw [HB9.out];exact HEND.out.1,HEND.out.2⟩

def swp (l:List Int) (i j:Nat):List Int:=(l.set i (ith l j)).set j (ith l i)
theorem swp_len (l:List Int) (i j:Nat):(swp l i j).length = l.length:=by simp [swp]
theorem ics_set (l:List Int) (i:Nat) (x:Int):ics (l.set i x) = (ics l).set i (.int .i64 x):=by simp [ics,List.map_set]
theorem XOwns.drew_ {W:World} {B e s n c:Nat} {A:Option Addr} {xs:List Value} (h:XOwns W B e s A n c xs):XOwns W.drew B e s A n c xs:=h
theorem only_trans_ {a b c:World} {row:Option Nat} (h:a.grownBy b row) (k:b.grownBy c row):a.grownBy c row:=⟨k.os.trans h.os,k.tape.trans h.tape,k.output.trans h.output,Nat.le_trans h.size k.size,fun j hj hne => (k.block j (Nat.lt_of_lt_of_le hj h.size) hne).trans (h.block j hj hne)⟩
set_option maxRecDepth 100000 in
set_option maxHeartbeats 3200000 in
theorem sh_swap (W:World) (B g n c:Nat) (l:List Int) (i j:Nat) (hX:XOwns W B 3 1 (some ⟨g,0,none⟩) n c (ics l)) (hi:i < n) (hj:j < n) (hn:n ≤ 65536) (Q:Exit → Act → World → Prop) (t0 t1 t2 t3 t4 t5 t6 t7 t11 t12 t13 t14 t15 t16 t17 t18 t19 t20 t21 t22 t23 t24 t25 t26 t27 t28 t29 t30 t31 t32 t33 t34 t35 t36 t37 t38 t39 t40 t41 t42 t43 t44 t45 t46 t47 t48 t49 t50:Value)
  (hQ:∀ d v c a w,Q (.panic c) (Act.put a d v) w → Q (.panic c) a w)
  (hK:∀ (u36 u37 u38 u39 u40 u41 u42 u43 u44 u45 u46 u47 u48 u49:Value)  (W9:World),XOwns W9 B 3 1 (some ⟨g,0,none⟩) n c (ics (swp l i j)) ∧ W.grownBy W9 (some g) → Q .normal ⟨#[t0,t1,t2,t3,t4,t5,t6,t7,.slice (some ⟨g,0,none⟩) n c,.int .i64 i,.int .i64 j,t11,t12,t13,t14,t15,t16,t17,t18,t19,t20,t21,t22,t23,t24,t25,t26,t27,t28,t29,t30,t31,t32,t33,t34,t35,u36,u37,u38,u39,u40,u41,u42,u43,u44,u45,u46,u47,u48,u49,t50],[]⟩ W9) :
  Code.wp Tryz.prog (regOf Tryz.f29 12) Q ⟨#[t0,t1,t2,t3,t4,t5,t6,t7,.slice (some ⟨g,0,none⟩) n c,.int .i64 i,.int .i64 j,t11,t12,t13,t14,t15,t16,t17,t18,t19,t20,t21,t22,t23,t24,t25,t26,t27,t28,t29,t30,t31,t32,t33,t34,t35,t36,t37,t38,t39,t40,t41,t42,t43,t44,t45,t46,t47,t48,t49,t50],[]⟩ W:=by
 have HKK:=Lib.hid hK
 clear hK
 conv => arg 2;whnf
 have hll:l.length = n:=ilen hX.reads
 have hgl:=(hX.lt g rfl).2
 have hi':(i:Int) < n:=by omega
 have hj':(j:Int) < n:=by omega
 obtain ⟨a,ha⟩:∃ a,ith l i = a:=⟨_,rfl⟩
 obtain ⟨b,hb⟩:∃ b,ith l j = b:=⟨_,rfl⟩
 have hcell:∀ (W':World) (k:Nat),XOwns W' B 3 1 (some ⟨g,0,none⟩) n c (ics l) → k < n → W'.cell? ⟨g,k,none⟩ = some (.int .i64 (ith l k)) ∧ W'.frozen? ⟨g,k,none⟩ = false:=fun W' k h hk => by
  obtain ⟨g',e,_,_,h1,h2⟩:=h.cell (j:=k) (u:=.int .i64 (ith l k)) (by rw [ics,List.getElem?_map,ith_get (by omega)];rfl)
  injection e with e
  injection e with e
  subst e
  exact ⟨h1,h2⟩
 have HX:=Lib.hid hX
 have HQ:=Lib.hid hQ
 have HI:=Lib.hid (And.intro hi hj)
 have HAB:=Lib.hid (And.intro ha hb)
 have HLL:=Lib.hid hll
 have HCELL:=Lib.hid hcell
 have hne_:Nonempty (In (fun W' => XOwns W' B 3 1 (some ⟨g,0,none⟩) n c (ics l))):=⟨⟨W,hX⟩⟩
 have xi:∀ s:In (fun W' => XOwns W' B 3 1 (some ⟨g,0,none⟩) n c (ics l)),s.W.cell? ⟨g,i,none⟩ = some (.int .i64 a):=fun s => by rw [← ha];exact (hcell _ _ s.h hi).1
 have xj:∀ s:In (fun W' => XOwns W' B 3 1 (some ⟨g,0,none⟩) n c (ics l)),s.W.cell? ⟨g,j,none⟩ = some (.int .i64 b):=fun s => by rw [← hb];exact (hcell _ _ s.h hj).1
 clear hX hQ hi hj ha hb hll hcell
 have hneT:Nonempty (In (fun _ => True)):=⟨⟨W,trivial⟩⟩
 refine wp_region_late2 (Ph (fun w' => ∃ s:In (fun W' => XOwns W' B 3 1 (some ⟨g,0,none⟩) n c (ics l)),w' = s.W) (fun w' => ∃ s:In (fun _ => True),w' = s.W)) (fun w' => ∃ s:In (fun _ => True),w' = s.W) (fun w => ⟨⟨w,trivial⟩,rfl⟩) [13,15] [0,1,2,3,4,5,6,8,9,10] [7,11,12] (.one 13 [14] (.one 15 [] .done)) (by kernel_rfl) (by kernel_rfl) HQ.out ⟨⟨_,HX.out.drew_⟩,rfl⟩ ?_
 refine quiet_as (C':=(fun w' => ∃ s:In (fun _ => True),w' = s.W)) rfl ?_
 simp only [opsAt,List.getElem?_toArray,List.getElem?_cons_succ,List.getElem?_cons_zero]
 repeat (go_big_quiet_step (fail))
 refine wpQuiet_nil ?_
 refine quiet_as (C':=(fun w' => ∃ s:In (fun W' => XOwns W' B 3 1 (some ⟨g,0,none⟩) n c (ics l)),w' = s.W)) rfl ?_
 try simp only [opsAt,List.getElem?_toArray,List.getElem?_cons_succ,List.getElem?_cons_zero]
 repeat (go_big_quiet_step (fail))
 refine wpQuiet_nil ?_
 obtain ⟨W_d,hwd⟩:∃ v,W.drew = v:=⟨_,rfl⟩
 have HBW_1:Hid (Below W.heap.size W W_d):=Lib.hid (by rw [← hwd];exact (Below.refl _ _).drew)
 have HBR_1:Hid (Below W.heap.size W W_d):=Lib.hid (by rw [← hwd];exact (Below.refl _ _).drew)
 have FX_1:=Lib.hid ((HX.out).below (show Below W.heap.size W W_d by rw [← hwd];exact (Below.refl _ _).drew))
 rw [hwd]
 clear hwd
 refine eff_as (C':=(fun w' => ∃ s:In (fun _ => True),w' = s.W)) rfl ?_
 (refine eff_lit rfl rfl (fun K hK => ?_))
 have hx9:=FX_1.out
 have hq9:(ics l)[i]? = some (.int .i64 a):=by rw [ics,List.getElem?_map,ith_get (by rw [HLL.out];exact HI.out.1),HAB.out.1];rfl
 obtain ⟨g9,e9,-,l9,q9,f9⟩:=hx9.cell hq9
 injection e9 with e9
 injection e9 with e9
 subst e9
 go_big_op
 obtain ⟨W_2,hv9⟩:∃ v,W_d.setCell ⟨g,i,none⟩ (.int .i64 b) = v:=⟨_,rfl⟩
 have hg9:W_d.grownBy W_2 (some g):=by rw [← hv9];exact only_setCell (only_refl _ _) (.inl rfl) _
 have hs9:=hx9.setX (i) (.int .i64 b)
 rw [hv9] at hs9
 rw [hv9]
 clear q9 f9 l9 hv9 hx9 hq9
 have FX_3:=Lib.hid hs9
 have GR_3:=Lib.hid (only_trans_ (grownBy_below_ HBR_1.out) hg9)
 clear hs9 hg9
 refine hK _ _ ⟨⟨_,trivial⟩,rfl⟩ ?_
 clear hK K
 try simp only [opsAt,List.getElem?_toArray,List.getElem?_cons_succ,List.getElem?_cons_zero]
 try simp only [Act.put]
 repeat (go_big_quiet_step (fail))
 refine wpQuiet_nil ?_
 refine eff_as (C':=(fun w' => ∃ s:In (fun _ => True),w' = s.W)) rfl ?_
 (refine eff_lit rfl rfl (fun K hK => ?_))
 have hx9:=FX_3.out
 have hq9:∃ u,((ics l).set i (.int .i64 b))[j]? = some u:=⟨_,List.getElem?_eq_getElem (by simp [ics,HLL.out];exact HI.out.2)⟩
 obtain ⟨u9,hq9⟩:=hq9
 obtain ⟨g9,e9,-,l9,q9,f9⟩:=hx9.cell hq9
 injection e9 with e9
 injection e9 with e9
 subst e9
 go_big_op
 obtain ⟨W_4,hv9⟩:∃ v,W_2.setCell ⟨g,j,none⟩ (.int .i64 a) = v:=⟨_,rfl⟩
 have hg9:W_2.grownBy W_4 (some g):=by rw [← hv9];exact only_setCell (only_refl _ _) (.inl rfl) _
 have hs9:=hx9.setX (j) (.int .i64 a)
 rw [hv9] at hs9
 rw [hv9]
 clear q9 f9 l9 hv9 hx9 hq9
 have FX_5:=Lib.hid hs9
 have GR_5:=Lib.hid (only_trans_ GR_3.out hg9)
 clear hs9 hg9
 refine hK _ _ ⟨⟨_,trivial⟩,rfl⟩ ?_
 clear hK K
 try simp only [opsAt,List.getElem?_toArray,List.getElem?_cons_succ,List.getElem?_cons_zero]
 refine wpQuiet_nil ?_
 refine effs_done ?_
 have h9:=FX_5.out
 rw [← ics_set,← ics_set] at h9
 exact HKK.out _ _ _ _ _ _ _ _ _ _ _ _ _ _ _ ⟨by unfold swp;rw [HAB.out.1,HAB.out.2];exact h9,GR_5.out⟩

end Go.Proofs.YtagpphelgghbpaaGreat
