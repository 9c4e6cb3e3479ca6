/-
  Texts: Bco.
-/
import Derived.Test.YtagpphelgghbpaaGreatMk14
set_option linter.unusedSimpArgs false
set_option linter.unusedVariables false
namespace Go.Proofs.YtagpphelgghbpaaGreat
open Go.RowKit

def BdM.sl (m:BdM):Nat → Sl
 | 0 => m.m0.L
 | 1 => m.m0.H
 | 2 => m.m0.F
 | 3 => m.m0.G
 | 4 => m.m1.L
 | 5 => m.m1.H
 | 6 => m.m1.F
 | 7 => m.m1.G
 | _ => m.AT
def Bd.li (b:Bd):Nat → List Int
 | 0 => b.s0.lib
 | 1 => b.s0.hand
 | 2 => b.s0.fld
 | 3 => b.s0.grv
 | 4 => b.s1.lib
 | 5 => b.s1.hand
 | 6 => b.s1.fld
 | 7 => b.s1.grv
 | _ => b.att
def BdM.set (m:BdM) (q:Nat) (s:Sl):BdM:=match q with
 | 0 => { m with m0:={ m.m0 with L:=s } }
 | 1 => { m with m0:={ m.m0 with H:=s } }
 | 2 => { m with m0:={ m.m0 with F:=s } }
 | 3 => { m with m0:={ m.m0 with G:=s } }
 | 4 => { m with m1:={ m.m1 with L:=s } }
 | 5 => { m with m1:={ m.m1 with H:=s } }
 | 6 => { m with m1:={ m.m1 with F:=s } }
 | 7 => { m with m1:={ m.m1 with G:=s } }
 | _ => { m with AT:=s }
def offL (q:Nat):Nat:=if q < 4 then 6 + q else 16 + q
theorem sl_same (m:BdM) (s:Sl) {k:Nat} (hk:k < 8):(m.set k s).sl k = s:=by
 rcases (show k = 0 ∨ k = 1 ∨ k = 2 ∨ k = 3 ∨ k = 4 ∨ k = 5 ∨ k = 6 ∨ k = 7 by omega) with rfl | rfl | rfl | rfl | rfl | rfl | rfl | rfl <;> rfl
theorem sl_other (m:BdM) (s:Sl) {k q:Nat} (hk:k < 8) (hne:q ≠ k):(m.set k s).sl q = m.sl q:=by
 rcases (show k = 0 ∨ k = 1 ∨ k = 2 ∨ k = 3 ∨ k = 4 ∨ k = 5 ∨ k = 6 ∨ k = 7 by omega) with rfl | rfl | rfl | rfl | rfl | rfl | rfl | rfl <;> rcases q with _ | _ | _ | _ | _ | _ | _ | _ | q <;> first | rfl | exact absurd rfl hne
theorem set_rest (m:BdM) (s:Sl) {k:Nat} (hk:k < 8):(m.set k s).O = m.O ∧ (m.set k s).S = m.S ∧ (m.set k s).Q = m.Q ∧ (m.set k s).ST = m.ST ∧ (m.set k s).QT = m.QT ∧ (m.set k s).AT = m.AT ∧ (m.set k s).BK = m.BK:=by
 rcases (show k = 0 ∨ k = 1 ∨ k = 2 ∨ k = 3 ∨ k = 4 ∨ k = 5 ∨ k = 6 ∨ k = 7 by omega) with rfl | rfl | rfl | rfl | rfl | rfl | rfl | rfl <;> exact ⟨rfl,rfl,rfl,rfl,rfl,rfl,rfl⟩
theorem cells_set (b:Bd) (m:BdM) (s:Sl) {k:Nat} (hk:k < 8):(b.cells m).toArray.setIfInBounds (offL k) (s.v (b.li k).length) = (b.cells (m.set k s)).toArray:=by
 rcases (show k = 0 ∨ k = 1 ∨ k = 2 ∨ k = 3 ∨ k = 4 ∨ k = 5 ∨ k = 6 ∨ k = 7 by omega) with rfl | rfl | rfl | rfl | rfl | rfl | rfl | rfl <;> (simp only [Bd.cells,Se.cells,List.cons_append,List.nil_append,offL,Nat.reduceLT,if_true,if_false,Nat.reduceAdd,List.setIfInBounds_toArray,List.set_cons_succ,List.set_cons_zero];rfl)
theorem cells_at (b:Bd) (m:BdM) {k:Nat} (hk:k < 8):(b.cells m).toArray[offL k]? = some ((m.sl k).v (b.li k).length):=by
 rcases (show k = 0 ∨ k = 1 ∨ k = 2 ∨ k = 3 ∨ k = 4 ∨ k = 5 ∨ k = 6 ∨ k = 7 by omega) with rfl | rfl | rfl | rfl | rfl | rfl | rfl | rfl <;> rfl
def Apart (s t:Sl):Prop:=blkOf s.A = none ∨ blkOf s.A ≠ blkOf t.A
structure BdO (W:World) (B:Nat) (b:Bd) (m:BdM):Prop where
 O:XOwns W B 46 12 m.O.A b.objs.length m.O.c (ocs b.objs)
 l:∀ q,q < 9 → XOwns W B 3 1 (m.sl q).A (b.li q).length (m.sl q).c (ics (b.li q))
 ap:∀ q r,q < 9 → r < 9 → q ≠ r → Apart (m.sl q) (m.sl r)
 S:IsO W B m.S b.stk m.ST
 Q:IsO W B m.Q b.que m.QT
 BK:XOwns W B 84 2 m.BK.A b.blk.length m.BK.c (bcs b.blk)
structure BdW (b:Bd):Prop where
 O:∀ o ∈ b.objs,wfO o
 l:∀ q,q < 9 → ∀ x ∈ b.li q,wfI x
 S:∀ x ∈ b.stk,wfX x
 Q:∀ x ∈ b.que,wfX x
 K:∀ x ∈ b.blk,wfI x.a ∧ wfI x.b
section
variable {W W':World} {B B':Nat} {b:Bd} {m:BdM} {g t:Nat} {cs:Array Value}
theorem BdO.below (h:BdO W B b m) (hb:Below W.heap.size W W'):BdO W' B b m:=⟨h.O.below hb,fun q hq => (h.l q hq).below hb,h.ap,h.S.below hb,h.Q.below hb,h.BK.below hb⟩
theorem BdO.blk (h:BdO W B b m) (hk:Blk W g t cs) (hg:W.grownBy W' (some g)) (ho:offT t):BdO W' B b m:=⟨h.O.blk_ hk hg ho.1,fun q hq => (h.l q hq).blk_ hk hg ho.2.2.2.1,h.ap,h.S.blk hk hg ho.2.1 ho.2.2.1,h.Q.blk hk hg ho.2.1 ho.2.2.1,h.BK.blk_ hk hg ho.2.2.2.2⟩
theorem BdO.more (h:BdO W B b m) (hb:B' ≤ B):BdO W B' b m:=⟨h.O.more hb,fun q hq => (h.l q hq).more hb,h.ap,h.S.more hb,h.Q.more hb,h.BK.more hb⟩
theorem BdR.w (h:BdR W b m):BdW b:=⟨h.Ow,fun q hq => by
 rcases (show q = 0 ∨ q = 1 ∨ q = 2 ∨ q = 3 ∨ q = 4 ∨ q = 5 ∨ q = 6 ∨ q = 7 ∨ q = 8 by omega) with rfl | rfl | rfl | rfl | rfl | rfl | rfl | rfl | rfl
 ·exact h.s0.L.wf
 ·exact h.s0.H.wf
 ·exact h.s0.F.wf
 ·exact h.s0.G.wf
 ·exact h.s1.L.wf
 ·exact h.s1.H.wf
 ·exact h.s1.F.wf
 ·exact h.s1.G.wf
 ·exact h.AT.wf,h.Sw,h.Qw,h.Bw⟩
theorem BdO.ls (h:BdO W B b m) (hw:BdW b) {q:Nat} (hq:q < 9):LsR W (m.sl q) (b.li q):=⟨(h.l q hq).reads,(h.l q hq).okS,hw.l q hq⟩
theorem BdO.isR (h:BdO W B b m) (hw:BdW b):BdR W b m :=
 ⟨h.O.reads,h.O.okS,hw.O,⟨h.ls hw (q:=0) (by decide),h.ls hw (q:=1) (by decide),h.ls hw (q:=2) (by decide),h.ls hw (q:=3) (by decide)⟩,⟨h.ls hw (q:=4) (by decide),h.ls hw (q:=5) (by decide),h.ls hw (q:=6) (by decide),h.ls hw (q:=7) (by decide)⟩,h.S.isR,hw.S,h.Q.isR,hw.Q,h.ls hw (q:=8) (by decide),h.BK.reads,h.BK.okS,hw.K⟩
theorem BdR.li (h:BdR W b m) {q:Nat} (hq:q < 8):LsR W (m.sl q) (b.li q):=by
 rcases (show q = 0 ∨ q = 1 ∨ q = 2 ∨ q = 3 ∨ q = 4 ∨ q = 5 ∨ q = 6 ∨ q = 7 by omega) with rfl | rfl | rfl | rfl | rfl | rfl | rfl | rfl
 ·exact h.s0.L
 ·exact h.s0.H
 ·exact h.s0.F
 ·exact h.s0.G
 ·exact h.s1.L
 ·exact h.s1.H
 ·exact h.s1.F
 ·exact h.s1.G
theorem BdSm.li (h:BdSm b) {q:Nat} (hq:q < 8):(b.li q).length ≤ 500:=by
 rcases (show q = 0 ∨ q = 1 ∨ q = 2 ∨ q = 3 ∨ q = 4 ∨ q = 5 ∨ q = 6 ∨ q = 7 by omega) with rfl | rfl | rfl | rfl | rfl | rfl | rfl | rfl
 ·exact h.s0.L
 ·exact h.s0.H
 ·exact h.s0.F
 ·exact h.s0.G
 ·exact h.s1.L
 ·exact h.s1.H
 ·exact h.s1.F
 ·exact h.s1.G
end
structure CyS (w:World) (b:Bd) (m0:BdM) (k:Nat) (m:BdM) (W:World):Prop where
 P:Blk W w.heap.size 33 (b.cells m).toArray
 O:XOwns W w.heap.size 46 12 m.O.A b.objs.length m.O.c (ocs b.objs)
 A:XOwns W w.heap.size 3 1 m.AT.A b.att.length m.AT.c (ics b.att)
 K:XOwns W w.heap.size 84 2 m.BK.A b.blk.length m.BK.c (bcs b.blk)
 S:IsO W w.heap.size m.S b.stk m.ST
 Q:IsO W w.heap.size m.Q b.que m.QT
 l:∀ q,q < k → XOwns W w.heap.size 3 1 (m.sl q).A (b.li q).length (m.sl q).c (ics (b.li q))
 e:∀ q,k ≤ q → q < 8 → m.sl q = m0.sl q
 ap:∀ q r,q < k → r < k → q ≠ r → Apart (m.sl q) (m.sl r)
 at_:∀ q,q < k → Apart (m.sl q) m.AT ∧ Apart m.AT (m.sl q)
 res:Blk W (w.heap.size + 1) 33 zbd
 bel:Below w.heap.size w W
theorem CyS.below {w:World} {b:Bd} {m0 m:BdM} {k:Nat} {W W':World} (h:CyS w b m0 k m W) (hb:Below W.heap.size W W'):CyS w b m0 k m W' :=
 ⟨h.P.call hb,h.O.below hb,h.A.below hb,h.K.below hb,h.S.below hb,h.Q.below hb,fun q hq => (h.l q hq).below hb,h.e,h.ap,h.at_,h.res.call hb,below_call h.bel hb h.bel.size⟩
theorem apart_new {W W':World} {B e size n n':Nat} {e' size':Nat} {xs ys:List Value} {s t:Sl} (h:XOwns W B e size s.A n s.c xs) (h':XOwns W' W.heap.size e' size' t.A n' t.c ys):Apart s t ∧ Apart t s:=by
 unfold Apart
 cases hs:blkOf s.A with
 | none =>
  refine ⟨.inl rfl,?_⟩
  cases ht:blkOf t.A with
  | none => exact .inl rfl
  | some g => exact .inr (by simp)
 | some g =>
  have h1:=(h.lt g hs).2
  refine ⟨.inr fun e => ?_,?_⟩
  ·have h2:=(h'.lt g e.symm).1
   omega
  ·cases ht:blkOf t.A with
   | none => exact .inl rfl
   | some g' =>
    refine .inr fun e => ?_
    injection e with e
    have h2:=(h'.lt g' ht).1
    omega
theorem CyS.step {w:World} {b:Bd} {m0 m:BdM} {k:Nat} {W W':World} (h:CyS w b m0 k m W) (hk:k < 8) (hb:Below W.heap.size W W') {A':Option Addr} {c':Nat} (hx:XOwns W' W.heap.size 3 1 A' (b.li k).length c' (ics (b.li k))) :
  CyS w b m0 (k + 1) (m.set k ⟨A',c'⟩) (W'.setCell ⟨w.heap.size,offL k,none⟩ (.slice A' (b.li k).length c')):=by
 have h1:=h.below hb
 have hg:W'.grownBy (W'.setCell ⟨w.heap.size,offL k,none⟩ (.slice A' (b.li k).length c')) (some w.heap.size):=only_setCell (only_refl _ _) (.inl rfl) _
 have hP:=h1.P.put (offL k) (.slice A' (b.li k).length c')
 have hc:=cells_set b m ⟨A',c'⟩ hk
 rw [show Sl.v ⟨A',c'⟩ (b.li k).length = .slice A' (b.li k).length c' from rfl] at hc
 rw [hc] at hP
 obtain ⟨eO,eS,eQ,eST,eQT,eAT,eBK⟩:=set_rest m ⟨A',c'⟩ hk
 have hx2:=hx.more h.bel.size
 refine ⟨hP,by rw [eO];exact h1.O.blk_ h1.P hg (by decide),by rw [eAT];exact h1.A.blk_ h1.P hg (by decide),by rw [eBK];exact h1.K.blk_ h1.P hg (by decide),by rw [eS,eST];exact h1.S.blk h1.P hg (by decide) (by decide),by rw [eQ,eQT];exact h1.Q.blk h1.P hg (by decide) (by decide),fun q hq => ?_,fun q hq hq8 => ?_,fun q r hq hr hne => ?_,fun q hq => ?_,h1.res.grown hg (fun e => by injection e with e;omega),h1.bel.grown hg h1.bel.size (fun q hq => by injection hq with hq;omega)⟩
 ·rcases Nat.lt_or_ge q k with hlt | hge
  ·rw [sl_other m _ hk (by omega)]
   exact (h1.l q hlt).blk_ h1.P hg (by decide)
  ·obtain rfl:q = k:=by omega
   rw [sl_same m _ hk]
   exact hx2.blk_ h1.P hg (by decide)
 ·rw [sl_other m _ hk (by omega)]
  exact h.e q (by omega) hq8
 ·rcases Nat.lt_or_ge q k with hlt | hge
  ·rw [sl_other m _ hk (by omega:q ≠ k)]
   rcases Nat.lt_or_ge r k with hlt2 | hge2
   ·rw [sl_other m _ hk (by omega:r ≠ k)]
    exact h.ap q r hlt hlt2 hne
   ·obtain rfl:r = k:=by omega
    rw [sl_same m _ hk]
    exact (apart_new (h.l q hlt) hx).1
  ·obtain rfl:q = k:=by omega
   rw [sl_same m _ hk,sl_other m _ hk (by omega:r ≠ q)]
   exact (apart_new (h.l r (by omega)) hx).2
 ·rw [eAT]
  rcases Nat.lt_or_ge q k with hlt | hge
  ·rw [sl_other m _ hk (by omega)]
   exact h.at_ q hlt
  ·obtain rfl:q = k:=by omega
   rw [sl_same m _ hk]
   exact ⟨(apart_new h.A hx).2,(apart_new h.A hx).1⟩
theorem CyS.done {w:World} {b:Bd} {m0 m:BdM} {W:World} (h:CyS w b m0 8 m W):BdO W w.heap.size b m:=by
 refine ⟨h.O,fun q hq => ?_,fun q r hq hr hne => ?_,h.S,h.Q,h.K⟩
 ·rcases Nat.lt_or_ge q 8 with h8 | h8
  ·exact h.l q h8
  ·obtain rfl:q = 8:=by omega
   exact h.A
 ·rcases Nat.lt_or_ge q 8 with h8 | h8
  ·rcases Nat.lt_or_ge r 8 with r8 | r8
   ·exact h.ap q r h8 r8 hne
   ·obtain rfl:r = 8:=by omega
    exact (h.at_ q h8).1
  ·obtain rfl:q = 8:=by omega
   rcases Nat.lt_or_ge r 8 with r8 | r8
   ·exact (h.at_ r r8).2
   ·omega
def CopyEnd (b:Bd) (w:World) (e:Ending) (w':World):Prop:=∃ m',e = .returned (.agg (b.cells m').toArray) ∧ BdO w' w.heap.size b m' ∧ Below w.heap.size w w'
theorem one_bd (b:Bd) (m:BdM):∀ u ∈ b.cells m,u.oneCell' = true:=by
 intro u hu
 unfold Bd.cells at hu
 rcases List.mem_cons.1 hu with rfl | hu
 ·rfl
 ·rcases List.mem_append.1 hu with hu | hu
  ·rcases List.mem_append.1 hu with hu | hu
   ·exact one_se _ _ u hu
   ·exact one_se _ _ u hu
  ·simp only [Sl.v,List.mem_cons,List.not_mem_nil,or_false] at hu
   rcases hu with rfl | rfl | rfl | rfl | rfl | rfl | rfl | rfl | rfl <;> rfl
set_option maxRecDepth 100000 in
set_option maxHeartbeats 3200000 in
theorem copy_any (b:Bd) (m:BdM) (w:World) (hR:BdR w b m) (hsm:BdSm b):Calls Tryz.prog 25 #[.agg (b.cells m).toArray] w (CopyEnd b w):=by
 have HR:=Lib.hid hR
 have HSM:=Lib.hid hsm
 obtain ⟨cs,hcs⟩:∃ cs,(b.cells m).toArray = cs:=⟨_,rfl⟩
 obtain ⟨w2,hw2⟩:∃ w2,(w.alloc (.cells cs 33)).alloc (.cells zbd 33) = w2:=⟨_,rfl⟩
 have HB2:Hid (Below w.heap.size w w2):=Lib.hid (by rw [← hw2];exact ((Below.refl _ _).alloc (Nat.le_refl _) _).alloc (by simp) _)
 have HBX2:Hid (Blk w2 w.heap.size 33 (b.cells m).toArray):=Lib.hid (by rw [← hw2,hcs];exact (Blk.mk_ w _ _ _ rfl).alloc _)
 have HRS2:Hid (Blk w2 (w.heap.size + 1) 33 zbd):=Lib.hid (by rw [← hw2];exact Blk.mk_ _ _ _ _ (by simp))
 rw [hcs]
 unfold zbd at hw2
 clear hR hsm hcs
 go_enter Tryz.func25,Tryz.ntmps25
 go_wp2_with fail
 refine bcp1 w w2 b m m HR.out HSM.out HB2.out HBX2.out HRS2.out rfl rfl rfl _ _ _ _ _ _ _ _ _ _ _ _ _ _ _ _ _ _ _ _ _ _ _ _ _ _ _ _ _ _ _ _ _ _ _ _ _ _ _ _ _ _ _ _ _ ?_ ?_
 ·exact fun d _ _ _ _ h => by cases d <;> exact h
 intro v6 v7 v8 v9 v10 v11 v12 v13 v14 v15 v16 v17 sO sA sK W1 h1
 have H1:=Lib.hid h1
 clear h1 hw2 HB2 HBX2 HRS2
 go_wp2_with fail
 refine bcp2 w W1 b m { m with O:=sO,AT:=sA,BK:=sK } HR.out HSM.out H1.out.2.2.2.2.2 H1.out.1 H1.out.2.2.2.2.1 rfl rfl H1.out.2.1 H1.out.2.2.1 H1.out.2.2.2.1 _ _ _ _ _ _ _ _ _ _ _ _ _ _ _ _ _ _ _ _ _ _ _ _ _ _ _ _ _ _ _ _ _ _ _ _ _ _ _ _ _ _ _ _ _ ?_ ?_
 ·exact fun d _ _ _ _ h => by cases d <;> exact h
 intro v18 v19 v20 v21 v22 v23 v24 v25 sS sQ ST QT W2 h2
 have HF0:Hid (CyS w b m 0 { m with O:=sO,AT:=sA,BK:=sK,S:=sS,Q:=sQ,ST:=ST,QT:=QT } W2):=Lib.hid ⟨h2.1,h2.2.2.2.1,h2.2.2.2.2.1,h2.2.2.2.2.2.1,h2.2.1,h2.2.2.1,fun q h => absurd h (by omega),fun q _ hq => by rcases q with _ | _ | _ | _ | _ | _ | _ | _ | q <;> first | rfl | omega,fun q r h => absurd h (by omega),fun q h => absurd h (by omega),h2.2.2.2.2.2.2.1,h2.2.2.2.2.2.2.2⟩
 clear h2 H1
 go_wp2_with fail
 go_loopw [26] (fun i W => ∃ (p:Nat) (m':BdM),p ≤ 2 ∧ i = .int .i64 p ∧ Hid (CyS w b m (4 * p) m' W)) (fun i _ => 2 - (intOf i).toNat)
 case atStart => exact ⟨0,_,by omega,rfl,HF0⟩
 case round =>
  obtain ⟨p,m',hp,rfl,HF⟩:=hrel
  clear HF0
  by_cases hp2:p < 2
  ·have hp2':(p:Int) < 2:=by omega
   have HP2:=Lib.hid hp2
   go_wp2_with fail
   refine (lists_any w.heap.size (1 + p * 14) wr).mono ?_
   rintro e w3 ⟨rfl,hb3⟩
   have HF3:=Lib.hid (HF.out.below hb3)
   clear hb3 HF
   have HIX:Hid (∀ (j:Nat) (W:World),j < 4 → (Instr.index 111 (.agg #[.pointer (some ⟨w.heap.size,1 + p * 14 + 5,none⟩),.pointer (some ⟨w.heap.size,1 + p * 14 + 6,none⟩),.pointer (some ⟨w.heap.size,1 + p * 14 + 7,none⟩),.pointer (some ⟨w.heap.size,1 + p * 14 + 8,none⟩)]) (.int .i64 j)).run Tryz.prog W = .ok (.pointer (some ⟨w.heap.size,offL (4 * p + j),none⟩)) W):=Lib.hid (fun j W hj => by
    rcases (show j = 0 ∨ j = 1 ∨ j = 2 ∨ j = 3 by omega) with rfl | rfl | rfl | rfl <;> rcases (show p = 0 ∨ p = 1 by have:=HP2.out;omega) with rfl | rfl <;> simp [Instr.index,run_underlying Tryz.underlying111,asIntOf,go_sem,offL])
   obtain ⟨PV,hPV⟩:∃ v,#[Value.pointer (some ⟨w.heap.size,1 + p * 14 + 5,none⟩),.pointer (some ⟨w.heap.size,1 + p * 14 + 6,none⟩),.pointer (some ⟨w.heap.size,1 + p * 14 + 7,none⟩),.pointer (some ⟨w.heap.size,1 + p * 14 + 8,none⟩)] = v:=⟨_,rfl⟩
   rw [hPV] at HIX
   rw [hPV]
   clear hPV hp2
   go_wp2_with fail
   go_loopw [33] (fun i W => ∃ (j:Nat) (m':BdM),j ≤ 4 ∧ i = .int .i64 j ∧ Hid (CyS w b m (4 * p + j) m' W)) (fun i _ => 4 - (intOf i).toNat)
   case atStart => exact ⟨0,m',by omega,rfl,HF3⟩
   case round =>
    obtain ⟨j,m9,hj,rfl,HFJ⟩:=hrel
    clear HF3
    by_cases hj4:j < 4
    ·have hj4':(j:Int) < 4:=by omega
     have HJ:=Lib.hid hj4
     obtain ⟨q,hq⟩:∃ q,4 * p + j = q:=⟨_,rfl⟩
     have HQ:=Lib.hid hq
     have HQ8:Hid (q < 8):=Lib.hid (by have:=HP2.out;omega)
     have hix:∀ W,_:=fun W => HIX.out j W hj4
     rw [hq] at hix HFJ
     obtain ⟨⟨LA,Lc⟩,hL⟩:∃ s,m.sl q = s:=⟨_,rfl⟩
     obtain ⟨nl,hnl⟩:∃ n,(b.li q).length = n:=⟨_,rfl⟩
     have hat:=cells_at b m9 HQ8.out
     rw [HFJ.out.e q (Nat.le_refl _) HQ8.out,hL,hnl] at hat
     have hc:=(HFJ.out.P.at_ (offL q)).trans hat
     rw [show Sl.v ⟨LA,Lc⟩ nl = .slice LA nl Lc from rfl] at hc
     have HCL:=Lib.hid (clone_ints LA nl Lc (ics (b.li q)) wr (by have h:=((HR.out.below HFJ.out.bel).li HQ8.out).row;rw [hL,hnl] at h;exact h) (ics_one _) (by have h:=(HR.out.li HQ8.out).ok.2.1;rw [hL] at h;exact h) (by have:=HSM.out.li HQ8.out;omega))
     have HNL:=Lib.hid hnl
     clear hL hnl hat hj4
     go_wp2_with fail
     refine HCL.out.mono ?_
     rintro e w5 ⟨A5,c5,rfl,hx5,hb5⟩
     have hst:=HFJ.out.step HQ8.out hb5 (A':=A5) (c':=c5) (by rw [HNL.out];exact hx5)
     rw [HNL.out] at hst
     have HST:=Lib.hid hst
     have hF5:=HFJ.out.below hb5
     have q9:∃ u,w5.cell? ⟨w.heap.size,offL q,none⟩ = some u:=⟨_,(hF5.P.at_ (offL q)).trans (cells_at b m9 HQ8.out)⟩
     obtain ⟨u9,q9⟩:=q9
     have f9:=hF5.P.free (offL q)
     clear hst hx5 hb5 hF5 hc hix HFJ HCL
     go_wp2_with fail
     go_roundw
     case rel => exact ⟨j + 1,_,by have:=HJ.out;omega,by go_num,Lib.hid (by rw [show 4 * p + (j + 1) = q + 1 by have:=HQ.out;omega];exact HST.out)⟩
     case measure => simp [intOf];have:=HJ.out;omega
    ·have hj4':decide ((j:Int) < 4) = false:=by simp;omega
     have HJ4:Hid (j = 4):=Lib.hid (by omega)
     clear hj hj4
     go_wp2_with fail
     go_roundw
     case rel => exact ⟨p + 1,m9,by have:=HP2.out;omega,by go_num,Lib.hid (by rw [show 4 * (p + 1) = 4 * p + j by have:=HJ4.out;omega];exact HFJ.out)⟩
     case measure => simp [intOf];have:=HP2.out;omega
  ·have hp2':decide ((p:Int) < 2) = false:=by simp;omega
   have hF:=HF.out
   rw [show 4 * p = 8 by omega] at hF
   have hb:=hF.P
   have hone:=one_bd b m'
   have hlen:(b.cells m').length = 38:=rfl
   obtain ⟨BC,hBC⟩:∃ l,b.cells m' = l:=⟨_,rfl⟩
   rw [hBC] at hb hone hlen
   have HLP:Hid ((Instr.loadAt 33 (.pointer (some ⟨w.heap.size,0,none⟩))).run Tryz.prog wr = .ok (.agg BC.toArray) wr):=Lib.hid (hb.mid BC _ (fun j v hj => by rw [Nat.zero_add];simpa using hj) Tryz.underlying33 rfl (by rw [size_board,hlen]))
   obtain ⟨W8,hst,hB8,hg8⟩:=hF.res.storeAll (ty:=33) BC (by rw [hlen];rfl) (by rw [size_board,hlen]) hone
   have HST:=Lib.hid hst
   have HB8:=Lib.hid hB8
   have HEND:Hid (BdO W8 w.heap.size b m' ∧ Below w.heap.size w W8):=Lib.hid ⟨hF.done.blk hF.res hg8 off_board,hF.bel.grown hg8 hF.bel.size (fun q hq => by injection hq with hq;omega)⟩
   have HBE:=Lib.hid hBC
   have HLEN:=Lib.hid hlen
   clear hb hone hlen hBC hst hB8 hg8 HF hF hp hp2
   go_wp2_with (first | (refine wpList_load_by HLP.out rfl rfl rfl ?_;simp only [Act.put,List.setIfInBounds_toArray,List.set_cons_succ,List.set_cons_zero]) | (refine wpList_store_by HST.out rfl rfl rfl rfl ?_;simp only [Act.put,List.setIfInBounds_toArray,List.set_cons_succ,List.set_cons_zero]) | fail)
   refine bodyPost_ret (v:=.agg BC.toArray) (ret_cell (fn:=Tryz.f25) (p:=2) rfl rfl HB8.out Tryz.underlying33 rfl (by rw [size_board];simp [HLEN.out])) rfl ?_
   exact ⟨_,by rw [HBE.out],HEND.out.1,HEND.out.2⟩
end Go.Proofs.YtagpphelgghbpaaGreat
