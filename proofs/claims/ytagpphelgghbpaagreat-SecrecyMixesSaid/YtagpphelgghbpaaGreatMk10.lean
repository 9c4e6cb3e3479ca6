/-
  Texts: Val.
-/
import Derived.Test.YtagpphelgghbpaaGreatMk9
import Derived.Deep.MidRow
set_option linter.unusedSimpArgs false
set_option linter.unusedVariables false
namespace Go.Proofs.YtagpphelgghbpaaGreat
open Go.RowKit

set_option maxRecDepth 100000 in
theorem size_seats:(Tryz.prog.info? 28).map (·.size) = some 28:=by decide +kernel
set_option maxRecDepth 100000 in
theorem size_board:(Tryz.prog.info? 33).map (·.size) = some 38:=by decide +kernel
theorem Blk.mid {W:World} {g o ty t:Nat} {cs:Array Value} (h:Blk W g t cs) (vs:List Value) (d:TypeDesc) (hr:∀ (j:Nat) (v:Value),vs[j]? = some v → cs[o + j]? = some v)
  (hu:Tryz.prog.underlying ty = some d) (hd:d.isRow = true) (hi:(Tryz.prog.info? ty).map (·.size) = some vs.length) :
  (Instr.loadAt ty (.pointer (some ⟨g,o,none⟩))).run Tryz.prog W = .ok (.agg vs.toArray) W :=
 run_loadAt_mid W g o ty vs d (fun j v hj => (h.at_ (o + j)).trans (hr j v hj)) hu hd hi
theorem wpList_load_by {P:Program} {ops:Array Oper} {rest:List Oper} {op:Oper} {a:Act} {w:World} {Q:Exit → Act → World → Prop} {ty:TypeId} {x:Operand} {p v:Value} (hl:(Instr.loadAt ty p).run P w = .ok v w)
  (ho:op.op = .load ty x) (hw:Region.wanted op (yielded ops a.tmps) = true) (hx:a.eval x = p) (h:wpList P ops Q rest (a.put op.dst v) w):wpList P ops Q (op :: rest) a w :=
 wpList_step fun K hK => by
  simp only [hw,if_true]
  unfold Oper.wp execOp
  simp only [ho,hx,hl,Sem.run_bind,Sem.run_pure,Result.andThen_ok]
  exact hK _ _ h
def seN (b:Bd) (k:Nat):Se:=if k = 0 then b.s0 else b.s1
def smN (m:BdM) (k:Nat):SeM:=if k = 0 then m.m0 else m.m1
theorem seats_idx (x y:Se) (p q:SeM) {k:Nat} (hk:k < 2) (w:World):(Instr.index 28 (.agg (x.cells p ++ y.cells q).toArray) (.int .i64 k)).run Tryz.prog w = .ok (.agg ((if k = 0 then x.cells p else y.cells q)).toArray) w:=by
 rcases (show k = 0 ∨ k = 1 by omega) with rfl | rfl <;> simp [Instr.index,run_underlying Tryz.underlying28,asIntOf,go_sem,Se.cells,Sl.v]
theorem seOk_parts (s:Se):seOk s = (inR s.life 0 9999 && manaOk s.p0 s.p1 s.p2 s.p3 99 && inR s.mul 0 7 && inR s.act 0 255):=by
 unfold seOk manaOk
 simp [Bool.and_assoc]
set_option maxRecDepth 100000 in
set_option maxHeartbeats 6400000 in
theorem valid_any (b:Bd) (m:BdM) (w:World) (h:BdR w b m) (hz:b.plc.length < 9223372036854775807) :
  Calls Tryz.prog 16 #[.agg (b.cells m).toArray] w (BoolEnd b.Valid w):=by
 have HR:=Lib.hid h
 obtain ⟨cs,hcs⟩:∃ cs,(b.cells m).toArray = cs:=⟨_,rfl⟩
 have HP:Hid (∀ W,Below w.heap.size w W → Calls Tryz.prog 48 #[.agg cs] W (BoolEnd (plcP b) W)):=Lib.hid (fun W hb => by rw [← hcs];exact placed_any b m W (h.below hb) hz)
 have HFG:Hid (∀ W,Below w.heap.size w W → plcP b → b.objs.length ≤ 500 → (b.actv = 0 ∨ b.actv = 1) → Calls Tryz.prog 49 #[.agg cs] W (BoolEnd (figP b) W)):=Lib.hid (fun W hb h1 h2 h3 => by rw [← hcs];exact fights_any b m W (h.below hb) h1 h2 h3)
 rw [hcs]
 have hbox:=Blk.mk_ w 33 cs _ rfl
 have hB0:Below w.heap.size w (w.alloc (.cells cs 33)):=(Below.refl _ _).alloc (Nat.le_refl _) _
 obtain ⟨⟨OA,Oc⟩,hO⟩:∃ s,m.O = s:=⟨_,rfl⟩
 obtain ⟨⟨KA,Kc⟩,hK⟩:∃ s,m.S = s:=⟨_,rfl⟩
 obtain ⟨⟨QA,Qc⟩,hQ⟩:∃ s,m.Q = s:=⟨_,rfl⟩
 obtain ⟨no,hno⟩:∃ n,b.objs.length = n:=⟨_,rfl⟩
 obtain ⟨nk,hnk⟩:∃ n,b.stk.length = n:=⟨_,rfl⟩
 obtain ⟨nq,hnq⟩:∃ n,b.que.length = n:=⟨_,rfl⟩
 have hkk:nk ≤ 9223372036854775807:=by have:=h.S.ok;unfold Sl.ok at this;omega
 have hqq:nq ≤ 9223372036854775807:=by have:=h.Q.ok;unfold Sl.ok at this;omega
 have HCX:Hid (∀ W,Below w.heap.size w W → Calls Tryz.prog 44 #[.slice KA nk Kc,.func (.func 45) #[] #[]] W fun e w' => e = .returned (.bool (!b.stk.all (itOk false))) ∧ Below W.heap.size W w'):=Lib.hid (fun W hb => by
  have:=anyX_f m.S nk b.stk m.ST W (h.S.below hb) hnk hkk
  rwa [hK] at this)
 have HCQ:Hid (∀ W,Below w.heap.size w W → Calls Tryz.prog 44 #[.slice QA nq Qc,.func (.func 47) #[] #[]] W fun e w' => e = .returned (.bool (!b.que.all (itOk true))) ∧ Below W.heap.size W w'):=Lib.hid (fun W hb => by
  have:=anyX_t m.Q nq b.que m.QT W (h.Q.below hb) hnq hqq
  rwa [hQ] at this)
 have e0:cs[0]? = some (.slice OA no Oc):=by
  rw [← hcs]
  show some (m.O.v b.objs.length) = _
  rw [hO,hno]
  rfl
 have e29:cs[29]? = some (.slice KA nk Kc):=by
  rw [← hcs]
  show some (m.S.v b.stk.length) = _
  rw [hK,hnk]
  rfl
 have e30:cs[30]? = some (.slice QA nq Qc):=by
  rw [← hcs]
  show some (m.Q.v b.que.length) = _
  rw [hQ,hnq]
  rfl
 have E29:=Lib.hid e29
 have E30:=Lib.hid e30
 have hsz:cs.toList.length = 38:=by rw [← hcs];rfl
 have hse:∀ (j:Nat) (v:Value),(b.s0.cells m.m0 ++ b.s1.cells m.m1)[j]? = some v → cs[1 + j]? = some v:=by
  intro j v hj
  rw [← hcs]
  show ((_ :: (b.s0.cells m.m0 ++ b.s1.cells m.m1 ++ _):List Value).toArray)[1 + j]? = _
  rw [List.getElem?_toArray,Nat.add_comm,List.getElem?_cons_succ,List.getElem?_append_left ((List.getElem?_eq_some_iff.1 hj).1)]
  exact hj
 have o34:(w.alloc (.cells cs 33)).cell? ⟨w.heap.size,34,none⟩ = some (.int .i64 b.actv):=by rw [hbox.at_,← hcs];rfl
 have o33:(w.alloc (.cells cs 33)).cell? ⟨w.heap.size,33,none⟩ = some (.int .i64 b.turn):=by rw [hbox.at_,← hcs];rfl
 have o35:(w.alloc (.cells cs 33)).cell? ⟨w.heap.size,35,none⟩ = some (.int .i64 b.phs):=by rw [hbox.at_,← hcs];rfl
 have o36:(w.alloc (.cells cs 33)).cell? ⟨w.heap.size,36,none⟩ = some (.int .i64 b.hold):=by rw [hbox.at_,← hcs];rfl
 have o37:(w.alloc (.cells cs 33)).cell? ⟨w.heap.size,37,none⟩ = some (.int .i64 b.pas):=by rw [hbox.at_,← hcs];rfl
 have o0:(w.alloc (.cells cs 33)).cell? ⟨w.heap.size,0,none⟩ = some (.slice OA no Oc):=(hbox.at_ 0).trans e0
 have o29:(w.alloc (.cells cs 33)).cell? ⟨w.heap.size,29,none⟩ = some (.slice KA nk Kc):=(hbox.at_ 29).trans e29
 have o30:(w.alloc (.cells cs 33)).cell? ⟨w.heap.size,30,none⟩ = some (.slice QA nq Qc):=(hbox.at_ 30).trans e30
 obtain ⟨SV,hSV⟩:∃ v,(b.s0.cells m.m0 ++ b.s1.cells m.m1).toArray = v:=⟨_,rfl⟩
 have HL28:Hid ((Instr.loadAt 28 (.pointer (some ⟨w.heap.size,1,none⟩))).run Tryz.prog (w.alloc (.cells cs 33)) = .ok (.agg SV) (w.alloc (.cells cs 33))):=Lib.hid (by
  rw [← hSV]
  exact hbox.mid _ _ hse Tryz.underlying28 rfl size_seats)
 have HIX:Hid (∀ k:Nat,k < 2 → ∀ W,(Instr.index 28 (.agg SV) (.int .i64 k)).run Tryz.prog W = .ok (.agg ((seN b k).cells (smN m k)).toArray) W):=Lib.hid (fun k hk W => by
  rw [← hSV]
  refine Eq.trans (seats_idx b.s0 b.s1 m.m0 m.m1 hk W) ?_
  unfold seN smN
  split <;> rfl)
 have HNUM:Hid (numOk b = (inR b.actv 0 1 && inR b.turn 0 1000 && inR b.phs 0 10 && inR b.hold (-1) 1 && inR b.pas 0 2 && decide (no ≤ 500) && decide (nk ≤ 200) && decide (nq ≤ 200))):=Lib.hid (by rw [← hno,← hnk,← hnq];rfl)
 have HNO:=Lib.hid hno
 have HBOX:=Lib.hid hbox
 have HB0:=Lib.hid hB0
 have HSZ:=Lib.hid hsz
 obtain ⟨d1,h1⟩:∃ d,inR b.actv 0 1 = d:=⟨_,rfl⟩
 obtain ⟨d2,h2⟩:∃ d,inR b.turn 0 1000 = d:=⟨_,rfl⟩
 obtain ⟨d3,h3⟩:∃ d,inR b.phs 0 10 = d:=⟨_,rfl⟩
 obtain ⟨d4,h4⟩:∃ d,inR b.hold (-1) 1 = d:=⟨_,rfl⟩
 obtain ⟨d5,h5⟩:∃ d,inR b.pas 0 2 = d:=⟨_,rfl⟩
 rw [h1,h2,h3,h4,h5] at HNUM
 have H1:=Lib.hid h1
 have H2:=Lib.hid h2
 have H3:=Lib.hid h3
 have H4:=Lib.hid h4
 have H5:=Lib.hid h5
 clear h hz hcs hO hK hQ hno hnk hnq hbox hB0 e0 e29 e30 hsz hse hSV h1 h2 h3 h4 h5
 cases d1 with
 | false =>
  have HBAD:Hid (¬ b.Valid):=Lib.hid (fun hv => by
   have h1:=hv.1
   rw [HNUM.out] at h1
   simp at h1)
  go_enter Tryz.func16,Tryz.ntmps16
  go_wp2_with (first
   | (go_at_call 42;refine (within_any _ _ _ _).mono ?_;(first | rw [H1.out] | rw [H2.out] | rw [H3.out] | rw [H4.out] | rw [H5.out]);rintro e w1 ⟨rfl,rfl⟩)
   | fail)
  go_ret
  exact ⟨false,rfl,⟨fun h => (by cases h),fun h => absurd h HBAD.out⟩,HB0.out⟩
 | true =>
  cases d2 with
  | false =>
   have HBAD:Hid (¬ b.Valid):=Lib.hid (fun hv => by
    have h1:=hv.1
    rw [HNUM.out] at h1
    simp at h1)
   go_enter Tryz.func16,Tryz.ntmps16
   go_wp2_with (first
    | (go_at_call 42;refine (within_any _ _ _ _).mono ?_;(first | rw [H1.out] | rw [H2.out] | rw [H3.out] | rw [H4.out] | rw [H5.out]);rintro e w1 ⟨rfl,rfl⟩)
    | fail)
   go_ret
   exact ⟨false,rfl,⟨fun h => (by cases h),fun h => absurd h HBAD.out⟩,HB0.out⟩
  | true =>
   cases d3 with
   | false =>
    have HBAD:Hid (¬ b.Valid):=Lib.hid (fun hv => by
     have h1:=hv.1
     rw [HNUM.out] at h1
     simp at h1)
    go_enter Tryz.func16,Tryz.ntmps16
    go_wp2_with (first
     | (go_at_call 42;refine (within_any _ _ _ _).mono ?_;(first | rw [H1.out] | rw [H2.out] | rw [H3.out] | rw [H4.out] | rw [H5.out]);rintro e w1 ⟨rfl,rfl⟩)
     | fail)
    go_ret
    exact ⟨false,rfl,⟨fun h => (by cases h),fun h => absurd h HBAD.out⟩,HB0.out⟩
   | true =>
    cases d4 with
    | false =>
     have HBAD:Hid (¬ b.Valid):=Lib.hid (fun hv => by
      have h1:=hv.1
      rw [HNUM.out] at h1
      simp at h1)
     go_enter Tryz.func16,Tryz.ntmps16
     go_wp2_with (first
      | (go_at_call 42;refine (within_any _ _ _ _).mono ?_;(first | rw [H1.out] | rw [H2.out] | rw [H3.out] | rw [H4.out] | rw [H5.out]);rintro e w1 ⟨rfl,rfl⟩)
      | fail)
     go_ret
     exact ⟨false,rfl,⟨fun h => (by cases h),fun h => absurd h HBAD.out⟩,HB0.out⟩
    | true =>
     cases d5 with
     | false =>
      have HBAD:Hid (¬ b.Valid):=Lib.hid (fun hv => by
       have h1:=hv.1
       rw [HNUM.out] at h1
       simp at h1)
      go_enter Tryz.func16,Tryz.ntmps16
      go_wp2_with (first
       | (go_at_call 42;refine (within_any _ _ _ _).mono ?_;(first | rw [H1.out] | rw [H2.out] | rw [H3.out] | rw [H4.out] | rw [H5.out]);rintro e w1 ⟨rfl,rfl⟩)
       | fail)
      go_ret
      exact ⟨false,rfl,⟨fun h => (by cases h),fun h => absurd h HBAD.out⟩,HB0.out⟩
     | true =>
      by_cases g0:500 < no
      ·have g0':(500:Int) < no:=by omega
       have HBAD:Hid (¬ b.Valid):=Lib.hid (fun hv => by
        have h1:=hv.1
        rw [HNUM.out] at h1
        simp at h1
        omega)
       clear g0
       go_enter Tryz.func16,Tryz.ntmps16
       go_wp2_with (first
        | (go_at_call 42;refine (within_any _ _ _ _).mono ?_;(first | rw [H1.out] | rw [H2.out] | rw [H3.out] | rw [H4.out] | rw [H5.out]);rintro e w1 ⟨rfl,rfl⟩)
        | fail)
       go_ret
       exact ⟨false,rfl,⟨fun h => (by cases h),fun h => absurd h HBAD.out⟩,HB0.out⟩
      ·have g0':decide ((500:Int) < no) = false:=decide_eq_false (by omega)
       by_cases g1:200 < nk
       ·have g1':(200:Int) < nk:=by omega
        have HBAD:Hid (¬ b.Valid):=Lib.hid (fun hv => by
         have h1:=hv.1
         rw [HNUM.out] at h1
         simp at h1
         omega)
        clear g1
        go_enter Tryz.func16,Tryz.ntmps16
        go_wp2_with (first
         | (go_at_call 42;refine (within_any _ _ _ _).mono ?_;(first | rw [H1.out] | rw [H2.out] | rw [H3.out] | rw [H4.out] | rw [H5.out]);rintro e w1 ⟨rfl,rfl⟩)
         | fail)
        go_ret
        exact ⟨false,rfl,⟨fun h => (by cases h),fun h => absurd h HBAD.out⟩,HB0.out⟩
       ·have g1':decide ((200:Int) < nk) = false:=decide_eq_false (by omega)
        by_cases g2:200 < nq
        ·have g2':(200:Int) < nq:=by omega
         have HBAD:Hid (¬ b.Valid):=Lib.hid (fun hv => by
          have h1:=hv.1
          rw [HNUM.out] at h1
          simp at h1
          omega)
         clear g2
         go_enter Tryz.func16,Tryz.ntmps16
         go_wp2_with (first
          | (go_at_call 42;refine (within_any _ _ _ _).mono ?_;(first | rw [H1.out] | rw [H2.out] | rw [H3.out] | rw [H4.out] | rw [H5.out]);rintro e w1 ⟨rfl,rfl⟩)
          | fail)
         go_ret
         exact ⟨false,rfl,⟨fun h => (by cases h),fun h => absurd h HBAD.out⟩,HB0.out⟩
        ·have g2':decide ((200:Int) < nq) = false:=decide_eq_false (by omega)
         have HNK:Hid (numOk b = true):=Lib.hid (by
          rw [HNUM.out,decide_eq_true (show no ≤ 500 by omega),decide_eq_true (show nk ≤ 200 by omega),decide_eq_true (show nq ≤ 200 by omega)]
          rfl)
         have HAC:Hid (b.actv = 0 ∨ b.actv = 1):=Lib.hid (by
          have:=H1.out
          unfold inR at this
          simp at this
          omega)
         have HO5:Hid (b.objs.length ≤ 500):=Lib.hid (by rw [HNO.out];omega)
         go_enter Tryz.func16,Tryz.ntmps16
         go_wp2_with (first
          | (go_at_call 42;refine (within_any _ _ _ _).mono ?_;(first | rw [H1.out] | rw [H2.out] | rw [H3.out] | rw [H4.out] | rw [H5.out]);rintro e w1 ⟨rfl,rfl⟩)
          | (refine wpList_load_by HL28.out rfl rfl rfl ?_;simp only [Act.put,List.setIfInBounds_toArray,List.set_cons_succ,List.set_cons_zero])
          | fail)

         go_loopw [54] (fun i W => ∃ k:Nat,k ≤ 2 ∧ i = .int .i64 k ∧ Hid (∀ j,j < k → seOk (seN b j) = true) ∧ Hid (Blk W w.heap.size 33 cs) ∧ Hid (Below w.heap.size w W)) (fun i _ => 2 - (intOf i).toNat)
         case atStart => exact ⟨0,by omega,rfl,Lib.hid (fun j hj => absurd hj (by omega)),HBOX,HB0⟩
         case round =>
          obtain ⟨k,hk,rfl,HE,HBL,HB⟩:=hrel
          clear o34 o33 o35 o36 o37 o0 o29 o30
          by_cases hlt:k < 2
          ·have hlt':(k:Int) < 2:=by omega
           have hix:=HIX.out k hlt
           have HPT:=Lib.hid (seOk_parts (seN b k))
           have HSV:Hid (b.Valid → seOk (seN b k) = true):=Lib.hid (fun hv => by
            unfold seN
            split
            ·exact hv.2.1
            ·exact hv.2.2.1)
           obtain ⟨x,hx⟩:∃ x,seN b k = x:=⟨_,rfl⟩
           obtain ⟨mx,hmx⟩:∃ x,smN m k = x:=⟨_,rfl⟩
           have HSX:=Lib.hid hx
           rw [hx,hmx] at hix
           rw [hx] at HPT HSV
           clear hx hmx
           obtain ⟨life,p0,p1,p2,p3,lib,hand,fld,grv,emp,ply,kpt,mul,act⟩:=x
           obtain ⟨⟨LA,Lc⟩,⟨NA,Nc⟩,⟨FA,Fc⟩,⟨GA,Gc⟩⟩:=mx
           simp only [Se.cells,Sl.v] at hix HPT
           obtain ⟨s1,hs1⟩:∃ s,inR life 0 9999 = s:=⟨_,rfl⟩
           obtain ⟨s2,hs2⟩:∃ s,manaOk p0 p1 p2 p3 99 = s:=⟨_,rfl⟩
           obtain ⟨s3,hs3⟩:∃ s,inR mul 0 7 = s:=⟨_,rfl⟩
           obtain ⟨s4,hs4⟩:∃ s,inR act 0 255 = s:=⟨_,rfl⟩
           rw [hs1,hs2,hs3,hs4] at HPT
           have F1:=Lib.hid hs1
           have F3:=Lib.hid hs3
           have F4:=Lib.hid hs4
           obtain ⟨w5,hw5⟩:∃ w5,wr.alloc (.cells #[.int .i64 life,.int .i64 p0,.int .i64 p1,.int .i64 p2,.int .i64 p3,.slice LA lib.length Lc,.slice NA hand.length Nc,.slice FA fld.length Fc,.slice GA grv.length Gc,.bool emp,.bool ply,.bool kpt,.int .i64 mul,.int .i64 act] 27) = w5:=⟨_,rfl⟩
           obtain ⟨gX,hgX⟩:∃ g,wr.heap.size = g:=⟨_,rfl⟩
           have hal:Below wr.heap.size wr w5:=by rw [← hw5];exact (Below.refl _ _).alloc (Nat.le_refl _) _
           have HX5:Hid (Blk w5 gX 27 #[.int .i64 life,.int .i64 p0,.int .i64 p1,.int .i64 p2,.int .i64 p3,.slice LA lib.length Lc,.slice NA hand.length Nc,.slice FA fld.length Fc,.slice GA grv.length Gc,.bool emp,.bool ply,.bool kpt,.int .i64 mul,.int .i64 act]):=Lib.hid (by rw [← hw5];exact Blk.mk_ wr _ _ _ hgX)
           have HB5:=Lib.hid (below_call HB.out hal HB.out.size)
           have HBL5:=Lib.hid (HBL.out.call hal)
           have HM:Hid (Calls Tryz.prog 43 #[.agg #[.int .i64 p0,.int .i64 p1,.int .i64 p2,.int .i64 p3]] w5 fun e w' => e = .returned (.bool s2) ∧ Below w5.heap.size w5 w'):=Lib.hid (by rw [← hs2];exact mana_any p0 p1 p2 p3 w5)
           have x0:w5.cell? ⟨gX,0,none⟩ = some (.int .i64 life):=(HX5.out.at_ 0).trans rfl
           have x1:w5.cell? ⟨gX,1,none⟩ = some (.int .i64 p0):=(HX5.out.at_ 1).trans rfl
           have x2:w5.cell? ⟨gX,2,none⟩ = some (.int .i64 p1):=(HX5.out.at_ 2).trans rfl
           have x3:w5.cell? ⟨gX,3,none⟩ = some (.int .i64 p2):=(HX5.out.at_ 3).trans rfl
           have x4:w5.cell? ⟨gX,4,none⟩ = some (.int .i64 p3):=(HX5.out.at_ 4).trans rfl
           have hx5:=HX5.out.lt
           clear hs1 hs2 hs3 hs4 hal
           cases s1 with
           | false =>
            go_wp2_with (first
             | (go_at_call 42;refine (within_any _ _ _ _).mono ?_;(first | rw [F1.out] | rw [F3.out] | rw [F4.out]);rintro e w1 ⟨rfl,rfl⟩)
             | fail)
            go_ret
            exact ⟨false,rfl,⟨fun h => (by cases h),fun h => absurd (HSV.out h) (by rw [HPT.out];simp)⟩,HB5.out⟩
           | true =>
            go_wp2_with (first
             | (go_at_call 42;refine (within_any _ _ _ _).mono ?_;(first | rw [F1.out] | rw [F3.out] | rw [F4.out]);rintro e w1 ⟨rfl,rfl⟩)
             | fail)
            refine HM.out.mono ?_
            rintro e w6 ⟨rfl,hb6⟩
            have HX6:=Lib.hid (HX5.out.call hb6)
            have HB6:=Lib.hid (below_call HB5.out hb6 HB5.out.size)
            have HBL6:=Lib.hid (HBL5.out.call hb6)
            clear x0 x1 x2 x3 x4 hx5 hw5 hgX
            have x12:w6.cell? ⟨gX,12,none⟩ = some (.int .i64 mul):=(HX6.out.at_ 12).trans rfl
            have x13:w6.cell? ⟨gX,13,none⟩ = some (.int .i64 act):=(HX6.out.at_ 13).trans rfl
            cases s2 with
            | false =>
             go_wp2_with (first
              | (go_at_call 42;refine (within_any _ _ _ _).mono ?_;(first | rw [F1.out] | rw [F3.out] | rw [F4.out]);rintro e w1 ⟨rfl,rfl⟩)
              | fail)
             go_ret
             exact ⟨false,rfl,⟨fun h => (by cases h),fun h => absurd (HSV.out h) (by rw [HPT.out];simp)⟩,HB6.out⟩
            | true =>
             cases s3 with
             | false =>
              go_wp2_with (first
               | (go_at_call 42;refine (within_any _ _ _ _).mono ?_;(first | rw [F1.out] | rw [F3.out] | rw [F4.out]);rintro e w1 ⟨rfl,rfl⟩)
               | fail)
              go_ret
              exact ⟨false,rfl,⟨fun h => (by cases h),fun h => absurd (HSV.out h) (by rw [HPT.out];simp)⟩,HB6.out⟩
             | true =>
              cases s4 with
              | false =>
               go_wp2_with (first
                | (go_at_call 42;refine (within_any _ _ _ _).mono ?_;(first | rw [F1.out] | rw [F3.out] | rw [F4.out]);rintro e w1 ⟨rfl,rfl⟩)
                | fail)
               go_ret
               exact ⟨false,rfl,⟨fun h => (by cases h),fun h => absurd (HSV.out h) (by rw [HPT.out];simp)⟩,HB6.out⟩
              | true =>
               have HEE:Hid (∀ j,j < k + 1 → seOk (seN b j) = true):=Lib.hid (fun j hj => by
                rcases Nat.lt_or_ge j k with h | h
                ·exact HE.out j h
                ·obtain rfl:j = k:=by omega
                 rw [HSX.out,HPT.out]
                 rfl)
               go_wp2_with (first
                | (go_at_call 42;refine (within_any _ _ _ _).mono ?_;(first | rw [F1.out] | rw [F3.out] | rw [F4.out]);rintro e w1 ⟨rfl,rfl⟩)
                | fail)
               go_roundw
               case rel => exact ⟨k + 1,hlt,by go_num,HEE,HBL6,HB6⟩
               case measure => simp [intOf];omega
          ·have HK2:Hid (k = 2):=Lib.hid (by omega)
           have HS:Hid (seOk b.s0 = true ∧ seOk b.s1 = true):=Lib.hid ⟨HE.out 0 (by rw [HK2.out];omega),HE.out 1 (by rw [HK2.out];omega)⟩
           have c29:wr.cell? ⟨w.heap.size,29,none⟩ = some (.slice KA nk Kc):=(HBL.out.at_ 29).trans E29.out
           have HC1:=Lib.hid (HCX.out wr HB.out)
           obtain ⟨v1,hv1⟩:∃ v,b.stk.all (itOk false) = v:=⟨_,rfl⟩
           rw [hv1] at HC1
           have HV1:=Lib.hid hv1
           clear hv1 hk
           go_wp2_with fail
           refine HC1.out.mono ?_
           rintro e w6 ⟨rfl,hb6⟩
           have HB6:=Lib.hid (below_call HB.out hb6 HB.out.size)
           have HBL6:=Lib.hid (HBL.out.call hb6)
           clear c29
           cases v1 with
           | false =>
            simp only [Bool.not_false]
            go_wp2_with fail
            go_ret
            exact ⟨false,rfl,⟨fun h => (by cases h),fun h => absurd h.2.2.2.1 (by rw [HV1.out];simp)⟩,HB6.out⟩
           | true =>
            simp only [Bool.not_true]
            have c30:w6.cell? ⟨w.heap.size,30,none⟩ = some (.slice QA nq Qc):=(HBL6.out.at_ 30).trans E30.out
            have HC2:=Lib.hid (HCQ.out w6 HB6.out)
            obtain ⟨v2,hv2⟩:∃ v,b.que.all (itOk true) = v:=⟨_,rfl⟩
            rw [hv2] at HC2
            have HV2:=Lib.hid hv2
            clear hv2
            go_wp2_with fail
            refine HC2.out.mono ?_
            rintro e w7 ⟨rfl,hb7⟩
            have HB7:=Lib.hid (below_call HB6.out hb7 HB6.out.size)
            have HBL7:=Lib.hid (HBL6.out.call hb7)
            clear c30
            cases v2 with
            | false =>
             simp only [Bool.not_false]
             go_wp2_with fail
             go_ret
             exact ⟨false,rfl,⟨fun h => (by cases h),fun h => absurd h.2.2.2.2.1 (by rw [HV2.out];simp)⟩,HB7.out⟩
            | true =>
             simp only [Bool.not_true]
             have HL33:∀ W,Blk W w.heap.size 33 cs → (Instr.loadAt 33 (.pointer (some ⟨w.heap.size,0,none⟩))).run Tryz.prog W = .ok (.agg cs) W:=fun W hB => by
              have:=hB.mid (o:=0) (ty:=33) cs.toList _ (fun j v hj => by rw [Nat.zero_add];simpa using hj) Tryz.underlying33 rfl (by rw [HSZ.out];exact size_board)
              rwa [Array.toArray_toList] at this
             have HL7:=Lib.hid (HL33 w7 HBL7.out)
             have HL8:=Lib.hid HL33
             clear HL33
             go_wp2_with (first | (refine wpList_load_by HL7.out rfl rfl rfl ?_;simp only [Act.put,List.setIfInBounds_toArray,List.set_cons_succ,List.set_cons_zero]) | fail)
             refine (HP.out w7 HB7.out).mono ?_
             rintro e w8 ⟨v3,rfl,hv3,hb8⟩
             have HB8:=Lib.hid (below_call HB7.out hb8 HB7.out.size)
             have HBL8:=Lib.hid (HBL7.out.call hb8)
             have HV3:=Lib.hid hv3
             clear hv3
             cases v3 with
             | false =>
              go_wp2_with fail
              go_ret
              exact ⟨false,rfl,⟨fun h => (by cases h),fun h => (by have:=HV3.out.2 h.2.2.2.2.2.1;cases this)⟩,HB8.out⟩
             | true =>
              have HL9:=Lib.hid (HL8.out w8 HBL8.out)
              go_wp2_with (first | (refine wpList_load_by HL9.out rfl rfl rfl ?_;simp only [Act.put,List.setIfInBounds_toArray,List.set_cons_succ,List.set_cons_zero]) | fail)
              refine (HFG.out w8 HB8.out (HV3.out.1 (by trivial)) HO5.out HAC.out).mono ?_
              rintro e w9 ⟨v4,rfl,hv4,hb9⟩
              have HV4:=Lib.hid hv4
              clear hv4
              have HB9:=Lib.hid (below_call HB8.out hb9 HB8.out.size)
              go_wp2_with fail
              go_ret
              exact ⟨v4,rfl,⟨fun h => ⟨HNK.out,HS.out.1,HS.out.2,HV1.out,HV2.out,HV3.out.1 (by trivial),HV4.out.1 h⟩,fun h => HV4.out.2 h.2.2.2.2.2.2⟩,HB9.out⟩
end Go.Proofs.YtagpphelgghbpaaGreat
