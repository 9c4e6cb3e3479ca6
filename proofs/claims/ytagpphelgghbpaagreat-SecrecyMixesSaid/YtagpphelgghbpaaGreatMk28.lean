/-
  Texts: Rvb.
-/
import Derived.Test.YtagpphelgghbpaaGreatMk27
set_option linter.unusedSimpArgs false
set_option linter.unusedVariables false
namespace Go.Proofs.YtagpphelgghbpaaGreat
open Go.RowKit

theorem inR_iff (n a b:Int):inR n a b = true ↔ ¬ n < a ∧ ¬ b < n:=by
 unfold inR
 simp only [Bool.and_eq_true,decide_eq_true_eq]
 omega
theorem tgOk_iff (t:Tg):tgOk t = true ↔ (¬ t.id < 0 ∧ ¬ 500 < t.id ∧ ¬ t.pl < 0 ∧ ¬ 1 < t.pl) ∧ ¬ (0 < t.id ∧ ¬ t.pl = 0):=by
 unfold tgOk
 simp only [Bool.and_eq_true,Bool.or_eq_true,inR_iff,decide_eq_true_eq]
 omega
theorem itOk_iff (q:Bool) (x:It):itOk q x = true ↔ ((¬ x.pl < 0 ∧ ¬ 1 < x.pl ∧ ¬ x.id < 1 ∧ ¬ 500 < x.id ∧ ¬ x.card < 0 ∧ ¬ 399 < x.card ∧ ¬ x.trg < -1 ∧ ¬ 1 < x.trg) ∧ ¬ 4 < x.tgs.length) ∧ (¬ (0 ≤ x.trg ∧ 0 < x.tgs.length) ∧ ¬ (q = true ∧ x.trg < 0)) ∧ x.tgs.all tgOk = true:=by
 unfold itOk
 simp only [Bool.and_eq_true,inR_iff,Bool.not_eq_true',Bool.and_eq_false_iff,decide_eq_true_eq,decide_eq_false_iff_not]
 cases hA:x.tgs.all tgOk <;> cases q <;> simp only [Bool.true_eq_false,Bool.false_eq_true,true_or,false_or,true_and,false_and,and_true,and_false,not_false_eq_true,Bool.true_and,Bool.false_and,or_false,or_true] <;> omega
def R3ok (q:Bool) (x:It):Prop:=¬ (0 ≤ x.trg ∧ 0 < x.tgs.length) ∧ ¬ (q = true ∧ x.trg < 0)
set_option maxRecDepth 100000 in
set_option maxHeartbeats 6400000 in
theorem ritem_any (q:Bool) (x:It) (t:Sl) (w:World) (hx:Reads w 2 t.A x.tgs.length (tcs x.tgs)) (hc:x.tgs.length ≤ 9223372036854775807) :
  Calls Tryz.prog 31 #[.agg #[.int .i64 x.pl,.int .i64 x.id,.int .i64 x.card,.int .i64 x.trg,.slice t.A x.tgs.length t.c],.bool q] w fun e w' => e = .returned (.bool (itOk q x)) ∧ Below w.heap.size w w':=by
 obtain ⟨tA,tc⟩:=t
 simp only at hx ⊢
 obtain ⟨nt,hnt⟩:∃ n,x.tgs.length = n:=⟨_,rfl⟩
 obtain ⟨tl,htl⟩:∃ n,x.tgs = n:=⟨_,rfl⟩
 have HTL:=Lib.hid htl
 have HL:Hid (tl.length = nt):=Lib.hid (by rw [← htl];exact hnt)
 have HNT:=Lib.hid hnt
 rw [hnt] at hx hc ⊢
 rw [htl] at hx
 have HT:=Lib.hid hx
 clear hx htl hnt
 obtain ⟨cs,hcs⟩:∃ cs,(#[.int .i64 x.pl,.int .i64 x.id,.int .i64 x.card,.int .i64 x.trg,.slice tA nt tc]:Array Value) = cs:=⟨_,rfl⟩
 obtain ⟨w1,hw1⟩:∃ x,w.alloc (.cells cs 55) = x:=⟨_,rfl⟩
 have HBX:Hid (Blk w1 w.heap.size 55 cs):=Lib.hid (by rw [← hw1];exact Blk.mk_ w _ _ _ rfl)
 have HB0:Hid (Below w.heap.size w w1):=Lib.hid (by rw [← hw1];exact (Below.refl _ _).alloc (Nat.le_refl _) _)
 have E4:Hid (cs[4]? = some (.slice tA nt tc)):=Lib.hid (by rw [← hcs];rfl)
 have o0:w1.cell? ⟨w.heap.size,0,none⟩ = some (.int .i64 x.pl):=(HBX.out.at_ 0).trans (by rw [← hcs];rfl)
 have o1:w1.cell? ⟨w.heap.size,1,none⟩ = some (.int .i64 x.id):=(HBX.out.at_ 1).trans (by rw [← hcs];rfl)
 have o2:w1.cell? ⟨w.heap.size,2,none⟩ = some (.int .i64 x.card):=(HBX.out.at_ 2).trans (by rw [← hcs];rfl)
 have o3:w1.cell? ⟨w.heap.size,3,none⟩ = some (.int .i64 x.trg):=(HBX.out.at_ 3).trans (by rw [← hcs];rfl)
 have o4:w1.cell? ⟨w.heap.size,4,none⟩ = some (.slice tA nt tc):=(HBX.out.at_ 4).trans E4.out
 rw [hcs]
 clear hcs
 go_enter Tryz.func31,Tryz.ntmps31
 by_cases c1:x.pl < 0
 case pos =>
  have e1:decide (x.pl < 0) = true:=decide_eq_true c1
  have HALL:Hid (itOk q x = false):=Lib.hid (by cases hv:itOk q x with | false => rfl | true => (have h:=(itOk_iff q x).1 hv;exact absurd c1 (h.1.1.1)))
  go_wp2_with fail
  go_ret
  exact ⟨by rw [HALL.out];rfl,HB0.out⟩
 have d1:decide (x.pl < 0) = false:=decide_eq_false c1
 have C1:=Lib.hid c1
 clear c1
 by_cases c2:1 < x.pl
 case pos =>
  have e2:decide (1 < x.pl) = true:=decide_eq_true c2
  have HALL:Hid (itOk q x = false):=Lib.hid (by cases hv:itOk q x with | false => rfl | true => (have h:=(itOk_iff q x).1 hv;exact absurd c2 (h.1.1.2.1)))
  go_wp2_with fail
  go_ret
  exact ⟨by rw [HALL.out];rfl,HB0.out⟩
 have d2:decide (1 < x.pl) = false:=decide_eq_false c2
 have C2:=Lib.hid c2
 clear c2
 by_cases c3:x.id < 1
 case pos =>
  have e3:decide (x.id < 1) = true:=decide_eq_true c3
  have HALL:Hid (itOk q x = false):=Lib.hid (by cases hv:itOk q x with | false => rfl | true => (have h:=(itOk_iff q x).1 hv;exact absurd c3 (h.1.1.2.2.1)))
  go_wp2_with fail
  go_ret
  exact ⟨by rw [HALL.out];rfl,HB0.out⟩
 have d3:decide (x.id < 1) = false:=decide_eq_false c3
 have C3:=Lib.hid c3
 clear c3
 by_cases c4:500 < x.id
 case pos =>
  have e4:decide (500 < x.id) = true:=decide_eq_true c4
  have HALL:Hid (itOk q x = false):=Lib.hid (by cases hv:itOk q x with | false => rfl | true => (have h:=(itOk_iff q x).1 hv;exact absurd c4 (h.1.1.2.2.2.1)))
  go_wp2_with fail
  go_ret
  exact ⟨by rw [HALL.out];rfl,HB0.out⟩
 have d4:decide (500 < x.id) = false:=decide_eq_false c4
 have C4:=Lib.hid c4
 clear c4
 by_cases c5:x.card < 0
 case pos =>
  have e5:decide (x.card < 0) = true:=decide_eq_true c5
  have HALL:Hid (itOk q x = false):=Lib.hid (by cases hv:itOk q x with | false => rfl | true => (have h:=(itOk_iff q x).1 hv;exact absurd c5 (h.1.1.2.2.2.2.1)))
  go_wp2_with fail
  go_ret
  exact ⟨by rw [HALL.out];rfl,HB0.out⟩
 have d5:decide (x.card < 0) = false:=decide_eq_false c5
 have C5:=Lib.hid c5
 clear c5
 by_cases c6:399 < x.card
 case pos =>
  have e6:decide (399 < x.card) = true:=decide_eq_true c6
  have HALL:Hid (itOk q x = false):=Lib.hid (by cases hv:itOk q x with | false => rfl | true => (have h:=(itOk_iff q x).1 hv;exact absurd c6 (h.1.1.2.2.2.2.2.1)))
  go_wp2_with fail
  go_ret
  exact ⟨by rw [HALL.out];rfl,HB0.out⟩
 have d6:decide (399 < x.card) = false:=decide_eq_false c6
 have C6:=Lib.hid c6
 clear c6
 by_cases c7:x.trg < -1
 case pos =>
  have e7:decide (x.trg < -1) = true:=decide_eq_true c7
  have HALL:Hid (itOk q x = false):=Lib.hid (by cases hv:itOk q x with | false => rfl | true => (have h:=(itOk_iff q x).1 hv;exact absurd c7 (h.1.1.2.2.2.2.2.2.1)))
  go_wp2_with fail
  go_ret
  exact ⟨by rw [HALL.out];rfl,HB0.out⟩
 have d7:decide (x.trg < -1) = false:=decide_eq_false c7
 have C7:=Lib.hid c7
 clear c7
 by_cases c8:1 < x.trg
 case pos =>
  have e8:decide (1 < x.trg) = true:=decide_eq_true c8
  have HALL:Hid (itOk q x = false):=Lib.hid (by cases hv:itOk q x with | false => rfl | true => (have h:=(itOk_iff q x).1 hv;exact absurd c8 (h.1.1.2.2.2.2.2.2.2)))
  go_wp2_with fail
  go_ret
  exact ⟨by rw [HALL.out];rfl,HB0.out⟩
 have d8:decide (1 < x.trg) = false:=decide_eq_false c8
 have C8:=Lib.hid c8
 clear c8
 by_cases c9:(4:Int) < nt
 case pos =>
  have e9:decide ((4:Int) < nt) = true:=decide_eq_true c9
  have HALL:Hid (itOk q x = false):=Lib.hid (by cases hv:itOk q x with | false => rfl | true => (have h:=(itOk_iff q x).1 hv;have h2:=h.1.2;rw [HNT.out] at h2;omega))
  go_wp2_with fail
  go_ret
  exact ⟨by rw [HALL.out];rfl,HB0.out⟩
 have d9:decide ((4:Int) < nt) = false:=decide_eq_false c9
 have C9:=Lib.hid c9
 clear c9
 have HR1:Hid (¬ x.pl < 0 ∧ ¬ 1 < x.pl ∧ ¬ x.id < 1 ∧ ¬ 500 < x.id ∧ ¬ x.card < 0 ∧ ¬ 399 < x.card ∧ ¬ x.trg < -1 ∧ ¬ 1 < x.trg):=Lib.hid ⟨C1.out,C2.out,C3.out,C4.out,C5.out,C6.out,C7.out,C8.out⟩
 by_cases ht:0 ≤ x.trg
 case pos =>
  have ht1:decide (0 ≤ x.trg) = true:=decide_eq_true ht
  have ht2:decide (x.trg < 0) = false:=decide_eq_false (by omega)
  by_cases hn:(0:Int) < nt
  case pos =>
   have hn1:decide ((0:Int) < nt) = true:=decide_eq_true hn
   have hn2:decide (0 < nt) = true:=decide_eq_true (by omega)
   have HALL:Hid (itOk q x = false):=Lib.hid (by cases hv:itOk q x with | false => rfl | true => (have h:=((itOk_iff q x).1 hv).2.1.1;rw [HNT.out] at h;exact absurd ⟨ht,by omega⟩ h))
   clear ht hn
   go_wp2_with fail
   go_ret
   exact ⟨by rw [HALL.out];rfl,HB0.out⟩
  have hn1:decide ((0:Int) < nt) = false:=decide_eq_false hn
  have hn2:decide (0 < nt) = false:=decide_eq_false (by omega)
  have HR3:Hid (R3ok q x):=Lib.hid ⟨by rw [HNT.out];omega,fun h => by have:=h.2;omega⟩
  clear ht hn
  cases q with
  | true =>
   go_wp2_with fail
   go_loopw [5] (fun i W => ∃ k:Nat,k ≤ nt ∧ i = .int .i64 k ∧ Hid (∀ j y,j < k → tl[j]? = some y → tgOk y = true) ∧ Hid (Blk W w.heap.size 55 cs ∧ Below w.heap.size w W)) (fun i _ => nt - (intOf i).toNat)
   case atStart => exact ⟨0,Nat.zero_le _,rfl,Lib.hid (fun j y h => absurd h (by omega)),Lib.hid ⟨HBX.out,HB0.out⟩⟩
   case round =>
    obtain ⟨k,hk,rfl,HE,HI⟩:=hrel
    clear o0 o1 o2 o3 o4 HBX
    have o4:wr.cell? ⟨w.heap.size,4,none⟩ = some (.slice tA nt tc):=(HI.out.1.at_ 4).trans E4.out
    by_cases hkn:k < nt
    ·have hkn':(k:Int) < nt:=by omega
     obtain ⟨y,hy⟩:=get_of (l:=tl) (k:=k) (by rw [HL.out];exact hkn)
     obtain ⟨ad,rfl,-,d0,d1⟩:=tgt_at (HT.out.below HI.out.2) hy hkn
     have HG:=Lib.hid hy
     clear hy
     obtain ⟨w5,hw5⟩:∃ w5,wr.alloc (.cells #[.int .i64 y.id,.int .i64 y.pl] 124) = w5:=⟨_,rfl⟩
     have hal:Below wr.heap.size wr w5:=by rw [← hw5];exact (Below.refl _ _).alloc (Nat.le_refl _) _
     have hbk:Blk w5 wr.heap.size 124 #[.int .i64 y.id,.int .i64 y.pl]:=by rw [← hw5];exact Blk.mk_ wr _ _ _ rfl
     have HI5:Hid (Blk w5 w.heap.size 55 cs ∧ Below w.heap.size w w5):=Lib.hid ⟨HI.out.1.call hal,below_call HI.out.2 hal HI.out.2.size⟩
     have p0:w5.cell? ⟨wr.heap.size,0,none⟩ = some (.int .i64 y.id):=(hbk.at_ 0).trans rfl
     have p1:w5.cell? ⟨wr.heap.size,1,none⟩ = some (.int .i64 y.pl):=(hbk.at_ 1).trans rfl
     clear hal hbk
     by_cases c21:y.id < 0
     case pos =>
      have e21:decide (y.id < 0) = true:=decide_eq_true c21
      have HA:Hid (tgOk y = false):=Lib.hid (by cases hv:tgOk y with | false => rfl | true => (have h:=(tgOk_iff y).1 hv;exact absurd c21 h.1.1))
      have HALL:Hid (itOk true x = false):=Lib.hid (by cases hv:itOk true x with | false => rfl | true => (have h:=((itOk_iff true x).1 hv).2.2;rw [HTL.out,none_of HG.out HA.out] at h;exact absurd h (by decide)))
      go_wp2_with fail
      go_ret
      exact ⟨by rw [HALL.out];rfl,HI5.out.2⟩
     have d21:decide (y.id < 0) = false:=decide_eq_false c21
     have C21:=Lib.hid c21
     clear c21
     by_cases c22:500 < y.id
     case pos =>
      have e22:decide (500 < y.id) = true:=decide_eq_true c22
      have HA:Hid (tgOk y = false):=Lib.hid (by cases hv:tgOk y with | false => rfl | true => (have h:=(tgOk_iff y).1 hv;exact absurd c22 h.1.2.1))
      have HALL:Hid (itOk true x = false):=Lib.hid (by cases hv:itOk true x with | false => rfl | true => (have h:=((itOk_iff true x).1 hv).2.2;rw [HTL.out,none_of HG.out HA.out] at h;exact absurd h (by decide)))
      go_wp2_with fail
      go_ret
      exact ⟨by rw [HALL.out];rfl,HI5.out.2⟩
     have d22:decide (500 < y.id) = false:=decide_eq_false c22
     have C22:=Lib.hid c22
     clear c22
     by_cases c23:y.pl < 0
     case pos =>
      have e23:decide (y.pl < 0) = true:=decide_eq_true c23
      have HA:Hid (tgOk y = false):=Lib.hid (by cases hv:tgOk y with | false => rfl | true => (have h:=(tgOk_iff y).1 hv;exact absurd c23 h.1.2.2.1))
      have HALL:Hid (itOk true x = false):=Lib.hid (by cases hv:itOk true x with | false => rfl | true => (have h:=((itOk_iff true x).1 hv).2.2;rw [HTL.out,none_of HG.out HA.out] at h;exact absurd h (by decide)))
      go_wp2_with fail
      go_ret
      exact ⟨by rw [HALL.out];rfl,HI5.out.2⟩
     have d23:decide (y.pl < 0) = false:=decide_eq_false c23
     have C23:=Lib.hid c23
     clear c23
     by_cases c24:1 < y.pl
     case pos =>
      have e24:decide (1 < y.pl) = true:=decide_eq_true c24
      have HA:Hid (tgOk y = false):=Lib.hid (by cases hv:tgOk y with | false => rfl | true => (have h:=(tgOk_iff y).1 hv;exact absurd c24 h.1.2.2.2))
      have HALL:Hid (itOk true x = false):=Lib.hid (by cases hv:itOk true x with | false => rfl | true => (have h:=((itOk_iff true x).1 hv).2.2;rw [HTL.out,none_of HG.out HA.out] at h;exact absurd h (by decide)))
      go_wp2_with fail
      go_ret
      exact ⟨by rw [HALL.out];rfl,HI5.out.2⟩
     have d24:decide (1 < y.pl) = false:=decide_eq_false c24
     have C24:=Lib.hid c24
     clear c24
     by_cases c25:0 < y.id ∧ ¬ y.pl = 0
     case pos =>
      have hy0:0 < y.id:=c25.1
      have hypb:(y.pl != 0) = true:=by simp [c25.2]
      have HA:Hid (tgOk y = false):=Lib.hid (by cases hv:tgOk y with | false => rfl | true => (have h:=(tgOk_iff y).1 hv;exact absurd c25 h.2))
      have HALL:Hid (itOk true x = false):=Lib.hid (by cases hv:itOk true x with | false => rfl | true => (have h:=((itOk_iff true x).1 hv).2.2;rw [HTL.out,none_of HG.out HA.out] at h;exact absurd h (by decide)))
      go_wp2_with fail
      go_ret
      exact ⟨by rw [HALL.out];rfl,HI5.out.2⟩
     have C25:=Lib.hid c25
     clear c25
     have HEE:Hid (∀ j z,j < k + 1 → tl[j]? = some z → tgOk z = true):=Lib.hid (fun j z hq hg => by
      rcases Nat.lt_or_ge j k with h | h
      ·exact HE.out j z h hg
      ·obtain rfl:j = k:=by omega
       rw [HG.out] at hg
       rw [← Option.some.inj hg]
       exact (tgOk_iff _).2 (by have:=C21.out;have:=C22.out;have:=C23.out;have:=C24.out;have:=C25.out;omega))
     by_cases hy0:0 < y.id
     ·have hy0':decide (0 < y.id) = true:=decide_eq_true hy0
      have hyp:y.pl = 0:=Decidable.byContradiction (fun h => C25.out ⟨hy0,h⟩)
      have hypb:(y.pl != 0) = false:=by simp [hyp]
      clear hyp
      go_wp2_with fail
      go_roundw
      case rel => exact ⟨k + 1,hkn,by go_num,HEE,HI5⟩
      case measure => simp [intOf];omega
     ·have hy0':decide (0 < y.id) = false:=decide_eq_false hy0
      clear hy0
      go_wp2_with fail
      go_roundw
      case rel => exact ⟨k + 1,hkn,by go_num,HEE,HI5⟩
      case measure => simp [intOf];omega
    ·obtain rfl:k = nt:=by omega
     have HALL:Hid (itOk true x = true):=Lib.hid ((itOk_iff true x).2 ⟨⟨by have:=HR1.out;omega,by rw [HNT.out];have:=C9.out;omega⟩,HR3.out,by rw [HTL.out];exact all_of HL.out HE.out⟩)
     go_wp2_with fail
     go_ret
     exact ⟨by rw [HALL.out];rfl,HI.out.2⟩
  | false =>
   go_wp2_with fail
   go_loopw [5] (fun i W => ∃ k:Nat,k ≤ nt ∧ i = .int .i64 k ∧ Hid (∀ j y,j < k → tl[j]? = some y → tgOk y = true) ∧ Hid (Blk W w.heap.size 55 cs ∧ Below w.heap.size w W)) (fun i _ => nt - (intOf i).toNat)
   case atStart => exact ⟨0,Nat.zero_le _,rfl,Lib.hid (fun j y h => absurd h (by omega)),Lib.hid ⟨HBX.out,HB0.out⟩⟩
   case round =>
    obtain ⟨k,hk,rfl,HE,HI⟩:=hrel
    clear o0 o1 o2 o3 o4 HBX
    have o4:wr.cell? ⟨w.heap.size,4,none⟩ = some (.slice tA nt tc):=(HI.out.1.at_ 4).trans E4.out
    by_cases hkn:k < nt
    ·have hkn':(k:Int) < nt:=by omega
     obtain ⟨y,hy⟩:=get_of (l:=tl) (k:=k) (by rw [HL.out];exact hkn)
     obtain ⟨ad,rfl,-,d0,d1⟩:=tgt_at (HT.out.below HI.out.2) hy hkn
     have HG:=Lib.hid hy
     clear hy
     obtain ⟨w5,hw5⟩:∃ w5,wr.alloc (.cells #[.int .i64 y.id,.int .i64 y.pl] 124) = w5:=⟨_,rfl⟩
     have hal:Below wr.heap.size wr w5:=by rw [← hw5];exact (Below.refl _ _).alloc (Nat.le_refl _) _
     have hbk:Blk w5 wr.heap.size 124 #[.int .i64 y.id,.int .i64 y.pl]:=by rw [← hw5];exact Blk.mk_ wr _ _ _ rfl
     have HI5:Hid (Blk w5 w.heap.size 55 cs ∧ Below w.heap.size w w5):=Lib.hid ⟨HI.out.1.call hal,below_call HI.out.2 hal HI.out.2.size⟩
     have p0:w5.cell? ⟨wr.heap.size,0,none⟩ = some (.int .i64 y.id):=(hbk.at_ 0).trans rfl
     have p1:w5.cell? ⟨wr.heap.size,1,none⟩ = some (.int .i64 y.pl):=(hbk.at_ 1).trans rfl
     clear hal hbk
     by_cases c21:y.id < 0
     case pos =>
      have e21:decide (y.id < 0) = true:=decide_eq_true c21
      have HA:Hid (tgOk y = false):=Lib.hid (by cases hv:tgOk y with | false => rfl | true => (have h:=(tgOk_iff y).1 hv;exact absurd c21 h.1.1))
      have HALL:Hid (itOk false x = false):=Lib.hid (by cases hv:itOk false x with | false => rfl | true => (have h:=((itOk_iff false x).1 hv).2.2;rw [HTL.out,none_of HG.out HA.out] at h;exact absurd h (by decide)))
      go_wp2_with fail
      go_ret
      exact ⟨by rw [HALL.out];rfl,HI5.out.2⟩
     have d21:decide (y.id < 0) = false:=decide_eq_false c21
     have C21:=Lib.hid c21
     clear c21
     by_cases c22:500 < y.id
     case pos =>
      have e22:decide (500 < y.id) = true:=decide_eq_true c22
      have HA:Hid (tgOk y = false):=Lib.hid (by cases hv:tgOk y with | false => rfl | true => (have h:=(tgOk_iff y).1 hv;exact absurd c22 h.1.2.1))
      have HALL:Hid (itOk false x = false):=Lib.hid (by cases hv:itOk false x with | false => rfl | true => (have h:=((itOk_iff false x).1 hv).2.2;rw [HTL.out,none_of HG.out HA.out] at h;exact absurd h (by decide)))
      go_wp2_with fail
      go_ret
      exact ⟨by rw [HALL.out];rfl,HI5.out.2⟩
     have d22:decide (500 < y.id) = false:=decide_eq_false c22
     have C22:=Lib.hid c22
     clear c22
     by_cases c23:y.pl < 0
     case pos =>
      have e23:decide (y.pl < 0) = true:=decide_eq_true c23
      have HA:Hid (tgOk y = false):=Lib.hid (by cases hv:tgOk y with | false => rfl | true => (have h:=(tgOk_iff y).1 hv;exact absurd c23 h.1.2.2.1))
      have HALL:Hid (itOk false x = false):=Lib.hid (by cases hv:itOk false x with | false => rfl | true => (have h:=((itOk_iff false x).1 hv).2.2;rw [HTL.out,none_of HG.out HA.out] at h;exact absurd h (by decide)))
      go_wp2_with fail
      go_ret
      exact ⟨by rw [HALL.out];rfl,HI5.out.2⟩
     have d23:decide (y.pl < 0) = false:=decide_eq_false c23
     have C23:=Lib.hid c23
     clear c23
     by_cases c24:1 < y.pl
     case pos =>
      have e24:decide (1 < y.pl) = true:=decide_eq_true c24
      have HA:Hid (tgOk y = false):=Lib.hid (by cases hv:tgOk y with | false => rfl | true => (have h:=(tgOk_iff y).1 hv;exact absurd c24 h.1.2.2.2))
      have HALL:Hid (itOk false x = false):=Lib.hid (by cases hv:itOk false x with | false => rfl | true => (have h:=((itOk_iff false x).1 hv).2.2;rw [HTL.out,none_of HG.out HA.out] at h;exact absurd h (by decide)))
      go_wp2_with fail
      go_ret
      exact ⟨by rw [HALL.out];rfl,HI5.out.2⟩
     have d24:decide (1 < y.pl) = false:=decide_eq_false c24
     have C24:=Lib.hid c24
     clear c24
     by_cases c25:0 < y.id ∧ ¬ y.pl = 0
     case pos =>
      have hy0:0 < y.id:=c25.1
      have hypb:(y.pl != 0) = true:=by simp [c25.2]
      have HA:Hid (tgOk y = false):=Lib.hid (by cases hv:tgOk y with | false => rfl | true => (have h:=(tgOk_iff y).1 hv;exact absurd c25 h.2))
      have HALL:Hid (itOk false x = false):=Lib.hid (by cases hv:itOk false x with | false => rfl | true => (have h:=((itOk_iff false x).1 hv).2.2;rw [HTL.out,none_of HG.out HA.out] at h;exact absurd h (by decide)))
      go_wp2_with fail
      go_ret
      exact ⟨by rw [HALL.out];rfl,HI5.out.2⟩
     have C25:=Lib.hid c25
     clear c25
     have HEE:Hid (∀ j z,j < k + 1 → tl[j]? = some z → tgOk z = true):=Lib.hid (fun j z hq hg => by
      rcases Nat.lt_or_ge j k with h | h
      ·exact HE.out j z h hg
      ·obtain rfl:j = k:=by omega
       rw [HG.out] at hg
       rw [← Option.some.inj hg]
       exact (tgOk_iff _).2 (by have:=C21.out;have:=C22.out;have:=C23.out;have:=C24.out;have:=C25.out;omega))
     by_cases hy0:0 < y.id
     ·have hy0':decide (0 < y.id) = true:=decide_eq_true hy0
      have hyp:y.pl = 0:=Decidable.byContradiction (fun h => C25.out ⟨hy0,h⟩)
      have hypb:(y.pl != 0) = false:=by simp [hyp]
      clear hyp
      go_wp2_with fail
      go_roundw
      case rel => exact ⟨k + 1,hkn,by go_num,HEE,HI5⟩
      case measure => simp [intOf];omega
     ·have hy0':decide (0 < y.id) = false:=decide_eq_false hy0
      clear hy0
      go_wp2_with fail
      go_roundw
      case rel => exact ⟨k + 1,hkn,by go_num,HEE,HI5⟩
      case measure => simp [intOf];omega
    ·obtain rfl:k = nt:=by omega
     have HALL:Hid (itOk false x = true):=Lib.hid ((itOk_iff false x).2 ⟨⟨by have:=HR1.out;omega,by rw [HNT.out];have:=C9.out;omega⟩,HR3.out,by rw [HTL.out];exact all_of HL.out HE.out⟩)
     go_wp2_with fail
     go_ret
     exact ⟨by rw [HALL.out];rfl,HI.out.2⟩
 have ht1:decide (0 ≤ x.trg) = false:=decide_eq_false ht
 have ht2:decide (x.trg < 0) = true:=decide_eq_true (by omega)
 cases q with
 | true =>
  have HALL:Hid (itOk true x = false):=Lib.hid (by cases hv:itOk true x with | false => rfl | true => (have h:=((itOk_iff true x).1 hv).2.1.2;exact absurd ⟨rfl,by omega⟩ h))
  clear ht
  go_wp2_with fail
  go_ret
  exact ⟨by rw [HALL.out];rfl,HB0.out⟩
 | false =>
  have HR3:Hid (R3ok false x):=Lib.hid ⟨fun h => by have:=h.1;omega,fun h => by cases h.1⟩
  clear ht
  go_wp2_with fail
  go_loopw [5] (fun i W => ∃ k:Nat,k ≤ nt ∧ i = .int .i64 k ∧ Hid (∀ j y,j < k → tl[j]? = some y → tgOk y = true) ∧ Hid (Blk W w.heap.size 55 cs ∧ Below w.heap.size w W)) (fun i _ => nt - (intOf i).toNat)
  case atStart => exact ⟨0,Nat.zero_le _,rfl,Lib.hid (fun j y h => absurd h (by omega)),Lib.hid ⟨HBX.out,HB0.out⟩⟩
  case round =>
   obtain ⟨k,hk,rfl,HE,HI⟩:=hrel
   clear o0 o1 o2 o3 o4 HBX
   have o4:wr.cell? ⟨w.heap.size,4,none⟩ = some (.slice tA nt tc):=(HI.out.1.at_ 4).trans E4.out
   by_cases hkn:k < nt
   ·have hkn':(k:Int) < nt:=by omega
    obtain ⟨y,hy⟩:=get_of (l:=tl) (k:=k) (by rw [HL.out];exact hkn)
    obtain ⟨ad,rfl,-,d0,d1⟩:=tgt_at (HT.out.below HI.out.2) hy hkn
    have HG:=Lib.hid hy
    clear hy
    obtain ⟨w5,hw5⟩:∃ w5,wr.alloc (.cells #[.int .i64 y.id,.int .i64 y.pl] 124) = w5:=⟨_,rfl⟩
    have hal:Below wr.heap.size wr w5:=by rw [← hw5];exact (Below.refl _ _).alloc (Nat.le_refl _) _
    have hbk:Blk w5 wr.heap.size 124 #[.int .i64 y.id,.int .i64 y.pl]:=by rw [← hw5];exact Blk.mk_ wr _ _ _ rfl
    have HI5:Hid (Blk w5 w.heap.size 55 cs ∧ Below w.heap.size w w5):=Lib.hid ⟨HI.out.1.call hal,below_call HI.out.2 hal HI.out.2.size⟩
    have p0:w5.cell? ⟨wr.heap.size,0,none⟩ = some (.int .i64 y.id):=(hbk.at_ 0).trans rfl
    have p1:w5.cell? ⟨wr.heap.size,1,none⟩ = some (.int .i64 y.pl):=(hbk.at_ 1).trans rfl
    clear hal hbk
    by_cases c21:y.id < 0
    case pos =>
     have e21:decide (y.id < 0) = true:=decide_eq_true c21
     have HA:Hid (tgOk y = false):=Lib.hid (by cases hv:tgOk y with | false => rfl | true => (have h:=(tgOk_iff y).1 hv;exact absurd c21 h.1.1))
     have HALL:Hid (itOk false x = false):=Lib.hid (by cases hv:itOk false x with | false => rfl | true => (have h:=((itOk_iff false x).1 hv).2.2;rw [HTL.out,none_of HG.out HA.out] at h;exact absurd h (by decide)))
     go_wp2_with fail
     go_ret
     exact ⟨by rw [HALL.out];rfl,HI5.out.2⟩
    have d21:decide (y.id < 0) = false:=decide_eq_false c21
    have C21:=Lib.hid c21
    clear c21
    by_cases c22:500 < y.id
    case pos =>
     have e22:decide (500 < y.id) = true:=decide_eq_true c22
     have HA:Hid (tgOk y = false):=Lib.hid (by cases hv:tgOk y with | false => rfl | true => (have h:=(tgOk_iff y).1 hv;exact absurd c22 h.1.2.1))
     have HALL:Hid (itOk false x = false):=Lib.hid (by cases hv:itOk false x with | false => rfl | true => (have h:=((itOk_iff false x).1 hv).2.2;rw [HTL.out,none_of HG.out HA.out] at h;exact absurd h (by decide)))
     go_wp2_with fail
     go_ret
     exact ⟨by rw [HALL.out];rfl,HI5.out.2⟩
    have d22:decide (500 < y.id) = false:=decide_eq_false c22
    have C22:=Lib.hid c22
    clear c22
    by_cases c23:y.pl < 0
    case pos =>
     have e23:decide (y.pl < 0) = true:=decide_eq_true c23
     have HA:Hid (tgOk y = false):=Lib.hid (by cases hv:tgOk y with | false => rfl | true => (have h:=(tgOk_iff y).1 hv;exact absurd c23 h.1.2.2.1))
     have HALL:Hid (itOk false x = false):=Lib.hid (by cases hv:itOk false x with | false => rfl | true => (have h:=((itOk_iff false x).1 hv).2.2;rw [HTL.out,none_of HG.out HA.out] at h;exact absurd h (by decide)))
     go_wp2_with fail
     go_ret
     exact ⟨by rw [HALL.out];rfl,HI5.out.2⟩
    have d23:decide (y.pl < 0) = false:=decide_eq_false c23
    have C23:=Lib.hid c23
    clear c23
    by_cases c24:1 < y.pl
    case pos =>
     have e24:decide (1 < y.pl) = true:=decide_eq_true c24
     have HA:Hid (tgOk y = false):=Lib.hid (by cases hv:tgOk y with | false => rfl | true => (have h:=(tgOk_iff y).1 hv;exact absurd c24 h.1.2.2.2))
     have HALL:Hid (itOk false x = false):=Lib.hid (by cases hv:itOk false x with | false => rfl | true => (have h:=((itOk_iff false x).1 hv).2.2;rw [HTL.out,none_of HG.out HA.out] at h;exact absurd h (by decide)))
     go_wp2_with fail
     go_ret
     exact ⟨by rw [HALL.out];rfl,HI5.out.2⟩
    have d24:decide (1 < y.pl) = false:=decide_eq_false c24
    have C24:=Lib.hid c24
    clear c24
    by_cases c25:0 < y.id ∧ ¬ y.pl = 0
    case pos =>
     have hy0:0 < y.id:=c25.1
     have hypb:(y.pl != 0) = true:=by simp [c25.2]
     have HA:Hid (tgOk y = false):=Lib.hid (by cases hv:tgOk y with | false => rfl | true => (have h:=(tgOk_iff y).1 hv;exact absurd c25 h.2))
     have HALL:Hid (itOk false x = false):=Lib.hid (by cases hv:itOk false x with | false => rfl | true => (have h:=((itOk_iff false x).1 hv).2.2;rw [HTL.out,none_of HG.out HA.out] at h;exact absurd h (by decide)))
     go_wp2_with fail
     go_ret
     exact ⟨by rw [HALL.out];rfl,HI5.out.2⟩
    have C25:=Lib.hid c25
    clear c25
    have HEE:Hid (∀ j z,j < k + 1 → tl[j]? = some z → tgOk z = true):=Lib.hid (fun j z hq hg => by
     rcases Nat.lt_or_ge j k with h | h
     ·exact HE.out j z h hg
     ·obtain rfl:j = k:=by omega
      rw [HG.out] at hg
      rw [← Option.some.inj hg]
      exact (tgOk_iff _).2 (by have:=C21.out;have:=C22.out;have:=C23.out;have:=C24.out;have:=C25.out;omega))
    by_cases hy0:0 < y.id
    ·have hy0':decide (0 < y.id) = true:=decide_eq_true hy0
     have hyp:y.pl = 0:=Decidable.byContradiction (fun h => C25.out ⟨hy0,h⟩)
     have hypb:(y.pl != 0) = false:=by simp [hyp]
     clear hyp
     go_wp2_with fail
     go_roundw
     case rel => exact ⟨k + 1,hkn,by go_num,HEE,HI5⟩
     case measure => simp [intOf];omega
    ·have hy0':decide (0 < y.id) = false:=decide_eq_false hy0
     clear hy0
     go_wp2_with fail
     go_roundw
     case rel => exact ⟨k + 1,hkn,by go_num,HEE,HI5⟩
     case measure => simp [intOf];omega
   ·obtain rfl:k = nt:=by omega
    have HALL:Hid (itOk false x = true):=Lib.hid ((itOk_iff false x).2 ⟨⟨by have:=HR1.out;omega,by rw [HNT.out];have:=C9.out;omega⟩,HR3.out,by rw [HTL.out];exact all_of HL.out HE.out⟩)
    go_wp2_with fail
    go_ret
    exact ⟨by rw [HALL.out];rfl,HI.out.2⟩
end Go.Proofs.YtagpphelgghbpaaGreat
