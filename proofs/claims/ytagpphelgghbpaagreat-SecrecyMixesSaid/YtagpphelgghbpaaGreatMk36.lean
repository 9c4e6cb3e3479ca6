/-
  Texts: Rhj.
-/
import Derived.Test.YtagpphelgghbpaaGreatMk25
set_option linter.unusedSimpArgs false
set_option linter.unusedVariables false
namespace Go.Proofs.YtagpphelgghbpaaGreat
open Go.RowKit

set_option maxRecDepth 100000 in
set_option maxHeartbeats 1600000 in
theorem rhid0 (b:Bd) (m:BdM) (w:World) (pl:Nat) (hpl:pl < 2) (hR:BdR w b m) (hsm:BdSm b):Calls Tryz.prog 18 #[.agg (b.cells m).toArray,.int .i64 pl] w fun e w' => ∃ A c,e = .returned (.slice A (hidS b pl).length c) ∧ XOwns w' w.heap.size 3 1 A (hidS b pl).length c (ics (rhS (hidS b pl))) ∧ Below w.heap.size w w':=by
 have HPL:=Lib.hid hpl
 obtain ⟨cs,hcs⟩:∃ cs,(b.cells m).toArray = cs:=⟨_,rfl⟩
 obtain ⟨w1,hw1⟩:∃ x,w.alloc (.cells cs 33) = x:=⟨_,rfl⟩
 have hb1:Below w.heap.size w w1:=by rw [← hw1];exact (Below.refl _ _).alloc (Nat.le_refl _) _
 have HB1:=Lib.hid hb1
 have HP1:Hid (Blk w1 w.heap.size 33 (b.cells m).toArray):=Lib.hid (by rw [← hw1,hcs];exact Blk.mk_ _ _ _ _ rfl)
 have HR1:=Lib.hid (hR.below hb1)
 have HSM:=Lib.hid hsm
 have HLL:Hid ((hidS b pl).length ≤ 1500):=Lib.hid (by
  have h1:=hsm.li (q:=0) (by decide)
  have h2:=hsm.li (q:=4) (by decide)
  have h3:=hsm.li (q:=1) (by decide)
  have h4:=hsm.li (q:=5) (by decide)
  simp only [Bd.li] at h1 h2 h3 h4
  unfold hidS seN
  rw [List.length_append,List.length_append]
  split <;> omega)
 obtain ⟨all,hall⟩:∃ x,hidS b pl = x:=⟨_,rfl⟩
 have HALL:=Lib.hid hall
 rw [hcs,hall]
 rw [hall] at HLL
 clear hb1 hR hsm hpl hcs hall
 go_enter Tryz.func18,Tryz.ntmps18
 go_wp2_with fail
 have HW1:Hid (∀ (Q:Exit → Act → World → Prop) (t0 t3 t4 t5 t6 t7 t8 t9 t10 t11 t12 t13 t14 t15 t16 t17 t18 t19 t20 t21 t22 t23 t24 t25 t26 t27 t28 t29 t30 t31 t32 t33 t34 t35 t36 t37 t38 t39 t40 t41 t42 t43 t44 t45 t46 t47 t48 t49 t50 t51 t52 t53 t54 t55 t56 t57 t58 t59 t60 t61 t62 t63 t64 t65 t66:Value),(∀ d v c a w,Q (.panic c) (Act.put a d v) w → Q (.panic c) a w) → (∀ (u10 u11 u12 u13 u14 u15 u16 u17 u18 u19 u20 u21 u22 u23 u24 u25 u26:Value) (A:Option Addr) (c:Nat) (W9:World),XOwns W9 w1.heap.size 3 1 A all.length c (ics all) ∧ Below w1.heap.size w1 W9 → Q .normal ⟨#[t0,.int .i64 pl,.pointer (some ⟨w.heap.size,0,none⟩),t3,t4,.slice A all.length c,t6,t7,t8,t9,u10,u11,u12,u13,u14,u15,u16,u17,u18,u19,u20,u21,u22,u23,u24,u25,u26,t27,t28,t29,t30,t31,t32,t33,t34,t35,t36,t37,t38,t39,t40,t41,t42,t43,t44,t45,t46,t47,t48,t49,t50,t51,t52,t53,t54,t55,t56,t57,t58,t59,t60,t61,t62,t63,t64,t65,t66],[]⟩ W9) →
   Code.wp Tryz.prog (regOf Tryz.f18 1) Q ⟨#[t0,.int .i64 pl,.pointer (some ⟨w.heap.size,0,none⟩),t3,t4,t5,t6,t7,t8,t9,t10,t11,t12,t13,t14,t15,t16,t17,t18,t19,t20,t21,t22,t23,t24,t25,t26,t27,t28,t29,t30,t31,t32,t33,t34,t35,t36,t37,t38,t39,t40,t41,t42,t43,t44,t45,t46,t47,t48,t49,t50,t51,t52,t53,t54,t55,t56,t57,t58,t59,t60,t61,t62,t63,t64,t65,t66],[]⟩ w1):=Lib.hid (by
  intro Q t0 t3 t4 t5 t6 t7 t8 t9 t10 t11 t12 t13 t14 t15 t16 t17 t18 t19 t20 t21 t22 t23 t24 t25 t26 t27 t28 t29 t30 t31 t32 t33 t34 t35 t36 t37 t38 t39 t40 t41 t42 t43 t44 t45 t46 t47 t48 t49 t50 t51 t52 t53 t54 t55 t56 t57 t58 t59 t60 t61 t62 t63 t64 t65 t66 hQ hK
  rcases (show pl = 0 ∨ pl = 1 by have:=HPL.out;omega) with rfl | rfl
  ·have e:b.s0.lib ++ b.s1.lib ++ b.s1.hand = all:=by rw [← HALL.out];rfl
   have h:=rh_all0 w1 w.heap.size b m HP1.out HR1.out HSM.out Q t0 t3 t4 t5 t6 t7 t8 t9 t10 t11 t12 t13 t14 t15 t16 t17 t18 t19 t20 t21 t22 t23 t24 t25 t26 t27 t28 t29 t30 t31 t32 t33 t34 t35 t36 t37 t38 t39 t40 t41 t42 t43 t44 t45 t46 t47 t48 t49 t50 t51 t52 t53 t54 t55 t56 t57 t58 t59 t60 t61 t62 t63 t64 t65 t66 hQ
   rw [e] at h
   exact h (fun u10 u11 u12 u13 u14 u15 u16 u17 u18 u19 u20 u21 u22 u23 u24 u25 u26 A c W9 h9 => hK u10 u11 u12 u13 u14 u15 u16 u17 u18 u19 u20 u21 u22 u23 u24 u25 u26 A c W9 h9)
  ·have e:b.s0.lib ++ b.s1.lib ++ b.s0.hand = all:=by rw [← HALL.out];rfl
   have h:=rh_all1 w1 w.heap.size b m HP1.out HR1.out HSM.out Q t0 t3 t4 t5 t6 t7 t8 t9 t10 t11 t12 t13 t14 t15 t16 t17 t18 t19 t20 t21 t22 t23 t24 t25 t26 t27 t28 t29 t30 t31 t32 t33 t34 t35 t36 t37 t38 t39 t40 t41 t42 t43 t44 t45 t46 t47 t48 t49 t50 t51 t52 t53 t54 t55 t56 t57 t58 t59 t60 t61 t62 t63 t64 t65 t66 hQ
   rw [e] at h
   exact h (fun u10 u11 u12 u13 u14 u15 u16 u17 u18 u19 u20 u21 u22 u23 u24 u25 u26 A c W9 h9 => hK u10 u11 u12 u13 u14 u15 u16 u17 u18 u19 u20 u21 u22 u23 u24 u25 u26 A c W9 h9))
 refine HW1.out _ _ _ _ _ _ _ _ _ _ _ _ _ _ _ _ _ _ _ _ _ _ _ _ _ _ _ _ _ _ _ _ _ _ _ _ _ _ _ _ _ _ _ _ _ _ _ _ _ _ _ _ _ _ _ _ _ _ _ _ _ _ _ _ _ _ ?_ ?_
 ·exact fun d _ _ _ _ h => by cases d <;> exact h
 intro v10 v11 v12 v13 v14 v15 v16 v17 v18 v19 v20 v21 v22 v23 v24 v25 v26 AA Ac w2 h2
 obtain ⟨na,hna⟩:∃ x,all.length = x:=⟨_,rfl⟩
 rw [hna] at h2 HLL ⊢
 have HNA:=Lib.hid hna
 have HX2:=Lib.hid h2.1
 have HB2:=Lib.hid (HB1.out.trans (h2.2.mono HB1.out.size))
 have hna5:na ≤ 1500:=HLL.out
 clear h2 hw1 HW1 hna
 go_wp2_with fail
 obtain ⟨B,hB⟩:∃ x,w2.heap.size = x:=⟨_,rfl⟩
 have HB1B:Hid (w.heap.size ≤ B):=Lib.hid (by rw [← hB];exact HB2.out.size)
 have HF0:Hid (XOwns w2 B 3 1 none 0 0 (ics (rhS (all.take 0))) ∧ XOwns w2 w1.heap.size 3 1 AA na Ac (ics all) ∧ Below w.heap.size w w2 ∧ B ≤ w2.heap.size):=Lib.hid ⟨XOwns.nil_ _ _ _ _,HX2.out,HB2.out,by rw [hB];exact Nat.le_refl _⟩
 clear hB
 go_loopw [6,7] (fun o iv W => ∃ (k:Nat) (OA:Option Addr) (Oc:Nat),o = .slice OA k Oc ∧ iv = .int .i64 k ∧ k ≤ na ∧ (k = 0 → OA = none ∧ Oc = 0) ∧ Hid (XOwns W B 3 1 OA k Oc (ics (rhS (all.take k))) ∧ XOwns W w1.heap.size 3 1 AA na Ac (ics all) ∧ Below w.heap.size w W ∧ B ≤ W.heap.size)) (fun _ iv _ => na - (intOf iv).toNat)
 case atStart => exact ⟨0,none,0,rfl,rfl,Nat.zero_le _,(fun _ => ⟨rfl,rfl⟩),HF0⟩
 case round =>
  obtain ⟨k,OA,Oc,rfl,rfl,hk,hz0,HI⟩:=hrel
  clear HF0
  by_cases hkn:k < na
  ·have hkn':(k:Int) < na:=by omega
   have HKI:=Lib.hid hkn
   have hget:=ith_get (xs:=all) (k:=k) (by rw [HNA.out];exact hkn)
   obtain ⟨x,hx⟩:∃ x,ith all k = x:=⟨_,rfl⟩
   rw [hx] at hget
   obtain ⟨ga,hAA,-,-,-,-⟩:=HI.out.2.1.cell (j:=k) (u:=.int .i64 x) (by rw [ics,List.getElem?_map,hget];rfl)
   subst hAA
   obtain ⟨out,hout⟩:∃ x,rhS (all.take k) = x:=⟨_,rfl⟩
   have hol:out.length = k:=by rw [← hout,rhS_len,List.length_take,HNA.out];omega
   rw [hout] at HI
   have HGET:=Lib.hid hget
   have HOE:=Lib.hid hout
   have HOL:=Lib.hid hol
   have HPL:=Lib.hid (posI_le x out)
   have hcap:k ≤ Oc ∧ Oc ≤ 9223372036854775807:=HI.out.1.capOk
   have HZ0:=Lib.hid hz0
   clear hget hx hout hol hk hz0
   have hk5:k ≤ 1500:=by omega
   by_cases hk0:k = 0
   ·have HK0:=Lib.hid hk0
    have hOA:OA = none ∧ Oc = 0:=HZ0.out hk0
    obtain ⟨rfl,rfl⟩:=hOA
    clear hk0 hcap
    go_wp2_with fail
    go_loopw [8] (fun qv W => ∃ q:Nat,qv = .int .i64 q ∧ q ≤ k ∧ Hid (q ≤ posI x out) ∧ Hid (XOwns W B 3 1 none k 0 (ics out) ∧ XOwns W w1.heap.size 3 1 (some ⟨ga,0,none⟩) na Ac (ics all) ∧ Below w.heap.size w W ∧ B ≤ W.heap.size)) (fun qv _ => k - (intOf qv).toNat)
    case atStart => exact ⟨0,rfl,Nat.zero_le _,Lib.hid (Nat.zero_le _),HI⟩
    case round =>
     obtain ⟨q,rfl,hqk,HQP,HIN⟩:=hrel
     clear HI
     have HQK:=Lib.hid hqk
     have HQE:Hid (q = posI x out):=Lib.hid (by have h1:=HPL.out;rw [HOL.out] at h1;have:=HQP.out;have:=HK0.out;omega)
     go_wp2_with fail
     refine rh_no wr none q k 0 (by have:=HK0.out;omega) _ _ _ _ _ _ _ _ _ _ _ _ _ _ _ _ _ _ _ _ _ _ _ _ _ _ _ _ _ _ _ _ _ _ _ _ _ _ _ _ _ _ _ _ _ _ _ _ _ _ _ _ _ _ _ _ _ _ _ _ _ _ _ _ _ _ ?_ ?_
     ·exact fun d _ _ _ _ h => by cases d <;> exact h
     intro v33 v34 v35 v36 v37 v38 v39 v40 v41 v42 v43 v44 v45 v46 W7 hb7
     have hqc:(q:Int) ≤ 0:=by have:=HQK.out;have:=HK0.out;omega
     have hq00:q = 0:=by omega
     have HO7:Hid (XOwns W7 B 3 1 none k 0 (ics out)):=Lib.hid (HIN.out.1.below hb7)
     have HA7:Hid (XOwns W7 w1.heap.size 3 1 (some ⟨ga,0,none⟩) na Ac (ics all)):=Lib.hid (HIN.out.2.1.below hb7)
     have HB7:Hid (Below w.heap.size w W7):=Lib.hid (below_call HIN.out.2.2.1 hb7 HIN.out.2.2.1.size)
     have HBZ7:Hid (B ≤ W7.heap.size):=Lib.hid (Nat.le_trans HIN.out.2.2.2 hb7.size)
     have HRD:Hid (Reads W7 1 none 0 (ics (out.take q))):=Lib.hid (by
      rw [show q = 0 by have:=HQK.out;have:=HK0.out;omega]
      exact ⟨rfl,fun h => absurd h (by omega)⟩)
     clear hb7 HIN
     go_wp2_with (first
      | (at_builtin;refine append_xr (w:=W7) rfl (.const (.slice none 0 0)) (.tmp 52) 25 rfl W7.heap.size 3 _ 1 8 tinfo_ints Tryz.underlying25 rfl (by decide) none 0 0 [] rfl (XOwns.nil_ _ _ _ _) none 0 0 (ics (out.take q)) rfl (fun h => by first | rfl | cases h) HRD.out (ics_one _) (by omega) (by omega) (Nat.le_refl _) ?_;intro A8 c8 w8 ho8 hb8;simp only [Act.put,List.setIfInBounds_toArray,List.set_cons_succ,List.set_cons_zero];have HO8:=Lib.hid ho8;have HB8:=Lib.hid hb8;clear ho8 hb8;obtain ⟨g9a,e9a,-,-,ca9,-⟩:=(HA7.out.below HB8.out).cell (j:=k) (u:=.int .i64 x) (by rw [ics,List.getElem?_map,HGET.out];rfl);injection e9a with e9a;injection e9a with e9a;subst e9a;obtain ⟨w9,hw9⟩:∃ z,w8.alloc (.cells #[.int .i64 x] 3) = z:=⟨_,rfl⟩;have HB9:Hid (Below W7.heap.size W7 w9):=Lib.hid (by rw [← hw9];exact HB8.out.alloc HB8.out.size _);have HK9:Hid (Blk w9 w8.heap.size 3 #[.int .i64 x]):=Lib.hid (by rw [← hw9];exact Blk.mk_ _ _ _ _ rfl);have HO9:Hid (XOwns w9 W7.heap.size 3 1 A8 (0 + 0) c8 ([] ++ ics (out.take q))):=Lib.hid (by rw [← hw9];exact HO8.out.below ((Below.refl _ _).alloc (Nat.le_refl _) _)))
      | (at_builtin;refine append_xr (w:=w9) rfl (.tmp 54) (.tmp 59) 25 rfl W7.heap.size 3 _ 1 8 tinfo_ints Tryz.underlying25 rfl (by decide) A8 (0 + 0) c8 ([] ++ ics (out.take q)) rfl HO9.out (some ⟨w8.heap.size,0,none⟩) 1 1 (ics [x]) rfl (fun h => by cases h) (reads_block HK9.out 1 1 rfl) (ics_one _) (by omega) (by omega) HB9.out.size ?_;intro A10 c10 w10 ho10 hb10;simp only [Act.put,List.setIfInBounds_toArray,List.set_cons_succ,List.set_cons_zero];have HO10:=Lib.hid ho10;have HB10:=Lib.hid (HB9.out.trans hb10);clear ho10 hb10 ca9;have HRE:Hid (Reads w10 1 none (k - q) (ics (out.drop q))):=Lib.hid (by rw [List.drop_of_length_le (by rw [HOL.out];have:=HQK.out;have:=HK0.out;omega),show k - q = 0 by have:=HK0.out;omega];exact ⟨rfl,fun h => absurd h (by omega)⟩))
      | (at_builtin;refine append_xr (w:=w10) rfl (.tmp 61) (.tmp 64) 25 rfl W7.heap.size 3 _ 1 8 tinfo_ints Tryz.underlying25 rfl (by decide) A10 (0 + 0 + 1) c10 (([] ++ ics (out.take q)) ++ ics [x]) rfl HO10.out none k 0 (ics (out.drop q)) rfl (fun h => by first | rfl | cases h) (by have h:=HRE.out;rw [show k - q = k by have:=HQK.out;have:=HK0.out;omega] at h;exact h) (ics_one _) (by omega) (by omega) HB10.out.size ?_;intro A11 c11 w11 ho11 hb11;simp only [Act.put,List.setIfInBounds_toArray,List.set_cons_succ,List.set_cons_zero];have HO11:=Lib.hid ho11;have HB11:=Lib.hid (HB10.out.trans hb11);clear ho11 hb11)
      | fail)
     have HF11:Hid (XOwns w11 B 3 1 A11 (k + 1) c11 (ics (rhS (all.take (k + 1)))) ∧ XOwns w11 w1.heap.size 3 1 (some ⟨ga,0,none⟩) na Ac (ics all) ∧ Below w.heap.size w w11 ∧ B ≤ w11.heap.size):=Lib.hid (by
      have h:=HO11.out.more HBZ7.out
      have e1:(([] ++ ics (out.take q)) ++ ics [x]) ++ ics (out.drop q) = ics (rhS (all.take (k + 1))):=by
       rw [rhS_snoc HGET.out,HOE.out,insI,← HQE.out]
       simp [ics]
      rw [e1] at h
      rw [show 0 + 0 + 1 + k = k + 1 by have:=HQK.out;omega] at h
      exact ⟨h,HA7.out.below HB11.out,below_call HB7.out HB11.out HB7.out.size,Nat.le_trans HBZ7.out HB11.out.size⟩)
     clear hw9
     have hkz:0 + 0 + 1 + k = k + 1:=by have:=HK0.out;omega
     rw [hkz]
     go_wp2_with fail
     go_roundw
     case rel => exact ⟨k + 1,A11,c11,by rfl,by first | rfl | go_num,by have:=HKI.out;omega,(fun h => absurd h (by omega)),HF11⟩
     case measure => simp [intOf];have:=HKI.out;omega
   ·obtain ⟨g,hOA,-,-,-,-⟩:=HI.out.1.cell (j:=0) (u:=.int .i64 (ith out 0)) (by rw [ics,List.getElem?_map,ith_get (by rw [HOL.out];omega)];rfl)
    subst hOA
    go_wp2_with fail
    go_loopw [8] (fun qv W => ∃ q:Nat,qv = .int .i64 q ∧ q ≤ k ∧ Hid (q ≤ posI x out) ∧ Hid (XOwns W B 3 1 (some ⟨g,0,none⟩) k Oc (ics out) ∧ XOwns W w1.heap.size 3 1 (some ⟨ga,0,none⟩) na Ac (ics all) ∧ Below w.heap.size w W ∧ B ≤ W.heap.size)) (fun qv _ => k - (intOf qv).toNat)
    case atStart => exact ⟨0,rfl,Nat.zero_le _,Lib.hid (Nat.zero_le _),HI⟩
    case round =>
     obtain ⟨q,rfl,hqk,HQP,HIN⟩:=hrel
     clear HI
     have HQK:=Lib.hid hqk
     by_cases hlt:q < k
     ·have hy:=ith_get (xs:=out) (k:=q) (by rw [HOL.out];exact hlt)
      obtain ⟨y,hyy⟩:∃ y,ith out q = y:=⟨_,rfl⟩
      rw [hyy] at hy
      obtain ⟨hs1,hs2⟩:=posI_step HQP.out hy
      obtain ⟨g',e9,-,l9,q9,-⟩:=HIN.out.1.cell (j:=q) (u:=.int .i64 y) (by rw [ics,List.getElem?_map,hy];rfl)
      injection e9 with e9
      injection e9 with e9
      subst e9
      obtain ⟨g',e9,-,l8,q8,-⟩:=HIN.out.2.1.cell (j:=k) (u:=.int .i64 x) (by rw [ics,List.getElem?_map,HGET.out];rfl)
      injection e9 with e9
      injection e9 with e9
      subst e9
      have HLT:=Lib.hid hlt
      have HC:=Lib.hid (And.intro (CellK.mk l9 q9) (CellK.mk l8 q8))
      clear hy hyy l9 q9 l8 q8
      by_cases hyx:y < x
      ·have HNX:=Lib.hid (hs1 hyx)
       have HYD:Hid (decide (y < x) = true):=Lib.hid (by simpa using hyx)
       clear hs1 hs2 hyx hlt
       go_wp2_with fail
       refine rh_yes wr g ga q k Oc na Ac x y HC.out.1 HC.out.2 HLT.out HKI.out true HYD.out _ _ _ _ _ _ _ _ _ _ _ _ _ _ _ _ _ _ _ _ _ _ _ _ _ _ _ _ _ _ _ _ _ _ _ _ _ _ _ _ _ _ _ _ _ _ _ _ _ _ _ _ _ _ _ _ _ _ _ _ _ _ _ _ ?_ ?_
       ·exact fun d _ _ _ _ h => by cases d <;> exact h
       intro v33 v34 v35 v36 v37 v38 v39 v40 v41 v42 v43 v44 v45 v46 W7 hb7
       have HF7:Hid (XOwns W7 B 3 1 (some ⟨g,0,none⟩) k Oc (ics out) ∧ XOwns W7 w1.heap.size 3 1 (some ⟨ga,0,none⟩) na Ac (ics all) ∧ Below w.heap.size w W7 ∧ B ≤ W7.heap.size):=Lib.hid ⟨HIN.out.1.below hb7,HIN.out.2.1.below hb7,below_call HIN.out.2.2.1 hb7 HIN.out.2.2.1.size,Nat.le_trans HIN.out.2.2.2 hb7.size⟩
       clear hb7 HIN
       go_wp2_with fail
       go_roundw
       case rel => exact ⟨q + 1,by go_num,by have:=HLT.out;omega,HNX,HF7⟩
       case measure => simp [intOf];have:=HLT.out;omega
      ·have HQE:=Lib.hid (hs2 hyx)
       have HYD:Hid (decide (y < x) = false):=Lib.hid (by simpa using hyx)
       clear hs1 hs2 hyx hlt
       go_wp2_with fail
       refine rh_yes wr g ga q k Oc na Ac x y HC.out.1 HC.out.2 HLT.out HKI.out false HYD.out _ _ _ _ _ _ _ _ _ _ _ _ _ _ _ _ _ _ _ _ _ _ _ _ _ _ _ _ _ _ _ _ _ _ _ _ _ _ _ _ _ _ _ _ _ _ _ _ _ _ _ _ _ _ _ _ _ _ _ _ _ _ _ _ ?_ ?_
       ·exact fun d _ _ _ _ h => by cases d <;> exact h
       intro v33 v34 v35 v36 v37 v38 v39 v40 v41 v42 v43 v44 v45 v46 W7 hb7
       have hqo:(q:Int) < Oc:=by have:=HLT.out;omega
       have hqc:(q:Int) ≤ Oc:=by omega
       have hqc':q ≤ Oc:=by omega
       have hqkk:(q:Int) ≤ k:=by have:=HLT.out;omega
       have hqn:q ≠ Oc:=by have:=HLT.out;omega
       have HO7:Hid (XOwns W7 B 3 1 (some ⟨g,0,none⟩) k Oc (ics out)):=Lib.hid (HIN.out.1.below hb7)
       have HA7:Hid (XOwns W7 w1.heap.size 3 1 (some ⟨ga,0,none⟩) na Ac (ics all)):=Lib.hid (HIN.out.2.1.below hb7)
       have HB7:Hid (Below w.heap.size w W7):=Lib.hid (below_call HIN.out.2.2.1 hb7 HIN.out.2.2.1.size)
       have HBZ7:Hid (B ≤ W7.heap.size):=Lib.hid (Nat.le_trans HIN.out.2.2.2 hb7.size)
       have HRD:Hid (Reads W7 1 (some ⟨g,0,none⟩) q (ics (out.take q))):=Lib.hid (by
        have h:=HO7.out.reads.head (show q ≤ _ from HQK.out)
        rw [Nat.mul_one,show (ics out).take q = ics (out.take q) by simp [ics,List.map_take]] at h
        exact h)
       clear hb7 HIN
       go_wp2_with (first
        | (at_builtin;refine append_xr (w:=W7) rfl (.const (.slice none 0 0)) (.tmp 52) 25 rfl W7.heap.size 3 _ 1 8 tinfo_ints Tryz.underlying25 rfl (by decide) none 0 0 [] rfl (XOwns.nil_ _ _ _ _) (some ⟨g,0,none⟩) q Oc (ics (out.take q)) rfl (fun h => by first | rfl | cases h) HRD.out (ics_one _) (by omega) (by omega) (Nat.le_refl _) ?_;intro A8 c8 w8 ho8 hb8;simp only [Act.put,List.setIfInBounds_toArray,List.set_cons_succ,List.set_cons_zero];rw [Nat.zero_add] at ho8;rw [show 0 + q = q from Nat.zero_add q];have HO8:=Lib.hid ho8;have HB8:=Lib.hid hb8;clear ho8 hb8;obtain ⟨g9a,e9a,-,-,ca9,-⟩:=(HA7.out.below HB8.out).cell (j:=k) (u:=.int .i64 x) (by rw [ics,List.getElem?_map,HGET.out];rfl);injection e9a with e9a;injection e9a with e9a;subst e9a;obtain ⟨w9,hw9⟩:∃ z,w8.alloc (.cells #[.int .i64 x] 3) = z:=⟨_,rfl⟩;have HB9:Hid (Below W7.heap.size W7 w9):=Lib.hid (by rw [← hw9];exact HB8.out.alloc HB8.out.size _);have HK9:Hid (Blk w9 w8.heap.size 3 #[.int .i64 x]):=Lib.hid (by rw [← hw9];exact Blk.mk_ _ _ _ _ rfl);have HO9:Hid (XOwns w9 W7.heap.size 3 1 A8 q c8 ([] ++ ics (out.take q))):=Lib.hid (by rw [← hw9];exact HO8.out.below ((Below.refl _ _).alloc (Nat.le_refl _) _)))
        | (at_builtin;refine append_xr (w:=w9) rfl (.tmp 54) (.tmp 59) 25 rfl W7.heap.size 3 _ 1 8 tinfo_ints Tryz.underlying25 rfl (by decide) A8 q c8 ([] ++ ics (out.take q)) rfl HO9.out (some ⟨w8.heap.size,0,none⟩) 1 1 (ics [x]) rfl (fun h => by cases h) (reads_block HK9.out 1 1 rfl) (ics_one _) (by omega) (by omega) HB9.out.size ?_;intro A10 c10 w10 ho10 hb10;simp only [Act.put,List.setIfInBounds_toArray,List.set_cons_succ,List.set_cons_zero];have HO10:=Lib.hid ho10;have HB10:=Lib.hid (HB9.out.trans hb10);clear ho10 hb10 ca9;have HRE:Hid (Reads w10 1 (some ⟨g,q,none⟩) (k - q) (ics (out.drop q))):=Lib.hid (by exact rd_drop (HO7.out.below HB10.out).reads HQK.out HOL.out))
        | (at_builtin;refine append_xr (w:=w10) rfl (.tmp 61) (.tmp 64) 25 rfl W7.heap.size 3 _ 1 8 tinfo_ints Tryz.underlying25 rfl (by decide) A10 (q + 1) c10 (([] ++ ics (out.take q)) ++ ics [x]) rfl HO10.out (some ⟨g,q,none⟩) (k - q) (Oc - q) (ics (out.drop q)) rfl (fun h => by first | rfl | cases h) HRE.out (ics_one _) (by omega) (by omega) HB10.out.size ?_;intro A11 c11 w11 ho11 hb11;simp only [Act.put,List.setIfInBounds_toArray,List.set_cons_succ,List.set_cons_zero];have HO11:=Lib.hid ho11;have HB11:=Lib.hid (HB10.out.trans hb11);clear ho11 hb11)
        | fail)
       have HF11:Hid (XOwns w11 B 3 1 A11 (k + 1) c11 (ics (rhS (all.take (k + 1)))) ∧ XOwns w11 w1.heap.size 3 1 (some ⟨ga,0,none⟩) na Ac (ics all) ∧ Below w.heap.size w w11 ∧ B ≤ w11.heap.size):=Lib.hid (by
        have h:=HO11.out.more HBZ7.out
        have e1:(([] ++ ics (out.take q)) ++ ics [x]) ++ ics (out.drop q) = ics (rhS (all.take (k + 1))):=by
         rw [rhS_snoc HGET.out,HOE.out,insI,← HQE.out]
         simp [ics]
        rw [e1] at h
        rw [show q + 1 + (k - q) = k + 1 by have:=HQK.out;omega] at h
        exact ⟨h,HA7.out.below HB11.out,below_call HB7.out HB11.out HB7.out.size,Nat.le_trans HBZ7.out HB11.out.size⟩)
       clear hw9
       have hkz:q + 1 + (k - q) = k + 1:=by have:=HQK.out;omega
       rw [hkz]
       go_wp2_with fail
       go_roundw
       case rel => exact ⟨k + 1,A11,c11,by rfl,by first | rfl | go_num,by have:=HKI.out;omega,(fun h => absurd h (by omega)),HF11⟩
       case measure => simp [intOf];have:=HKI.out;omega
     ·have HQE:Hid (q = posI x out):=Lib.hid (by have h1:=HPL.out;rw [HOL.out] at h1;have:=HQP.out;omega)
      have hqk':q = k:=by omega
      subst hqk'
      go_wp2_with fail
      refine rh_no wr (some ⟨g,0,none⟩) q q Oc (by omega) _ _ _ _ _ _ _ _ _ _ _ _ _ _ _ _ _ _ _ _ _ _ _ _ _ _ _ _ _ _ _ _ _ _ _ _ _ _ _ _ _ _ _ _ _ _ _ _ _ _ _ _ _ _ _ _ _ _ _ _ _ _ _ _ _ _ ?_ ?_
      ·exact fun d _ _ _ _ h => by cases d <;> exact h
      intro v33 v34 v35 v36 v37 v38 v39 v40 v41 v42 v43 v44 v45 v46 W7 hb7
      have hqc:(q:Int) ≤ Oc:=by omega
      have HO7:Hid (XOwns W7 B 3 1 (some ⟨g,0,none⟩) q Oc (ics out)):=Lib.hid (HIN.out.1.below hb7)
      have HA7:Hid (XOwns W7 w1.heap.size 3 1 (some ⟨ga,0,none⟩) na Ac (ics all)):=Lib.hid (HIN.out.2.1.below hb7)
      have HB7:Hid (Below w.heap.size w W7):=Lib.hid (below_call HIN.out.2.2.1 hb7 HIN.out.2.2.1.size)
      have HBZ7:Hid (B ≤ W7.heap.size):=Lib.hid (Nat.le_trans HIN.out.2.2.2 hb7.size)
      have HRD:Hid (Reads W7 1 (some ⟨g,0,none⟩) q (ics (out.take q))):=Lib.hid (by
       have h:=HO7.out.reads.head (show q ≤ _ from HQK.out)
       rw [Nat.mul_one,show (ics out).take q = ics (out.take q) by simp [ics,List.map_take]] at h
       exact h)
      clear hb7 HIN
      obtain ⟨DA,hDA⟩:∃ x,(if Oc = q then (some ⟨g,0,none⟩:Option Addr) else some ⟨g,q,none⟩) = x:=⟨_,rfl⟩
      go_wp2_with (first
       | (at_builtin;refine append_xr (w:=W7) rfl (.const (.slice none 0 0)) (.tmp 52) 25 rfl W7.heap.size 3 _ 1 8 tinfo_ints Tryz.underlying25 rfl (by decide) none 0 0 [] rfl (XOwns.nil_ _ _ _ _) (some ⟨g,0,none⟩) q Oc (ics (out.take q)) rfl (fun h => by first | rfl | cases h) HRD.out (ics_one _) (by omega) (by omega) (Nat.le_refl _) ?_;intro A8 c8 w8 ho8 hb8;simp only [Act.put,List.setIfInBounds_toArray,List.set_cons_succ,List.set_cons_zero];rw [Nat.zero_add] at ho8;rw [show 0 + q = q from Nat.zero_add q];have HO8:=Lib.hid ho8;have HB8:=Lib.hid hb8;clear ho8 hb8;obtain ⟨g9a,e9a,-,-,ca9,-⟩:=(HA7.out.below HB8.out).cell (j:=q) (u:=.int .i64 x) (by rw [ics,List.getElem?_map,HGET.out];rfl);injection e9a with e9a;injection e9a with e9a;subst e9a;obtain ⟨w9,hw9⟩:∃ z,w8.alloc (.cells #[.int .i64 x] 3) = z:=⟨_,rfl⟩;have HB9:Hid (Below W7.heap.size W7 w9):=Lib.hid (by rw [← hw9];exact HB8.out.alloc HB8.out.size _);have HK9:Hid (Blk w9 w8.heap.size 3 #[.int .i64 x]):=Lib.hid (by rw [← hw9];exact Blk.mk_ _ _ _ _ rfl);have HO9:Hid (XOwns w9 W7.heap.size 3 1 A8 q c8 ([] ++ ics (out.take q))):=Lib.hid (by rw [← hw9];exact HO8.out.below ((Below.refl _ _).alloc (Nat.le_refl _) _)))
       | (at_builtin;refine append_xr (w:=w9) rfl (.tmp 54) (.tmp 59) 25 rfl W7.heap.size 3 _ 1 8 tinfo_ints Tryz.underlying25 rfl (by decide) A8 q c8 ([] ++ ics (out.take q)) rfl HO9.out (some ⟨w8.heap.size,0,none⟩) 1 1 (ics [x]) rfl (fun h => by cases h) (reads_block HK9.out 1 1 rfl) (ics_one _) (by omega) (by omega) HB9.out.size ?_;intro A10 c10 w10 ho10 hb10;simp only [Act.put,List.setIfInBounds_toArray,List.set_cons_succ,List.set_cons_zero];have HO10:=Lib.hid ho10;have HB10:=Lib.hid (HB9.out.trans hb10);clear ho10 hb10 ca9;have HRE:Hid (Reads w10 1 DA (q - q) (ics (out.drop q))):=Lib.hid (by rw [List.drop_of_length_le (by rw [HOL.out];have:=HQK.out;omega),show q - q = 0 by have:=HQK.out;omega];exact ⟨rfl,fun h => absurd h (by omega)⟩))
       | (at_builtin;refine append_xr (w:=w10) rfl (.tmp 61) (.tmp 64) 25 rfl W7.heap.size 3 _ 1 8 tinfo_ints Tryz.underlying25 rfl (by decide) A10 (q + 1) c10 (([] ++ ics (out.take q)) ++ ics [x]) rfl HO10.out DA 0 (Oc - q) (ics (out.drop q)) rfl (fun h => by rw [← hDA] at h;split at h <;> cases h) (by have h:=HRE.out;rw [show q - q = 0 by have:=HQK.out;omega] at h;exact h) (ics_one _) (by omega) (by omega) HB10.out.size ?_;intro A11 c11 w11 ho11 hb11;simp only [Act.put,List.setIfInBounds_toArray,List.set_cons_succ,List.set_cons_zero];have HO11:=Lib.hid ho11;have HB11:=Lib.hid (HB10.out.trans hb11);clear ho11 hb11)
       | fail)
      have HF11:Hid (XOwns w11 B 3 1 A11 (q + 1) c11 (ics (rhS (all.take (q + 1)))) ∧ XOwns w11 w1.heap.size 3 1 (some ⟨ga,0,none⟩) na Ac (ics all) ∧ Below w.heap.size w w11 ∧ B ≤ w11.heap.size):=Lib.hid (by
       have h:=HO11.out.more HBZ7.out
       have e1:(([] ++ ics (out.take q)) ++ ics [x]) ++ ics (out.drop q) = ics (rhS (all.take (q + 1))):=by
        rw [rhS_snoc HGET.out,HOE.out,insI,← HQE.out]
        simp [ics]
       rw [e1] at h
       rw [show q + 1 + 0 = q + 1 by have:=HQK.out;omega] at h
       exact ⟨h,HA7.out.below HB11.out,below_call HB7.out HB11.out HB7.out.size,Nat.le_trans HBZ7.out HB11.out.size⟩)
      clear hw9
      have hkz:q + 1 + 0 = q + 1:=by have:=HQK.out;omega
      rw [hkz]
      go_wp2_with fail
      go_roundw
      case rel => exact ⟨q + 1,A11,c11,by rfl,by first | rfl | go_num,by have:=HKI.out;omega,(fun h => absurd h (by omega)),HF11⟩
      case measure => simp [intOf];have:=HKI.out;omega
  ·have HKE:Hid (k = na):=Lib.hid (by omega)
   clear hk
   go_wp2_with fail
   go_ret
   refine ⟨OA,Oc,by (rw [HNA.out,← HKE.out];rfl),?_,HI.out.2.2.1⟩
   have h:=HI.out.1
   rw [List.take_of_length_le (by rw [HNA.out,HKE.out];exact Nat.le_refl _),HKE.out] at h
   rw [HNA.out]
   exact h.more HB1B.out
end Go.Proofs.YtagpphelgghbpaaGreat
