/-
  Texts: Rhi.
-/
import Derived.Test.YtagpphelgghbpaaGreatMk23
import Derived.Test.YtagpphelgghbpaaGreatMk24
import Derived.Deep.QuietTactic
import Derived.BigQuiet
set_option linter.unusedSimpArgs false
set_option linter.unusedVariables false
namespace Go.Proofs.YtagpphelgghbpaaGreat
open Go.RowKit

theorem take_eq_snoc {l l':List Int} {k:Nat} {x:Int} (h:l.take k = l'.take k) (h1:l[k]? = some x) (h2:l'[k]? = some x):l.take (k + 1) = l'.take (k + 1):=by rw [take_snoc h1,take_snoc h2,h]
set_option maxHeartbeats 1600000 in
theorem rints_any (A A':Option Addr) (n c n' c':Nat) (l l':List Int) (w:World) (hx:Reads w 1 A n (ics l)) (hy:Reads w 1 A' n' (ics l')) (hn:n ≤ 100000) :
  Calls Tryz.prog 17 #[.slice A n c,.slice A' n' c'] w fun e w' => e = .returned (.bool (decide (l = l'))) ∧ Below w.heap.size w w':=by
 have HX:=Lib.hid hx
 have HY:=Lib.hid hy
 have HL:=Lib.hid (ilen hx)
 have HL':=Lib.hid (ilen hy)
 clear hx hy
 by_cases hnn:n = n'
 ·subst hnn
  have hnb:((n:Int) != (n:Int)) = false:=by simp
  go_enter Tryz.func17,Tryz.ntmps17
  go_wp2_with fail
  go_loopw [5] (fun i W => ∃ k:Nat,k ≤ n ∧ i = .int .i64 k ∧ Hid (l.take k = l'.take k ∧ Below w.heap.size w W)) (fun i _ => n - (intOf i).toNat)
  case atStart => exact ⟨0,Nat.zero_le _,rfl,Lib.hid ⟨rfl,Below.refl _ _⟩⟩
  case round =>
   obtain ⟨k,hk,rfl,HI⟩:=hrel
   by_cases hkn:k < n
   ·have hkn':(k:Int) < n:=by omega
    obtain ⟨ad,rfl,-,c0⟩:=int_at (HX.out.below HI.out.2) hkn
    obtain ⟨ad',rfl,-,c1⟩:=int_at (HY.out.below HI.out.2) hkn
    have hg0:=ith_get (xs:=l) (k:=k) (by rw [HL.out];exact hkn)
    have hg1:=ith_get (xs:=l') (k:=k) (by rw [HL'.out];exact hkn)
    obtain ⟨x,hx⟩:∃ x,ith l k = x:=⟨_,rfl⟩
    obtain ⟨y,hy⟩:∃ y,ith l' k = y:=⟨_,rfl⟩
    rw [hx] at hg0 c0
    rw [hy] at hg1 c1
    have HG:=Lib.hid (And.intro hg0 hg1)
    clear hg0 hg1 hx hy
    by_cases hxy:x = y
    ·have HXY:=Lib.hid hxy
     have hb:(x != y) = false:=by simp [hxy]
     clear hxy
     go_wp2_with fail
     go_quiet (fail)
     go_wp2_with fail
     go_roundw
     case rel => exact ⟨k + 1,hkn,by go_num,Lib.hid ⟨take_eq_snoc HI.out.1 HG.out.1 (by rw [HXY.out];exact HG.out.2),below_drewN HI.out.2 _⟩⟩
     case measure => simp [intOf];omega
    ·have HXY:=Lib.hid hxy
     have hb:(x != y) = true:=by simp [hxy]
     clear hxy
     go_wp2_with fail
     go_quiet (fail)
     go_wp2_with fail
     go_ret
     refine ⟨?_,below_drewN HI.out.2 _⟩
     have hne:¬ (l = l'):=fun e => by
      have h1:=HG.out.1
      rw [e,HG.out.2] at h1
      injection h1 with h1
      exact HXY.out h1.symm
     rw [decide_eq_false hne]
     rfl
   ·obtain rfl:k = n:=by omega
    go_wp2_with fail
    go_ret
    refine ⟨?_,HI.out.2⟩
    have h:=HI.out.1
    rw [List.take_of_length_le (by rw [HL.out];exact Nat.le_refl _),List.take_of_length_le (by rw [HL'.out];exact Nat.le_refl _)] at h
    rw [decide_eq_true h]
    rfl
 ·have hnb:((n:Int) != (n':Int)) = true:=by simp;omega
  have HNE:Hid (¬ (l = l')):=Lib.hid (fun e => hnn (by rw [← HL.out,← HL'.out,e]))
  go_enter Tryz.func17,Tryz.ntmps17
  go_wp2_with fail
  go_ret
  exact ⟨by rw [decide_eq_false HNE.out];rfl,Below.refl _ _⟩
def posI (x:Int):List Int → Nat
 | [] => 0
 | y :: l => if y < x then posI x l + 1 else 0
theorem posI_le (x:Int):∀ l:List Int,posI x l ≤ l.length
 | [] => Nat.le_refl _
 | y :: l => by
  rw [posI]
  have:=posI_le x l
  split <;> simp <;> omega
theorem posI_step {x:Int}:∀ {l:List Int} {k:Nat} {y:Int},k ≤ posI x l → l[k]? = some y → (y < x → k + 1 ≤ posI x l) ∧ (¬ y < x → k = posI x l)
 | [],k,y,_,h => by simp at h
 | z :: l,0,y,_,h => by
  simp at h
  subst h
  rw [posI]
  constructor
  ·intro h1
   rw [if_pos h1]
   omega
  ·intro h1
   rw [if_neg h1]
 | z :: l,k + 1,y,hk,h => by
  rw [posI] at hk ⊢
  split at hk
  ·rename_i hz
   rw [if_pos hz]
   have:=posI_step (x:=x) (l:=l) (k:=k) (y:=y) (by omega) (by simpa using h)
   constructor
   ·intro h1
    have:=this.1 h1
    omega
   ·intro h1
    have:=this.2 h1
    omega
  ·omega
def insI (x:Int) (l:List Int):List Int:=(l.take (posI x l) ++ [x]) ++ l.drop (posI x l)
theorem insI_len (x:Int) (l:List Int):(insI x l).length = l.length + 1:=by
 unfold insI
 have:=posI_le x l
 simp
 omega
def rhS (all:List Int):List Int:=all.foldl (fun out x => insI x out) []
theorem rhS_snoc {all:List Int} {k:Nat} {x:Int} (h:all[k]? = some x):rhS (all.take (k + 1)) = insI x (rhS (all.take k)):=by
 unfold rhS
 rw [take_snoc h,List.foldl_append]
 rfl
theorem rd_drop {W:World} {g k q:Nat} {out:List Int} (h:Reads W 1 (some ⟨g,0,none⟩) k (ics out)) (hq:q ≤ k) (hl:out.length = k):Reads W 1 (some ⟨g,q,none⟩) (k - q) (ics (out.drop q)):=by
 refine ⟨by simp [ics,hl],fun hn => ?_⟩
 obtain ⟨ad,e,hb,hc⟩:=h.2 (by omega)
 injection e with e
 subst e
 refine ⟨⟨g,q,none⟩,rfl,hb,fun j u hu => ?_⟩
 have hu':(ics out)[q + j]? = some u:=by
  rw [show ics (out.drop q) = (ics out).drop q by simp [ics,List.map_drop],List.getElem?_drop] at hu
  exact hu
 have h1:=hc (q + j) u hu'
 rw [Addr.add_lit] at h1 ⊢
 rw [Nat.zero_add] at h1
 exact h1
theorem rhS_len (all:List Int):(rhS all).length = all.length:=by
 have:∀ (all out:List Int),(all.foldl (fun out x => insI x out) out).length = out.length + all.length:=by
  intro all
  induction all with
  | nil => intro out;simp
  | cons x all ih => intro out;rw [List.foldl_cons,ih,insI_len,List.length_cons];omega
 have h:=this all []
 simpa [rhS] using h
set_option maxRecDepth 100000 in
set_option maxHeartbeats 3200000 in
theorem rh_all0 (W:World) (g:Nat) (b:Bd) (m:BdM) (hP:Blk W g 33 (b.cells m).toArray) (hR:BdR W b m) (hsm:BdSm b) (Q:Exit → Act → World → Prop) (t0 t3 t4 t5 t6 t7 t8 t9 t10 t11 t12 t13 t14 t15 t16 t17 t18 t19 t20 t21 t22 t23 t24 t25 t26 t27 t28 t29 t30 t31 t32 t33 t34 t35 t36 t37 t38 t39 t40 t41 t42 t43 t44 t45 t46 t47 t48 t49 t50 t51 t52 t53 t54 t55 t56 t57 t58 t59 t60 t61 t62 t63 t64 t65 t66:Value)
  (hQ:∀ d v c a w,Q (.panic c) (Act.put a d v) w → Q (.panic c) a w)
  (hK:∀ (u10 u11 u12 u13 u14 u15 u16 u17 u18 u19 u20 u21 u22 u23 u24 u25 u26:Value) (A:Option Addr) (c:Nat) (W9:World),XOwns W9 W.heap.size 3 1 A (b.s0.lib ++ b.s1.lib ++ b.s1.hand).length c (ics (b.s0.lib ++ b.s1.lib ++ b.s1.hand)) ∧ Below W.heap.size W W9 → Q .normal ⟨#[t0,.int .i64 0,.pointer (some ⟨g,0,none⟩),t3,t4,.slice A (b.s0.lib ++ b.s1.lib ++ b.s1.hand).length c,t6,t7,t8,t9,u10,u11,u12,u13,u14,u15,u16,u17,u18,u19,u20,u21,u22,u23,u24,u25,u26,t27,t28,t29,t30,t31,t32,t33,t34,t35,t36,t37,t38,t39,t40,t41,t42,t43,t44,t45,t46,t47,t48,t49,t50,t51,t52,t53,t54,t55,t56,t57,t58,t59,t60,t61,t62,t63,t64,t65,t66],[]⟩ W9) :
  Code.wp Tryz.prog (regOf Tryz.f18 1) Q ⟨#[t0,.int .i64 0,.pointer (some ⟨g,0,none⟩),t3,t4,t5,t6,t7,t8,t9,t10,t11,t12,t13,t14,t15,t16,t17,t18,t19,t20,t21,t22,t23,t24,t25,t26,t27,t28,t29,t30,t31,t32,t33,t34,t35,t36,t37,t38,t39,t40,t41,t42,t43,t44,t45,t46,t47,t48,t49,t50,t51,t52,t53,t54,t55,t56,t57,t58,t59,t60,t61,t62,t63,t64,t65,t66],[]⟩ W:=by
 have HKK:=Lib.hid hK
 clear hK
 conv => arg 2;whnf
 obtain ⟨⟨LA,Lc⟩,hL⟩:∃ s,m.m0.L = s:=⟨_,rfl⟩
 obtain ⟨⟨MA,Mc⟩,hM⟩:∃ s,m.m1.L = s:=⟨_,rfl⟩
 obtain ⟨⟨HA,Hc⟩,hH⟩:∃ s,m.m1.H = s:=⟨_,rfl⟩
 obtain ⟨n0,hn0⟩:∃ n,b.s0.lib.length = n:=⟨_,rfl⟩
 obtain ⟨n1,hn1⟩:∃ n,b.s1.lib.length = n:=⟨_,rfl⟩
 obtain ⟨n2,hn2⟩:∃ n,b.s1.hand.length = n:=⟨_,rfl⟩
 have hx0:=hR.li (q:=0) (by decide)
 have hx1:=hR.li (q:=4) (by decide)
 have hx2:=hR.li (q:=5) (by decide)
 have h50:=hsm.li (q:=0) (by decide)
 have h51:=hsm.li (q:=4) (by decide)
 have h52:=hsm.li (q:=5) (by decide)
 simp only [BdM.sl,Bd.li,hL,hM,hH,hn0,hn1,hn2] at hx0 hx1 hx2 h50 h51 h52
 have HR0:=Lib.hid hx0.row
 have HR1:=Lib.hid hx1.row
 have HR2:=Lib.hid hx2.row
 rw [hn0] at HR0
 rw [hn1] at HR1
 rw [hn2] at HR2
 have HA0:=Lib.hid hx0.ok.2.1
 have HA1:=Lib.hid hx1.ok.2.1
 have HA2:=Lib.hid hx2.ok.2.1
 have HP:=Lib.hid hP
 have HQ:=Lib.hid hQ
 have HN:=Lib.hid (And.intro hn0 (And.intro hn1 hn2))
 have hne_:Nonempty (In (fun W' => Blk W' g 33 (b.cells m).toArray)):=⟨⟨W,hP⟩⟩
 have x0:∀ s:In (fun W' => Blk W' g 33 (b.cells m).toArray),s.W.cell? ⟨g,6,none⟩ = some (.slice LA n0 Lc):=fun s => (s.h.at_ 6).trans (by show some (m.m0.L.v b.s0.lib.length) = _;rw [hL,hn0];rfl)
 have x1:∀ s:In (fun W' => Blk W' g 33 (b.cells m).toArray),s.W.cell? ⟨g,20,none⟩ = some (.slice MA n1 Mc):=fun s => (s.h.at_ 20).trans (by show some (m.m1.L.v b.s1.lib.length) = _;rw [hM,hn1];rfl)
 have x2:∀ s:In (fun W' => Blk W' g 33 (b.cells m).toArray),s.W.cell? ⟨g,21,none⟩ = some (.slice HA n2 Hc):=fun s => (s.h.at_ 21).trans (by show some (m.m1.H.v b.s1.hand.length) = _;rw [hH,hn2];rfl)
 clear hP hR hsm hQ hL hM hH hn0 hn1 hn2 hx0 hx1 hx2
 have HPL:=Lib.hid HP.out.lt
 refine wp_region_sched (fun w' => ∃ s:In (fun W' => Blk W' g 33 (b.cells m).toArray),w' = s.W) [0,1,2,3,5,6,7,8,10,11,12,13,14,15] (.one 4 [] (.one 9 [] (.one 16 [17] .done))) (by kernel_rfl) (by kernel_rfl) HQ.out ⟨⟨_,HP.out.drew⟩,rfl⟩ ?_
 refine quiet_as (C':=(fun w' => ∃ s:In (fun W' => Blk W' g 33 (b.cells m).toArray),w' = s.W)) rfl ?_
 simp only [opsAt,List.getElem?_toArray,List.getElem?_cons_succ,List.getElem?_cons_zero]
 repeat (go_big_quiet_step (fail))
 refine wpQuiet_nil ?_
 obtain ⟨W_d,hwd⟩:∃ v,W.drew = v:=⟨_,rfl⟩
 have HBW_1:Hid (Below W.heap.size W W_d):=Lib.hid (by rw [← hwd];exact (Below.refl _ _).drew)
 have HBR_1:Hid (Below W.heap.size W W_d):=Lib.hid (by rw [← hwd];exact (Below.refl _ _).drew)
 have PB_1:=Lib.hid ((HP.out).call (show Below W.heap.size W W_d by rw [← hwd];exact (Below.refl _ _).drew))
 rw [hwd]
 clear hwd
 refine eff_as (C':=(fun w' => ∃ s:In (fun W' => Blk W' g 33 (b.cells m).toArray),w' = s.W)) rfl ?_
 (refine eff_lit rfl rfl (fun K hK => ?_))
 refine append_xr_op (w:=W_d) (.const (.slice none 0 0)) (.tmp 13) 25 rfl W.heap.size 3 _ 1 8 tinfo_ints Tryz.underlying25 rfl (by decide) none 0 0 ([]) rfl (XOwns.nil_ _ _ _ _) LA n0 Lc _ rfl HA0.out (HR0.out.below HBR_1.out) (ics_one _) (by omega) (by omega) HBR_1.out.size ?_
 intro A3 cc3 W_2 ho8 hb8
 simp only [Act.put,List.setIfInBounds_toArray,List.set_cons_succ,List.set_cons_zero]
 have PB_3:=Lib.hid (PB_1.out.below hb8 HPL.out)
 have HBR_3:=Lib.hid (HBR_1.out.trans hb8)
 have FN_3:=Lib.hid ho8
 clear ho8 hb8
 refine hK _ _ ⟨⟨_,PB_3.out⟩,rfl⟩ ?_
 clear hK K
 try simp only [opsAt,List.getElem?_toArray,List.getElem?_cons_succ,List.getElem?_cons_zero]
 refine wpQuiet_nil ?_
 refine eff_as (C':=(fun w' => ∃ s:In (fun W' => Blk W' g 33 (b.cells m).toArray),w' = s.W)) rfl ?_
 (refine eff_lit rfl rfl (fun K hK => ?_))
 refine append_xr_op (w:=W_2) (.tmp 14) (.tmp 18) 25 rfl W.heap.size 3 _ 1 8 tinfo_ints Tryz.underlying25 rfl (by decide) A3 (0 + n0) cc3 ([] ++ ics b.s0.lib) rfl FN_3.out MA n1 Mc _ rfl HA1.out (HR1.out.below HBR_3.out) (ics_one _) (by omega) (by omega) HBR_3.out.size ?_
 intro A5 cc5 W_4 ho8 hb8
 simp only [Act.put,List.setIfInBounds_toArray,List.set_cons_succ,List.set_cons_zero]
 have PB_5:=Lib.hid (PB_3.out.below hb8 HPL.out)
 have HBR_5:=Lib.hid (HBR_3.out.trans hb8)
 have FN_5:=Lib.hid ho8
 clear ho8 hb8
 refine hK _ _ ⟨⟨_,PB_5.out⟩,rfl⟩ ?_
 clear hK K
 try simp only [opsAt,List.getElem?_toArray,List.getElem?_cons_succ,List.getElem?_cons_zero]
 refine wpQuiet_nil ?_
 refine eff_as (C':=(fun w' => ∃ s:In (fun W' => Blk W' g 33 (b.cells m).toArray),w' = s.W)) rfl ?_
 (refine eff_lit rfl rfl (fun K hK => ?_))
 refine append_xr_op (w:=W_4) (.tmp 19) (.tmp 25) 25 rfl W.heap.size 3 _ 1 8 tinfo_ints Tryz.underlying25 rfl (by decide) A5 (0 + n0 + n1) cc5 (([] ++ ics b.s0.lib) ++ ics b.s1.lib) rfl FN_5.out HA n2 Hc _ rfl HA2.out (HR2.out.below HBR_5.out) (ics_one _) (by omega) (by omega) HBR_5.out.size ?_
 intro A7 cc7 W_6 ho8 hb8
 simp only [Act.put,List.setIfInBounds_toArray,List.set_cons_succ,List.set_cons_zero]
 have PB_7:=Lib.hid (PB_5.out.below hb8 HPL.out)
 have HBR_7:=Lib.hid (HBR_5.out.trans hb8)
 have FN_7:=Lib.hid ho8
 clear ho8 hb8
 refine hK _ _ ⟨⟨_,PB_7.out⟩,rfl⟩ ?_
 clear hK K
 try simp only [opsAt,List.getElem?_toArray,List.getElem?_cons_succ,List.getElem?_cons_zero]
 repeat (go_big_quiet_step (fail))
 refine wpQuiet_nil ?_
 refine effs_done ?_
 have hf:=FN_7.out
 have hlen:(b.s0.lib ++ b.s1.lib ++ b.s1.hand).length = 0 + n0 + n1 + n2:=by rw [List.length_append,List.length_append,HN.out.1,HN.out.2.1,HN.out.2.2];omega
 have hics:ics (b.s0.lib ++ b.s1.lib ++ b.s1.hand) = (([] ++ ics b.s0.lib) ++ ics b.s1.lib) ++ ics b.s1.hand:=by simp [ics]
 rw [← hics] at hf
 rw [← hlen] at hf ⊢
 exact HKK.out _ _ _ _ _ _ _ _ _ _ _ _ _ _ _ _ _ A7 cc7 _ ⟨hf,HBR_7.out⟩

set_option maxRecDepth 100000 in
set_option maxHeartbeats 3200000 in
theorem rh_all1 (W:World) (g:Nat) (b:Bd) (m:BdM) (hP:Blk W g 33 (b.cells m).toArray) (hR:BdR W b m) (hsm:BdSm b) (Q:Exit → Act → World → Prop) (t0 t3 t4 t5 t6 t7 t8 t9 t10 t11 t12 t13 t14 t15 t16 t17 t18 t19 t20 t21 t22 t23 t24 t25 t26 t27 t28 t29 t30 t31 t32 t33 t34 t35 t36 t37 t38 t39 t40 t41 t42 t43 t44 t45 t46 t47 t48 t49 t50 t51 t52 t53 t54 t55 t56 t57 t58 t59 t60 t61 t62 t63 t64 t65 t66:Value)
  (hQ:∀ d v c a w,Q (.panic c) (Act.put a d v) w → Q (.panic c) a w)
  (hK:∀ (u10 u11 u12 u13 u14 u15 u16 u17 u18 u19 u20 u21 u22 u23 u24 u25 u26:Value) (A:Option Addr) (c:Nat) (W9:World),XOwns W9 W.heap.size 3 1 A (b.s0.lib ++ b.s1.lib ++ b.s0.hand).length c (ics (b.s0.lib ++ b.s1.lib ++ b.s0.hand)) ∧ Below W.heap.size W W9 → Q .normal ⟨#[t0,.int .i64 1,.pointer (some ⟨g,0,none⟩),t3,t4,.slice A (b.s0.lib ++ b.s1.lib ++ b.s0.hand).length c,t6,t7,t8,t9,u10,u11,u12,u13,u14,u15,u16,u17,u18,u19,u20,u21,u22,u23,u24,u25,u26,t27,t28,t29,t30,t31,t32,t33,t34,t35,t36,t37,t38,t39,t40,t41,t42,t43,t44,t45,t46,t47,t48,t49,t50,t51,t52,t53,t54,t55,t56,t57,t58,t59,t60,t61,t62,t63,t64,t65,t66],[]⟩ W9) :
  Code.wp Tryz.prog (regOf Tryz.f18 1) Q ⟨#[t0,.int .i64 1,.pointer (some ⟨g,0,none⟩),t3,t4,t5,t6,t7,t8,t9,t10,t11,t12,t13,t14,t15,t16,t17,t18,t19,t20,t21,t22,t23,t24,t25,t26,t27,t28,t29,t30,t31,t32,t33,t34,t35,t36,t37,t38,t39,t40,t41,t42,t43,t44,t45,t46,t47,t48,t49,t50,t51,t52,t53,t54,t55,t56,t57,t58,t59,t60,t61,t62,t63,t64,t65,t66],[]⟩ W:=by
 have HKK:=Lib.hid hK
 clear hK
 conv => arg 2;whnf
 obtain ⟨⟨LA,Lc⟩,hL⟩:∃ s,m.m0.L = s:=⟨_,rfl⟩
 obtain ⟨⟨MA,Mc⟩,hM⟩:∃ s,m.m1.L = s:=⟨_,rfl⟩
 obtain ⟨⟨HA,Hc⟩,hH⟩:∃ s,m.m0.H = s:=⟨_,rfl⟩
 obtain ⟨n0,hn0⟩:∃ n,b.s0.lib.length = n:=⟨_,rfl⟩
 obtain ⟨n1,hn1⟩:∃ n,b.s1.lib.length = n:=⟨_,rfl⟩
 obtain ⟨n2,hn2⟩:∃ n,b.s0.hand.length = n:=⟨_,rfl⟩
 have hx0:=hR.li (q:=0) (by decide)
 have hx1:=hR.li (q:=4) (by decide)
 have hx2:=hR.li (q:=1) (by decide)
 have h50:=hsm.li (q:=0) (by decide)
 have h51:=hsm.li (q:=4) (by decide)
 have h52:=hsm.li (q:=1) (by decide)
 simp only [BdM.sl,Bd.li,hL,hM,hH,hn0,hn1,hn2] at hx0 hx1 hx2 h50 h51 h52
 have HR0:=Lib.hid hx0.row
 have HR1:=Lib.hid hx1.row
 have HR2:=Lib.hid hx2.row
 rw [hn0] at HR0
 rw [hn1] at HR1
 rw [hn2] at HR2
 have HA0:=Lib.hid hx0.ok.2.1
 have HA1:=Lib.hid hx1.ok.2.1
 have HA2:=Lib.hid hx2.ok.2.1
 have HP:=Lib.hid hP
 have HQ:=Lib.hid hQ
 have HN:=Lib.hid (And.intro hn0 (And.intro hn1 hn2))
 have hne_:Nonempty (In (fun W' => Blk W' g 33 (b.cells m).toArray)):=⟨⟨W,hP⟩⟩
 have x0:∀ s:In (fun W' => Blk W' g 33 (b.cells m).toArray),s.W.cell? ⟨g,6,none⟩ = some (.slice LA n0 Lc):=fun s => (s.h.at_ 6).trans (by show some (m.m0.L.v b.s0.lib.length) = _;rw [hL,hn0];rfl)
 have x1:∀ s:In (fun W' => Blk W' g 33 (b.cells m).toArray),s.W.cell? ⟨g,20,none⟩ = some (.slice MA n1 Mc):=fun s => (s.h.at_ 20).trans (by show some (m.m1.L.v b.s1.lib.length) = _;rw [hM,hn1];rfl)
 have x2:∀ s:In (fun W' => Blk W' g 33 (b.cells m).toArray),s.W.cell? ⟨g,7,none⟩ = some (.slice HA n2 Hc):=fun s => (s.h.at_ 7).trans (by show some (m.m0.H.v b.s0.hand.length) = _;rw [hH,hn2];rfl)
 clear hP hR hsm hQ hL hM hH hn0 hn1 hn2 hx0 hx1 hx2
 have HPL:=Lib.hid HP.out.lt
 refine wp_region_sched (fun w' => ∃ s:In (fun W' => Blk W' g 33 (b.cells m).toArray),w' = s.W) [0,1,2,3,5,6,7,8,10,11,12,13,14,15] (.one 4 [] (.one 9 [] (.one 16 [17] .done))) (by kernel_rfl) (by kernel_rfl) HQ.out ⟨⟨_,HP.out.drew⟩,rfl⟩ ?_
 refine quiet_as (C':=(fun w' => ∃ s:In (fun W' => Blk W' g 33 (b.cells m).toArray),w' = s.W)) rfl ?_
 simp only [opsAt,List.getElem?_toArray,List.getElem?_cons_succ,List.getElem?_cons_zero]
 repeat (go_big_quiet_step (fail))
 refine wpQuiet_nil ?_
 obtain ⟨W_d,hwd⟩:∃ v,W.drew = v:=⟨_,rfl⟩
 have HBW_1:Hid (Below W.heap.size W W_d):=Lib.hid (by rw [← hwd];exact (Below.refl _ _).drew)
 have HBR_1:Hid (Below W.heap.size W W_d):=Lib.hid (by rw [← hwd];exact (Below.refl _ _).drew)
 have PB_1:=Lib.hid ((HP.out).call (show Below W.heap.size W W_d by rw [← hwd];exact (Below.refl _ _).drew))
 rw [hwd]
 clear hwd
 refine eff_as (C':=(fun w' => ∃ s:In (fun W' => Blk W' g 33 (b.cells m).toArray),w' = s.W)) rfl ?_
 (refine eff_lit rfl rfl (fun K hK => ?_))
 refine append_xr_op (w:=W_d) (.const (.slice none 0 0)) (.tmp 13) 25 rfl W.heap.size 3 _ 1 8 tinfo_ints Tryz.underlying25 rfl (by decide) none 0 0 ([]) rfl (XOwns.nil_ _ _ _ _) LA n0 Lc _ rfl HA0.out (HR0.out.below HBR_1.out) (ics_one _) (by omega) (by omega) HBR_1.out.size ?_
 intro A3 cc3 W_2 ho8 hb8
 simp only [Act.put,List.setIfInBounds_toArray,List.set_cons_succ,List.set_cons_zero]
 have PB_3:=Lib.hid (PB_1.out.below hb8 HPL.out)
 have HBR_3:=Lib.hid (HBR_1.out.trans hb8)
 have FN_3:=Lib.hid ho8
 clear ho8 hb8
 refine hK _ _ ⟨⟨_,PB_3.out⟩,rfl⟩ ?_
 clear hK K
 try simp only [opsAt,List.getElem?_toArray,List.getElem?_cons_succ,List.getElem?_cons_zero]
 refine wpQuiet_nil ?_
 refine eff_as (C':=(fun w' => ∃ s:In (fun W' => Blk W' g 33 (b.cells m).toArray),w' = s.W)) rfl ?_
 (refine eff_lit rfl rfl (fun K hK => ?_))
 refine append_xr_op (w:=W_2) (.tmp 14) (.tmp 18) 25 rfl W.heap.size 3 _ 1 8 tinfo_ints Tryz.underlying25 rfl (by decide) A3 (0 + n0) cc3 ([] ++ ics b.s0.lib) rfl FN_3.out MA n1 Mc _ rfl HA1.out (HR1.out.below HBR_3.out) (ics_one _) (by omega) (by omega) HBR_3.out.size ?_
 intro A5 cc5 W_4 ho8 hb8
 simp only [Act.put,List.setIfInBounds_toArray,List.set_cons_succ,List.set_cons_zero]
 have PB_5:=Lib.hid (PB_3.out.below hb8 HPL.out)
 have HBR_5:=Lib.hid (HBR_3.out.trans hb8)
 have FN_5:=Lib.hid ho8
 clear ho8 hb8
 refine hK _ _ ⟨⟨_,PB_5.out⟩,rfl⟩ ?_
 clear hK K
 try simp only [opsAt,List.getElem?_toArray,List.getElem?_cons_succ,List.getElem?_cons_zero]
 refine wpQuiet_nil ?_
 refine eff_as (C':=(fun w' => ∃ s:In (fun W' => Blk W' g 33 (b.cells m).toArray),w' = s.W)) rfl ?_
 (refine eff_lit rfl rfl (fun K hK => ?_))
 refine append_xr_op (w:=W_4) (.tmp 19) (.tmp 25) 25 rfl W.heap.size 3 _ 1 8 tinfo_ints Tryz.underlying25 rfl (by decide) A5 (0 + n0 + n1) cc5 (([] ++ ics b.s0.lib) ++ ics b.s1.lib) rfl FN_5.out HA n2 Hc _ rfl HA2.out (HR2.out.below HBR_5.out) (ics_one _) (by omega) (by omega) HBR_5.out.size ?_
 intro A7 cc7 W_6 ho8 hb8
 simp only [Act.put,List.setIfInBounds_toArray,List.set_cons_succ,List.set_cons_zero]
 have PB_7:=Lib.hid (PB_5.out.below hb8 HPL.out)
 have HBR_7:=Lib.hid (HBR_5.out.trans hb8)
 have FN_7:=Lib.hid ho8
 clear ho8 hb8
 refine hK _ _ ⟨⟨_,PB_7.out⟩,rfl⟩ ?_
 clear hK K
 try simp only [opsAt,List.getElem?_toArray,List.getElem?_cons_succ,List.getElem?_cons_zero]
 repeat (go_big_quiet_step (fail))
 refine wpQuiet_nil ?_
 refine effs_done ?_
 have hf:=FN_7.out
 have hlen:(b.s0.lib ++ b.s1.lib ++ b.s0.hand).length = 0 + n0 + n1 + n2:=by rw [List.length_append,List.length_append,HN.out.1,HN.out.2.1,HN.out.2.2];omega
 have hics:ics (b.s0.lib ++ b.s1.lib ++ b.s0.hand) = (([] ++ ics b.s0.lib) ++ ics b.s1.lib) ++ ics b.s0.hand:=by simp [ics]
 rw [← hics] at hf
 rw [← hlen] at hf ⊢
 exact HKK.out _ _ _ _ _ _ _ _ _ _ _ _ _ _ _ _ _ A7 cc7 _ ⟨hf,HBR_7.out⟩

set_option maxRecDepth 100000 in
set_option maxHeartbeats 3200000 in
theorem rh_no (W:World) (OA:Option Addr) (q k Oc:Nat) (hq:¬ q < k) (Q:Exit → Act → World → Prop) (t0 t1 t2 t3 t4 t5 t7 t9 t10 t11 t12 t13 t14 t15 t16 t17 t18 t19 t20 t21 t22 t23 t24 t25 t26 t27 t28 t29 t30 t31 t32 t33 t34 t35 t36 t37 t38 t39 t40 t41 t42 t43 t44 t45 t46 t47 t48 t49 t50 t51 t52 t53 t54 t55 t56 t57 t58 t59 t60 t61 t62 t63 t64 t65 t66:Value)
  (hQ:∀ d v c a w,Q (.panic c) (Act.put a d v) w → Q (.panic c) a w)
  (hK:∀ (u33 u34 u35 u36 u37 u38 u39 u40 u41 u42 u43 u44 u45 u46:Value)  (W9:World),Below W.heap.size W W9 → Q .normal ⟨#[t0,t1,t2,t3,t4,t5,.slice OA k Oc,t7,.int .i64 q,t9,t10,t11,t12,t13,t14,t15,t16,t17,t18,t19,t20,t21,t22,t23,t24,t25,t26,t27,t28,t29,t30,t31,t32,u33,u34,u35,u36,u37,u38,u39,u40,u41,u42,u43,u44,u45,u46,.bool false,t48,t49,t50,t51,t52,t53,t54,t55,t56,t57,t58,t59,t60,t61,t62,t63,t64,t65,t66],[]⟩ W9) :
  Code.wp Tryz.prog (regOf Tryz.f18 7) Q ⟨#[t0,t1,t2,t3,t4,t5,.slice OA k Oc,t7,.int .i64 q,t9,t10,t11,t12,t13,t14,t15,t16,t17,t18,t19,t20,t21,t22,t23,t24,t25,t26,t27,t28,t29,t30,t31,t32,t33,t34,t35,t36,t37,t38,t39,t40,t41,t42,t43,t44,t45,t46,t47,t48,t49,t50,t51,t52,t53,t54,t55,t56,t57,t58,t59,t60,t61,t62,t63,t64,t65,t66],[]⟩ W:=by
 have HKK:=Lib.hid hK
 clear hK
 conv => arg 2;whnf
 have HQ:=Lib.hid hQ
 have hne_:Nonempty (In (fun _ => True)):=⟨⟨W,trivial⟩⟩
 have hq2:((q:Int) < k) = False:=by simp;omega
 have hq3:decide ((q:Int) < k) = false:=by simp;omega
 clear hQ
 refine wp_region_sched (fun w' => ∃ s:In (fun _ => True),w' = s.W) [0,1,2,3,4,5,6,7,8,9,10,11,12,13,14] (.done) (by kernel_rfl) (by kernel_rfl) HQ.out ⟨⟨_,trivial⟩,rfl⟩ ?_
 refine quiet_as (C':=(fun w' => ∃ s:In (fun _ => True),w' = s.W)) rfl ?_
 simp only [opsAt,List.getElem?_toArray,List.getElem?_cons_succ,List.getElem?_cons_zero]
 repeat (go_big_quiet_step (fail))
 refine wpQuiet_nil ?_
 obtain ⟨W_d,hwd⟩:∃ v,W.drew = v:=⟨_,rfl⟩
 have HBW_1:Hid (Below W.heap.size W W_d):=Lib.hid (by rw [← hwd];exact (Below.refl _ _).drew)
 have HBR_1:Hid (Below W.heap.size W W_d):=Lib.hid (by rw [← hwd];exact (Below.refl _ _).drew)
 rw [hwd]
 clear hwd
 refine effs_done ?_
 exact HKK.out _ _ _ _ _ _ _ _ _ _ _ _ _ _ _ HBR_1.out

set_option maxRecDepth 100000 in
set_option maxHeartbeats 3200000 in
theorem rh_yes (W:World) (g ga q k Oc na Ac:Nat) (x y:Int) (hy:CellK W g q (.int .i64 y)) (hx:CellK W ga k (.int .i64 x)) (hq:q < k) (hk:k < na) (v:Bool) (hv:decide (y < x) = v) (Q:Exit → Act → World → Prop) (t0 t1 t2 t3 t4 t9 t10 t11 t12 t13 t14 t15 t16 t17 t18 t19 t20 t21 t22 t23 t24 t25 t26 t27 t28 t29 t30 t31 t32 t33 t34 t35 t36 t37 t38 t39 t40 t41 t42 t43 t44 t45 t46 t47 t48 t49 t50 t51 t52 t53 t54 t55 t56 t57 t58 t59 t60 t61 t62 t63 t64 t65 t66:Value)
  (hQ:∀ d v c a w,Q (.panic c) (Act.put a d v) w → Q (.panic c) a w)
  (hK:∀ (u33 u34 u35 u36 u37 u38 u39 u40 u41 u42 u43 u44 u45 u46:Value)  (W9:World),Below W.heap.size W W9 → Q .normal ⟨#[t0,t1,t2,t3,t4,.slice (some ⟨ga,0,none⟩) na Ac,.slice (some ⟨g,0,none⟩) k Oc,.int .i64 k,.int .i64 q,t9,t10,t11,t12,t13,t14,t15,t16,t17,t18,t19,t20,t21,t22,t23,t24,t25,t26,t27,t28,t29,t30,t31,t32,u33,u34,u35,u36,u37,u38,u39,u40,u41,u42,u43,u44,u45,u46,.bool v,t48,t49,t50,t51,t52,t53,t54,t55,t56,t57,t58,t59,t60,t61,t62,t63,t64,t65,t66],[]⟩ W9) :
  Code.wp Tryz.prog (regOf Tryz.f18 7) Q ⟨#[t0,t1,t2,t3,t4,.slice (some ⟨ga,0,none⟩) na Ac,.slice (some ⟨g,0,none⟩) k Oc,.int .i64 k,.int .i64 q,t9,t10,t11,t12,t13,t14,t15,t16,t17,t18,t19,t20,t21,t22,t23,t24,t25,t26,t27,t28,t29,t30,t31,t32,t33,t34,t35,t36,t37,t38,t39,t40,t41,t42,t43,t44,t45,t46,t47,t48,t49,t50,t51,t52,t53,t54,t55,t56,t57,t58,t59,t60,t61,t62,t63,t64,t65,t66],[]⟩ W:=by
 have HKK:=Lib.hid hK
 clear hK
 conv => arg 2;whnf
 have HQ:=Lib.hid hQ
 subst hv
 have HYX:=Lib.hid (And.intro hy hx)
 have hne_:Nonempty (In (fun W' => CellK W' g q (.int .i64 y) ∧ CellK W' ga k (.int .i64 x))):=⟨⟨W,hy,hx⟩⟩
 have x0:∀ s:In (fun W' => CellK W' g q (.int .i64 y) ∧ CellK W' ga k (.int .i64 x)),s.W.cell? ⟨g,q,none⟩ = some (.int .i64 y):=fun s => s.h.1.c
 have x1:∀ s:In (fun W' => CellK W' g q (.int .i64 y) ∧ CellK W' ga k (.int .i64 x)),s.W.cell? ⟨ga,k,none⟩ = some (.int .i64 x):=fun s => s.h.2.c
 have hq1:(q:Int) < k:=by omega
 have hq2:((q:Int) < k) = True:=by simp;omega
 have hq3:decide ((q:Int) < k) = true:=by simp;omega
 have hk1:(k:Int) < na:=by omega
 clear hQ hy hx
 refine wp_region_sched (fun w' => ∃ s:In (fun W' => CellK W' g q (.int .i64 y) ∧ CellK W' ga k (.int .i64 x)),w' = s.W) [0,1,2,3,4,5,6,7,8,9,10,11,12,13,14] (.done) (by kernel_rfl) (by kernel_rfl) HQ.out ⟨⟨_,⟨HYX.out.1.drew,HYX.out.2.drew⟩⟩,rfl⟩ ?_
 refine quiet_as (C':=(fun w' => ∃ s:In (fun W' => CellK W' g q (.int .i64 y) ∧ CellK W' ga k (.int .i64 x)),w' = s.W)) rfl ?_
 simp only [opsAt,List.getElem?_toArray,List.getElem?_cons_succ,List.getElem?_cons_zero]
 repeat (go_big_quiet_step (fail))
 refine wpQuiet_nil ?_
 obtain ⟨W_d,hwd⟩:∃ v,W.drew = v:=⟨_,rfl⟩
 have HBW_1:Hid (Below W.heap.size W W_d):=Lib.hid (by rw [← hwd];exact (Below.refl _ _).drew)
 have HBR_1:Hid (Below W.heap.size W W_d):=Lib.hid (by rw [← hwd];exact (Below.refl _ _).drew)
 rw [hwd]
 clear hwd
 refine effs_done ?_
 exact HKK.out _ _ _ _ _ _ _ _ _ _ _ _ _ _ _ HBR_1.out

end Go.Proofs.YtagpphelgghbpaaGreat
