/-
  Texts: Rse.
-/
import Derived.Test.YtagpphelgghbpaaGreatMk25
import Derived.Test.YtagpphelgghbpaaGreatMk11
set_option linter.unusedSimpArgs false
set_option linter.unusedVariables false
namespace Go.Proofs.YtagpphelgghbpaaGreat
open Go.RowKit

set_option maxRecDepth 100000 in
set_option maxHeartbeats 1600000 in
theorem rsitem_any (x:It) (A A':Option Addr) (nt c c':Nat) (w:World) (hr:Reads w 2 A nt (tcs x.tgs)) (hr':Reads w 2 A' nt (tcs x.tgs)) (hl:x.tgs.length = nt) (hn:nt ≤ 1000000) :
  Calls Tryz.prog 71 #[.agg #[.int .i64 x.pl,.int .i64 x.id,.int .i64 x.card,.int .i64 x.trg,.slice A nt c],.agg #[.int .i64 x.pl,.int .i64 x.id,.int .i64 x.card,.int .i64 x.trg,.slice A' nt c']] w fun e w' => e = .returned (.bool true) ∧ Below w.heap.size w w':=by
 obtain ⟨w2,hw2⟩:∃ z,(w.alloc (.cells #[.int .i64 x.pl,.int .i64 x.id,.int .i64 x.card,.int .i64 x.trg,.slice A nt c] 55)).alloc (.cells #[.int .i64 x.pl,.int .i64 x.id,.int .i64 x.card,.int .i64 x.trg,.slice A' nt c'] 55) = z:=⟨_,rfl⟩
 have hb2:Below w.heap.size w w2:=by rw [← hw2];exact ((Below.refl _ _).alloc (Nat.le_refl _) _).alloc (by simp) _
 have HB2:=Lib.hid hb2
 have HK2:Hid (Blk w2 w.heap.size 55 #[.int .i64 x.pl,.int .i64 x.id,.int .i64 x.card,.int .i64 x.trg,.slice A nt c]):=Lib.hid (by rw [← hw2];exact (Blk.mk_ w _ _ _ rfl).alloc _)
 have HK3:Hid (Blk w2 (w.heap.size + 1) 55 #[.int .i64 x.pl,.int .i64 x.id,.int .i64 x.card,.int .i64 x.trg,.slice A' nt c']):=Lib.hid (by rw [← hw2];exact Blk.mk_ _ _ _ _ (by simp))
 have HR:=Lib.hid (hr.below hb2)
 have HR':=Lib.hid (hr'.below hb2)
 have HL:=Lib.hid hl
 have d0:w2.cell? ⟨w.heap.size,0,none⟩ = some (.int .i64 x.pl):=(HK2.out.at_ 0).trans rfl
 have d1:w2.cell? ⟨w.heap.size,1,none⟩ = some (.int .i64 x.id):=(HK2.out.at_ 1).trans rfl
 have d2:w2.cell? ⟨w.heap.size,2,none⟩ = some (.int .i64 x.card):=(HK2.out.at_ 2).trans rfl
 have d3:w2.cell? ⟨w.heap.size,3,none⟩ = some (.int .i64 x.trg):=(HK2.out.at_ 3).trans rfl
 have d4:w2.cell? ⟨w.heap.size,4,none⟩ = some (.slice A nt c):=(HK2.out.at_ 4).trans rfl
 have e0:w2.cell? ⟨w.heap.size + 1,0,none⟩ = some (.int .i64 x.pl):=(HK3.out.at_ 0).trans rfl
 have e1:w2.cell? ⟨w.heap.size + 1,1,none⟩ = some (.int .i64 x.id):=(HK3.out.at_ 1).trans rfl
 have e2:w2.cell? ⟨w.heap.size + 1,2,none⟩ = some (.int .i64 x.card):=(HK3.out.at_ 2).trans rfl
 have e3:w2.cell? ⟨w.heap.size + 1,3,none⟩ = some (.int .i64 x.trg):=(HK3.out.at_ 3).trans rfl
 have e4:w2.cell? ⟨w.heap.size + 1,4,none⟩ = some (.slice A' nt c'):=(HK3.out.at_ 4).trans rfl
 clear hr hr' hl hb2
 go_enter Tryz.func71,Tryz.ntmps71
 go_wp2_with fail
 clear hw2 d0 e0 d1 e1 d2 e2 d3 e3 d4 e4
 go_loopw [5] (fun i W => ∃ k:Nat,k ≤ nt ∧ i = .int .i64 k ∧ Hid (Below w2.heap.size w2 W)) (fun i _ => nt - (intOf i).toNat)
 case atStart => exact ⟨0,Nat.zero_le _,rfl,Lib.hid (Below.refl _ _)⟩
 case round =>
  obtain ⟨k,hk,rfl,HB⟩:=hrel
  have d4:=((HK2.out.call HB.out).at_ 4).trans rfl
  have e4:=((HK3.out.call HB.out).at_ 4).trans rfl
  by_cases hkn:k < nt
  ·have hkn':(k:Int) < nt:=by omega
   obtain ⟨t,ht⟩:=get_of (l:=x.tgs) (k:=k) (by rw [HL.out];exact hkn)
   obtain ⟨ad,rfl,-,c0,c1⟩:=tgt_at (HR.out.below HB.out) ht hkn
   obtain ⟨ad',rfl,-,b0,b1⟩:=tgt_at (HR'.out.below HB.out) ht hkn
   clear ht
   go_wp2_with fail
   go_quiet (fail)
   go_wp2_with fail
   go_roundw
   case rel => exact ⟨k + 1,hkn,by go_num,Lib.hid (below_drewN HB.out _)⟩
   case measure => simp [intOf];omega
  ·have hkd:decide ((k:Int) < nt) = false:=decide_eq_false (by omega)
   clear hk
   go_wp2_with fail
   go_ret
   exact ⟨rfl,below_call HB2.out HB.out HB2.out.size⟩
set_option maxRecDepth 100000 in
set_option maxHeartbeats 3200000 in
theorem rit_r6 (W:World) (ad ad':Addr) (k n cc cc' nt c c':Nat) (A A':Option Addr) (x:It) (hkn:(k:Int) < n) (hC:∀ W',Below W.heap.size W W' → (W'.cell? (ad.add (k * 5)) = some (.int .i64 x.pl) ∧ W'.cell? ⟨(ad.add (k * 5)).block,(ad.add (k * 5)).off + 1,none⟩ = some (.int .i64 x.id) ∧ W'.cell? ⟨(ad.add (k * 5)).block,(ad.add (k * 5)).off + 2,none⟩ = some (.int .i64 x.card) ∧ W'.cell? ⟨(ad.add (k * 5)).block,(ad.add (k * 5)).off + 3,none⟩ = some (.int .i64 x.trg) ∧ W'.cell? ⟨(ad.add (k * 5)).block,(ad.add (k * 5)).off + 4,none⟩ = some (.slice A nt c)) ∧ (W'.cell? (ad'.add (k * 5)) = some (.int .i64 x.pl) ∧ W'.cell? ⟨(ad'.add (k * 5)).block,(ad'.add (k * 5)).off + 1,none⟩ = some (.int .i64 x.id) ∧ W'.cell? ⟨(ad'.add (k * 5)).block,(ad'.add (k * 5)).off + 2,none⟩ = some (.int .i64 x.card) ∧ W'.cell? ⟨(ad'.add (k * 5)).block,(ad'.add (k * 5)).off + 3,none⟩ = some (.int .i64 x.trg) ∧ W'.cell? ⟨(ad'.add (k * 5)).block,(ad'.add (k * 5)).off + 4,none⟩ = some (.slice A' nt c'))) (hS:∀ W',Below W.heap.size W W' → Calls Tryz.prog 71 #[.agg #[.int .i64 x.pl,.int .i64 x.id,.int .i64 x.card,.int .i64 x.trg,.slice A nt c],.agg #[.int .i64 x.pl,.int .i64 x.id,.int .i64 x.card,.int .i64 x.trg,.slice A' nt c']] W' fun e w' => e = .returned (.bool true) ∧ Below W'.heap.size W' w') (Q:Exit → Act → World → Prop) (t2 t3 t4 t6 t7 t8 t9 t10 t11 t12 t13 t14 t15 t16 t17 t18 t19 t20 t21 t22 t23 t24 t25 t26:Value)
  (hQ:∀ d v c a w,Q (.panic c) (Act.put a d v) w → Q (.panic c) a w)
  (hK:∀ (u17 u18 u19 u20 u21 u22 u23 u24 u25:Value)  (W9:World),Below W.heap.size W W9 → Q .normal ⟨#[.slice (some ad) n cc,.slice (some ad') n cc',t2,t3,t4,.int .i64 k,t6,t7,t8,t9,t10,t11,t12,t13,t14,t15,t16,u17,u18,u19,u20,u21,u22,u23,u24,u25,.bool false],[]⟩ W9) :
  Code.wp Tryz.prog (regOf Tryz.f37 6) Q ⟨#[.slice (some ad) n cc,.slice (some ad') n cc',t2,t3,t4,.int .i64 k,t6,t7,t8,t9,t10,t11,t12,t13,t14,t15,t16,t17,t18,t19,t20,t21,t22,t23,t24,t25,t26],[]⟩ W:=by
 have HKK:=Lib.hid hK
 clear hK
 conv => arg 2;whnf
 have HC:=Lib.hid hC
 have HS:=Lib.hid hS
 have HQ:=Lib.hid hQ
 have hne_:Nonempty (In (fun W' => (W'.cell? (ad.add (k * 5)) = some (.int .i64 x.pl) ∧ W'.cell? ⟨(ad.add (k * 5)).block,(ad.add (k * 5)).off + 1,none⟩ = some (.int .i64 x.id) ∧ W'.cell? ⟨(ad.add (k * 5)).block,(ad.add (k * 5)).off + 2,none⟩ = some (.int .i64 x.card) ∧ W'.cell? ⟨(ad.add (k * 5)).block,(ad.add (k * 5)).off + 3,none⟩ = some (.int .i64 x.trg) ∧ W'.cell? ⟨(ad.add (k * 5)).block,(ad.add (k * 5)).off + 4,none⟩ = some (.slice A nt c)) ∧ (W'.cell? (ad'.add (k * 5)) = some (.int .i64 x.pl) ∧ W'.cell? ⟨(ad'.add (k * 5)).block,(ad'.add (k * 5)).off + 1,none⟩ = some (.int .i64 x.id) ∧ W'.cell? ⟨(ad'.add (k * 5)).block,(ad'.add (k * 5)).off + 2,none⟩ = some (.int .i64 x.card) ∧ W'.cell? ⟨(ad'.add (k * 5)).block,(ad'.add (k * 5)).off + 3,none⟩ = some (.int .i64 x.trg) ∧ W'.cell? ⟨(ad'.add (k * 5)).block,(ad'.add (k * 5)).off + 4,none⟩ = some (.slice A' nt c')))):=⟨⟨W,hC W (Below.refl _ _)⟩⟩
 have x10:∀ s:In (fun W' => (W'.cell? (ad.add (k * 5)) = some (.int .i64 x.pl) ∧ W'.cell? ⟨(ad.add (k * 5)).block,(ad.add (k * 5)).off + 1,none⟩ = some (.int .i64 x.id) ∧ W'.cell? ⟨(ad.add (k * 5)).block,(ad.add (k * 5)).off + 2,none⟩ = some (.int .i64 x.card) ∧ W'.cell? ⟨(ad.add (k * 5)).block,(ad.add (k * 5)).off + 3,none⟩ = some (.int .i64 x.trg) ∧ W'.cell? ⟨(ad.add (k * 5)).block,(ad.add (k * 5)).off + 4,none⟩ = some (.slice A nt c)) ∧ (W'.cell? (ad'.add (k * 5)) = some (.int .i64 x.pl) ∧ W'.cell? ⟨(ad'.add (k * 5)).block,(ad'.add (k * 5)).off + 1,none⟩ = some (.int .i64 x.id) ∧ W'.cell? ⟨(ad'.add (k * 5)).block,(ad'.add (k * 5)).off + 2,none⟩ = some (.int .i64 x.card) ∧ W'.cell? ⟨(ad'.add (k * 5)).block,(ad'.add (k * 5)).off + 3,none⟩ = some (.int .i64 x.trg) ∧ W'.cell? ⟨(ad'.add (k * 5)).block,(ad'.add (k * 5)).off + 4,none⟩ = some (.slice A' nt c'))),s.W.cell? (ad.add (k * 5)) = some (.int .i64 x.pl):=fun s => s.h.1.1
 have x11:∀ s:In (fun W' => (W'.cell? (ad.add (k * 5)) = some (.int .i64 x.pl) ∧ W'.cell? ⟨(ad.add (k * 5)).block,(ad.add (k * 5)).off + 1,none⟩ = some (.int .i64 x.id) ∧ W'.cell? ⟨(ad.add (k * 5)).block,(ad.add (k * 5)).off + 2,none⟩ = some (.int .i64 x.card) ∧ W'.cell? ⟨(ad.add (k * 5)).block,(ad.add (k * 5)).off + 3,none⟩ = some (.int .i64 x.trg) ∧ W'.cell? ⟨(ad.add (k * 5)).block,(ad.add (k * 5)).off + 4,none⟩ = some (.slice A nt c)) ∧ (W'.cell? (ad'.add (k * 5)) = some (.int .i64 x.pl) ∧ W'.cell? ⟨(ad'.add (k * 5)).block,(ad'.add (k * 5)).off + 1,none⟩ = some (.int .i64 x.id) ∧ W'.cell? ⟨(ad'.add (k * 5)).block,(ad'.add (k * 5)).off + 2,none⟩ = some (.int .i64 x.card) ∧ W'.cell? ⟨(ad'.add (k * 5)).block,(ad'.add (k * 5)).off + 3,none⟩ = some (.int .i64 x.trg) ∧ W'.cell? ⟨(ad'.add (k * 5)).block,(ad'.add (k * 5)).off + 4,none⟩ = some (.slice A' nt c'))),s.W.cell? ⟨(ad.add (k * 5)).block,(ad.add (k * 5)).off + 1,none⟩ = some (.int .i64 x.id):=fun s => s.h.1.2.1
 have x12:∀ s:In (fun W' => (W'.cell? (ad.add (k * 5)) = some (.int .i64 x.pl) ∧ W'.cell? ⟨(ad.add (k * 5)).block,(ad.add (k * 5)).off + 1,none⟩ = some (.int .i64 x.id) ∧ W'.cell? ⟨(ad.add (k * 5)).block,(ad.add (k * 5)).off + 2,none⟩ = some (.int .i64 x.card) ∧ W'.cell? ⟨(ad.add (k * 5)).block,(ad.add (k * 5)).off + 3,none⟩ = some (.int .i64 x.trg) ∧ W'.cell? ⟨(ad.add (k * 5)).block,(ad.add (k * 5)).off + 4,none⟩ = some (.slice A nt c)) ∧ (W'.cell? (ad'.add (k * 5)) = some (.int .i64 x.pl) ∧ W'.cell? ⟨(ad'.add (k * 5)).block,(ad'.add (k * 5)).off + 1,none⟩ = some (.int .i64 x.id) ∧ W'.cell? ⟨(ad'.add (k * 5)).block,(ad'.add (k * 5)).off + 2,none⟩ = some (.int .i64 x.card) ∧ W'.cell? ⟨(ad'.add (k * 5)).block,(ad'.add (k * 5)).off + 3,none⟩ = some (.int .i64 x.trg) ∧ W'.cell? ⟨(ad'.add (k * 5)).block,(ad'.add (k * 5)).off + 4,none⟩ = some (.slice A' nt c'))),s.W.cell? ⟨(ad.add (k * 5)).block,(ad.add (k * 5)).off + 2,none⟩ = some (.int .i64 x.card):=fun s => s.h.1.2.2.1
 have x13:∀ s:In (fun W' => (W'.cell? (ad.add (k * 5)) = some (.int .i64 x.pl) ∧ W'.cell? ⟨(ad.add (k * 5)).block,(ad.add (k * 5)).off + 1,none⟩ = some (.int .i64 x.id) ∧ W'.cell? ⟨(ad.add (k * 5)).block,(ad.add (k * 5)).off + 2,none⟩ = some (.int .i64 x.card) ∧ W'.cell? ⟨(ad.add (k * 5)).block,(ad.add (k * 5)).off + 3,none⟩ = some (.int .i64 x.trg) ∧ W'.cell? ⟨(ad.add (k * 5)).block,(ad.add (k * 5)).off + 4,none⟩ = some (.slice A nt c)) ∧ (W'.cell? (ad'.add (k * 5)) = some (.int .i64 x.pl) ∧ W'.cell? ⟨(ad'.add (k * 5)).block,(ad'.add (k * 5)).off + 1,none⟩ = some (.int .i64 x.id) ∧ W'.cell? ⟨(ad'.add (k * 5)).block,(ad'.add (k * 5)).off + 2,none⟩ = some (.int .i64 x.card) ∧ W'.cell? ⟨(ad'.add (k * 5)).block,(ad'.add (k * 5)).off + 3,none⟩ = some (.int .i64 x.trg) ∧ W'.cell? ⟨(ad'.add (k * 5)).block,(ad'.add (k * 5)).off + 4,none⟩ = some (.slice A' nt c'))),s.W.cell? ⟨(ad.add (k * 5)).block,(ad.add (k * 5)).off + 3,none⟩ = some (.int .i64 x.trg):=fun s => s.h.1.2.2.2.1
 have x14:∀ s:In (fun W' => (W'.cell? (ad.add (k * 5)) = some (.int .i64 x.pl) ∧ W'.cell? ⟨(ad.add (k * 5)).block,(ad.add (k * 5)).off + 1,none⟩ = some (.int .i64 x.id) ∧ W'.cell? ⟨(ad.add (k * 5)).block,(ad.add (k * 5)).off + 2,none⟩ = some (.int .i64 x.card) ∧ W'.cell? ⟨(ad.add (k * 5)).block,(ad.add (k * 5)).off + 3,none⟩ = some (.int .i64 x.trg) ∧ W'.cell? ⟨(ad.add (k * 5)).block,(ad.add (k * 5)).off + 4,none⟩ = some (.slice A nt c)) ∧ (W'.cell? (ad'.add (k * 5)) = some (.int .i64 x.pl) ∧ W'.cell? ⟨(ad'.add (k * 5)).block,(ad'.add (k * 5)).off + 1,none⟩ = some (.int .i64 x.id) ∧ W'.cell? ⟨(ad'.add (k * 5)).block,(ad'.add (k * 5)).off + 2,none⟩ = some (.int .i64 x.card) ∧ W'.cell? ⟨(ad'.add (k * 5)).block,(ad'.add (k * 5)).off + 3,none⟩ = some (.int .i64 x.trg) ∧ W'.cell? ⟨(ad'.add (k * 5)).block,(ad'.add (k * 5)).off + 4,none⟩ = some (.slice A' nt c'))),s.W.cell? ⟨(ad.add (k * 5)).block,(ad.add (k * 5)).off + 4,none⟩ = some (.slice A nt c):=fun s => s.h.1.2.2.2.2
 have x20:∀ s:In (fun W' => (W'.cell? (ad.add (k * 5)) = some (.int .i64 x.pl) ∧ W'.cell? ⟨(ad.add (k * 5)).block,(ad.add (k * 5)).off + 1,none⟩ = some (.int .i64 x.id) ∧ W'.cell? ⟨(ad.add (k * 5)).block,(ad.add (k * 5)).off + 2,none⟩ = some (.int .i64 x.card) ∧ W'.cell? ⟨(ad.add (k * 5)).block,(ad.add (k * 5)).off + 3,none⟩ = some (.int .i64 x.trg) ∧ W'.cell? ⟨(ad.add (k * 5)).block,(ad.add (k * 5)).off + 4,none⟩ = some (.slice A nt c)) ∧ (W'.cell? (ad'.add (k * 5)) = some (.int .i64 x.pl) ∧ W'.cell? ⟨(ad'.add (k * 5)).block,(ad'.add (k * 5)).off + 1,none⟩ = some (.int .i64 x.id) ∧ W'.cell? ⟨(ad'.add (k * 5)).block,(ad'.add (k * 5)).off + 2,none⟩ = some (.int .i64 x.card) ∧ W'.cell? ⟨(ad'.add (k * 5)).block,(ad'.add (k * 5)).off + 3,none⟩ = some (.int .i64 x.trg) ∧ W'.cell? ⟨(ad'.add (k * 5)).block,(ad'.add (k * 5)).off + 4,none⟩ = some (.slice A' nt c'))),s.W.cell? (ad'.add (k * 5)) = some (.int .i64 x.pl):=fun s => s.h.2.1
 have x21:∀ s:In (fun W' => (W'.cell? (ad.add (k * 5)) = some (.int .i64 x.pl) ∧ W'.cell? ⟨(ad.add (k * 5)).block,(ad.add (k * 5)).off + 1,none⟩ = some (.int .i64 x.id) ∧ W'.cell? ⟨(ad.add (k * 5)).block,(ad.add (k * 5)).off + 2,none⟩ = some (.int .i64 x.card) ∧ W'.cell? ⟨(ad.add (k * 5)).block,(ad.add (k * 5)).off + 3,none⟩ = some (.int .i64 x.trg) ∧ W'.cell? ⟨(ad.add (k * 5)).block,(ad.add (k * 5)).off + 4,none⟩ = some (.slice A nt c)) ∧ (W'.cell? (ad'.add (k * 5)) = some (.int .i64 x.pl) ∧ W'.cell? ⟨(ad'.add (k * 5)).block,(ad'.add (k * 5)).off + 1,none⟩ = some (.int .i64 x.id) ∧ W'.cell? ⟨(ad'.add (k * 5)).block,(ad'.add (k * 5)).off + 2,none⟩ = some (.int .i64 x.card) ∧ W'.cell? ⟨(ad'.add (k * 5)).block,(ad'.add (k * 5)).off + 3,none⟩ = some (.int .i64 x.trg) ∧ W'.cell? ⟨(ad'.add (k * 5)).block,(ad'.add (k * 5)).off + 4,none⟩ = some (.slice A' nt c'))),s.W.cell? ⟨(ad'.add (k * 5)).block,(ad'.add (k * 5)).off + 1,none⟩ = some (.int .i64 x.id):=fun s => s.h.2.2.1
 have x22:∀ s:In (fun W' => (W'.cell? (ad.add (k * 5)) = some (.int .i64 x.pl) ∧ W'.cell? ⟨(ad.add (k * 5)).block,(ad.add (k * 5)).off + 1,none⟩ = some (.int .i64 x.id) ∧ W'.cell? ⟨(ad.add (k * 5)).block,(ad.add (k * 5)).off + 2,none⟩ = some (.int .i64 x.card) ∧ W'.cell? ⟨(ad.add (k * 5)).block,(ad.add (k * 5)).off + 3,none⟩ = some (.int .i64 x.trg) ∧ W'.cell? ⟨(ad.add (k * 5)).block,(ad.add (k * 5)).off + 4,none⟩ = some (.slice A nt c)) ∧ (W'.cell? (ad'.add (k * 5)) = some (.int .i64 x.pl) ∧ W'.cell? ⟨(ad'.add (k * 5)).block,(ad'.add (k * 5)).off + 1,none⟩ = some (.int .i64 x.id) ∧ W'.cell? ⟨(ad'.add (k * 5)).block,(ad'.add (k * 5)).off + 2,none⟩ = some (.int .i64 x.card) ∧ W'.cell? ⟨(ad'.add (k * 5)).block,(ad'.add (k * 5)).off + 3,none⟩ = some (.int .i64 x.trg) ∧ W'.cell? ⟨(ad'.add (k * 5)).block,(ad'.add (k * 5)).off + 4,none⟩ = some (.slice A' nt c'))),s.W.cell? ⟨(ad'.add (k * 5)).block,(ad'.add (k * 5)).off + 2,none⟩ = some (.int .i64 x.card):=fun s => s.h.2.2.2.1
 have x23:∀ s:In (fun W' => (W'.cell? (ad.add (k * 5)) = some (.int .i64 x.pl) ∧ W'.cell? ⟨(ad.add (k * 5)).block,(ad.add (k * 5)).off + 1,none⟩ = some (.int .i64 x.id) ∧ W'.cell? ⟨(ad.add (k * 5)).block,(ad.add (k * 5)).off + 2,none⟩ = some (.int .i64 x.card) ∧ W'.cell? ⟨(ad.add (k * 5)).block,(ad.add (k * 5)).off + 3,none⟩ = some (.int .i64 x.trg) ∧ W'.cell? ⟨(ad.add (k * 5)).block,(ad.add (k * 5)).off + 4,none⟩ = some (.slice A nt c)) ∧ (W'.cell? (ad'.add (k * 5)) = some (.int .i64 x.pl) ∧ W'.cell? ⟨(ad'.add (k * 5)).block,(ad'.add (k * 5)).off + 1,none⟩ = some (.int .i64 x.id) ∧ W'.cell? ⟨(ad'.add (k * 5)).block,(ad'.add (k * 5)).off + 2,none⟩ = some (.int .i64 x.card) ∧ W'.cell? ⟨(ad'.add (k * 5)).block,(ad'.add (k * 5)).off + 3,none⟩ = some (.int .i64 x.trg) ∧ W'.cell? ⟨(ad'.add (k * 5)).block,(ad'.add (k * 5)).off + 4,none⟩ = some (.slice A' nt c'))),s.W.cell? ⟨(ad'.add (k * 5)).block,(ad'.add (k * 5)).off + 3,none⟩ = some (.int .i64 x.trg):=fun s => s.h.2.2.2.2.1
 have x24:∀ s:In (fun W' => (W'.cell? (ad.add (k * 5)) = some (.int .i64 x.pl) ∧ W'.cell? ⟨(ad.add (k * 5)).block,(ad.add (k * 5)).off + 1,none⟩ = some (.int .i64 x.id) ∧ W'.cell? ⟨(ad.add (k * 5)).block,(ad.add (k * 5)).off + 2,none⟩ = some (.int .i64 x.card) ∧ W'.cell? ⟨(ad.add (k * 5)).block,(ad.add (k * 5)).off + 3,none⟩ = some (.int .i64 x.trg) ∧ W'.cell? ⟨(ad.add (k * 5)).block,(ad.add (k * 5)).off + 4,none⟩ = some (.slice A nt c)) ∧ (W'.cell? (ad'.add (k * 5)) = some (.int .i64 x.pl) ∧ W'.cell? ⟨(ad'.add (k * 5)).block,(ad'.add (k * 5)).off + 1,none⟩ = some (.int .i64 x.id) ∧ W'.cell? ⟨(ad'.add (k * 5)).block,(ad'.add (k * 5)).off + 2,none⟩ = some (.int .i64 x.card) ∧ W'.cell? ⟨(ad'.add (k * 5)).block,(ad'.add (k * 5)).off + 3,none⟩ = some (.int .i64 x.trg) ∧ W'.cell? ⟨(ad'.add (k * 5)).block,(ad'.add (k * 5)).off + 4,none⟩ = some (.slice A' nt c'))),s.W.cell? ⟨(ad'.add (k * 5)).block,(ad'.add (k * 5)).off + 4,none⟩ = some (.slice A' nt c'):=fun s => s.h.2.2.2.2.2
 clear hC hS hQ
 refine wp_region_sched (fun w' => ∃ s:In (fun W' => (W'.cell? (ad.add (k * 5)) = some (.int .i64 x.pl) ∧ W'.cell? ⟨(ad.add (k * 5)).block,(ad.add (k * 5)).off + 1,none⟩ = some (.int .i64 x.id) ∧ W'.cell? ⟨(ad.add (k * 5)).block,(ad.add (k * 5)).off + 2,none⟩ = some (.int .i64 x.card) ∧ W'.cell? ⟨(ad.add (k * 5)).block,(ad.add (k * 5)).off + 3,none⟩ = some (.int .i64 x.trg) ∧ W'.cell? ⟨(ad.add (k * 5)).block,(ad.add (k * 5)).off + 4,none⟩ = some (.slice A nt c)) ∧ (W'.cell? (ad'.add (k * 5)) = some (.int .i64 x.pl) ∧ W'.cell? ⟨(ad'.add (k * 5)).block,(ad'.add (k * 5)).off + 1,none⟩ = some (.int .i64 x.id) ∧ W'.cell? ⟨(ad'.add (k * 5)).block,(ad'.add (k * 5)).off + 2,none⟩ = some (.int .i64 x.card) ∧ W'.cell? ⟨(ad'.add (k * 5)).block,(ad'.add (k * 5)).off + 3,none⟩ = some (.int .i64 x.trg) ∧ W'.cell? ⟨(ad'.add (k * 5)).block,(ad'.add (k * 5)).off + 4,none⟩ = some (.slice A' nt c'))),w' = s.W) [0,1,2,3,4,5,6,7] (.one 8 [9] .done) (by kernel_rfl) (by kernel_rfl) HQ.out ⟨⟨_,(HC.out _ (Below.refl _ _).drew)⟩,rfl⟩ ?_
 refine quiet_as (C':=(fun w' => ∃ s:In (fun W' => (W'.cell? (ad.add (k * 5)) = some (.int .i64 x.pl) ∧ W'.cell? ⟨(ad.add (k * 5)).block,(ad.add (k * 5)).off + 1,none⟩ = some (.int .i64 x.id) ∧ W'.cell? ⟨(ad.add (k * 5)).block,(ad.add (k * 5)).off + 2,none⟩ = some (.int .i64 x.card) ∧ W'.cell? ⟨(ad.add (k * 5)).block,(ad.add (k * 5)).off + 3,none⟩ = some (.int .i64 x.trg) ∧ W'.cell? ⟨(ad.add (k * 5)).block,(ad.add (k * 5)).off + 4,none⟩ = some (.slice A nt c)) ∧ (W'.cell? (ad'.add (k * 5)) = some (.int .i64 x.pl) ∧ W'.cell? ⟨(ad'.add (k * 5)).block,(ad'.add (k * 5)).off + 1,none⟩ = some (.int .i64 x.id) ∧ W'.cell? ⟨(ad'.add (k * 5)).block,(ad'.add (k * 5)).off + 2,none⟩ = some (.int .i64 x.card) ∧ W'.cell? ⟨(ad'.add (k * 5)).block,(ad'.add (k * 5)).off + 3,none⟩ = some (.int .i64 x.trg) ∧ W'.cell? ⟨(ad'.add (k * 5)).block,(ad'.add (k * 5)).off + 4,none⟩ = some (.slice A' nt c'))),w' = s.W)) rfl ?_
 simp only [opsAt,List.getElem?_toArray,List.getElem?_cons_succ,List.getElem?_cons_zero]
 repeat (go_big_quiet_step (fail))
 refine wpQuiet_nil ?_
 obtain ⟨W_d,hwd⟩:∃ v,W.drew = v:=⟨_,rfl⟩
 have HBW_1:Hid (Below W.heap.size W W_d):=Lib.hid (by rw [← hwd];exact (Below.refl _ _).drew)
 have HBR_1:Hid (Below W.heap.size W W_d):=Lib.hid (by rw [← hwd];exact (Below.refl _ _).drew)
 rw [hwd]
 clear hwd
 refine eff_as (C':=(fun w' => ∃ s:In (fun W' => (W'.cell? (ad.add (k * 5)) = some (.int .i64 x.pl) ∧ W'.cell? ⟨(ad.add (k * 5)).block,(ad.add (k * 5)).off + 1,none⟩ = some (.int .i64 x.id) ∧ W'.cell? ⟨(ad.add (k * 5)).block,(ad.add (k * 5)).off + 2,none⟩ = some (.int .i64 x.card) ∧ W'.cell? ⟨(ad.add (k * 5)).block,(ad.add (k * 5)).off + 3,none⟩ = some (.int .i64 x.trg) ∧ W'.cell? ⟨(ad.add (k * 5)).block,(ad.add (k * 5)).off + 4,none⟩ = some (.slice A nt c)) ∧ (W'.cell? (ad'.add (k * 5)) = some (.int .i64 x.pl) ∧ W'.cell? ⟨(ad'.add (k * 5)).block,(ad'.add (k * 5)).off + 1,none⟩ = some (.int .i64 x.id) ∧ W'.cell? ⟨(ad'.add (k * 5)).block,(ad'.add (k * 5)).off + 2,none⟩ = some (.int .i64 x.card) ∧ W'.cell? ⟨(ad'.add (k * 5)).block,(ad'.add (k * 5)).off + 3,none⟩ = some (.int .i64 x.trg) ∧ W'.cell? ⟨(ad'.add (k * 5)).block,(ad'.add (k * 5)).off + 4,none⟩ = some (.slice A' nt c'))),w' = s.W)) rfl ?_
 (refine eff_lit rfl rfl (fun K hK => ?_))
 go_big_op
 refine (HS.out W_d HBR_1.out).mono ?_
 rintro e W_2 ⟨rfl,hbW_2⟩
 have HBW_3:=Lib.hid (below_call HBW_1.out hbW_2 HBW_1.out.size)
 clear HBW_1
 have HBR_3:=Lib.hid (below_call HBR_1.out hbW_2 HBR_1.out.size)
 clear HBR_1
 clear hbW_2
 refine hK _ _ ⟨⟨_,(HC.out _ HBR_3.out)⟩,rfl⟩ ?_
 clear hK K
 try simp only [opsAt,List.getElem?_toArray,List.getElem?_cons_succ,List.getElem?_cons_zero]
 repeat (go_big_quiet_step (fail))
 refine wpQuiet_nil ?_
 refine effs_done ?_
 exact HKK.out _ _ _ _ _ _ _ _ _ _ HBR_3.out

set_option maxRecDepth 100000 in
set_option maxHeartbeats 1600000 in
theorem rsitems_any (w:World) (s s':Sl) (l:List It) (ts ts':List Sl) (n:Nat) (hS:IsR w s l ts) (hS':IsR w s' l ts') (hl:l.length = n) (hn:n ≤ 1000000) (h4:∀ x ∈ l,x.tgs.length ≤ 1000000) :
  Calls Tryz.prog 37 #[.slice s.A n s.c,.slice s'.A n s'.c] w fun e w' => e = .returned (.bool true) ∧ Below w.heap.size w w':=by
 obtain ⟨⟨SA,Sc⟩,hs⟩:∃ z,s = z:=⟨_,rfl⟩
 obtain ⟨⟨QA,Qc⟩,hq⟩:∃ z,s' = z:=⟨_,rfl⟩
 subst hs hq
 simp only
 have HS:=Lib.hid hS
 have HS':=Lib.hid hS'
 have HLL:=Lib.hid hl
 have H4:=Lib.hid h4
 clear hS hS' hl h4
 go_enter Tryz.func37,Tryz.ntmps37
 go_wp2_with fail
 go_loopw [5] (fun i W => ∃ k:Nat,k ≤ n ∧ i = .int .i64 k ∧ Hid (Below w.heap.size w W)) (fun i _ => n - (intOf i).toNat)
 case atStart => exact ⟨0,Nat.zero_le _,rfl,Lib.hid (Below.refl _ _)⟩
 case round =>
  obtain ⟨k,hk,rfl,HB⟩:=hrel
  by_cases hkn:k < n
  ·have hkn':(k:Int) < n:=by omega
   have HKN:=Lib.hid hkn
   obtain ⟨x,hx⟩:=get_of (l:=l) (k:=k) (by rw [HLL.out];exact hkn)
   obtain ⟨⟨TA,Tc⟩,hz,-,htr,-⟩:=HS.out.at_ hx
   obtain ⟨⟨UA,Uc⟩,hz',-,htr',-⟩:=HS'.out.at_ hx
   have hkl:k < l.length:=by rw [HLL.out];exact hkn
   obtain ⟨ad,hA,hadl,c0,c1,c2,c3,c4⟩:=item_at (HS.out.row) hz hkl
   obtain ⟨ad',hA',hadl',b0,b1,b2,b3,b4⟩:=item_at (HS'.out.row) hz' hkl
   (try simp only at hA hA')
   subst hA hA'
   obtain ⟨nt,hnt⟩:∃ z,x.tgs.length = z:=⟨_,rfl⟩
   simp only [hnt] at c4 b4 htr htr'
   have HCC:Hid (∀ W',Below w.heap.size w W' → (W'.cell? (ad.add (k * 5)) = some (.int .i64 x.pl) ∧ W'.cell? ⟨(ad.add (k * 5)).block,(ad.add (k * 5)).off + 1,none⟩ = some (.int .i64 x.id) ∧ W'.cell? ⟨(ad.add (k * 5)).block,(ad.add (k * 5)).off + 2,none⟩ = some (.int .i64 x.card) ∧ W'.cell? ⟨(ad.add (k * 5)).block,(ad.add (k * 5)).off + 3,none⟩ = some (.int .i64 x.trg) ∧ W'.cell? ⟨(ad.add (k * 5)).block,(ad.add (k * 5)).off + 4,none⟩ = some (.slice TA nt Tc)) ∧ (W'.cell? (ad'.add (k * 5)) = some (.int .i64 x.pl) ∧ W'.cell? ⟨(ad'.add (k * 5)).block,(ad'.add (k * 5)).off + 1,none⟩ = some (.int .i64 x.id) ∧ W'.cell? ⟨(ad'.add (k * 5)).block,(ad'.add (k * 5)).off + 2,none⟩ = some (.int .i64 x.card) ∧ W'.cell? ⟨(ad'.add (k * 5)).block,(ad'.add (k * 5)).off + 3,none⟩ = some (.int .i64 x.trg) ∧ W'.cell? ⟨(ad'.add (k * 5)).block,(ad'.add (k * 5)).off + 4,none⟩ = some (.slice UA nt Uc))):=Lib.hid (fun W' hb => by
    have h1:(ad.add (k * 5)).block < w.heap.size:=by unfold Addr.add;split <;> exact hadl
    have h2:(ad'.add (k * 5)).block < w.heap.size:=by unfold Addr.add;split <;> exact hadl'
    have g:∀ (p:Addr) (u:Value),p.block < w.heap.size → w.cell? p = some u → W'.cell? p = some u:=fun p u hp h => (hb.cell hp).trans h
    exact ⟨⟨g _ _ h1 c0,g _ _ h1 c1,g _ _ h1 c2,g _ _ h1 c3,g _ _ h1 c4⟩,g _ _ h2 b0,g _ _ h2 b1,g _ _ h2 b2,g _ _ h2 b3,g _ _ h2 b4⟩)
   have HSI:Hid (∀ W',Below w.heap.size w W' → Calls Tryz.prog 71 #[.agg #[.int .i64 x.pl,.int .i64 x.id,.int .i64 x.card,.int .i64 x.trg,.slice TA nt Tc],.agg #[.int .i64 x.pl,.int .i64 x.id,.int .i64 x.card,.int .i64 x.trg,.slice UA nt Uc]] W' fun e w' => e = .returned (.bool true) ∧ Below W'.heap.size W' w'):=Lib.hid (fun W' hb => rsitem_any x TA UA nt Tc Uc W' (htr.below hb) (htr'.below hb) hnt (by rw [← hnt];exact H4.out x (List.mem_of_getElem? hx)))
   clear hx hz hz' htr htr' hadl hadl' c0 c1 c2 c3 c4 b0 b1 b2 b3 b4 hkl hnt hkn hk
   go_wp2_with fail
   refine rit_r6 wr ad ad' k n Sc Qc nt Tc Uc TA UA x hkn' (fun W' hb => HCC.out W' (below_call HB.out hb HB.out.size)) (fun W' hb => HSI.out W' (below_call HB.out hb HB.out.size)) _ _ _ _ _ _ _ _ _ _ _ _ _ _ _ _ _ _ _ _ _ _ _ _ _ ?_ ?_
   ·exact fun d _ _ _ _ h => by cases d <;> exact h
   intro v17 v18 v19 v20 v21 v22 v23 v24 v25 w9 h9
   have HB9:=Lib.hid (below_call HB.out h9 HB.out.size)
   clear h9
   go_wp2_with fail
   go_roundw
   case rel => exact ⟨k + 1,HKN.out,by go_num,HB9⟩
   case measure => simp [intOf];have:=HKN.out;omega
  ·have hkd:decide ((k:Int) < n) = false:=decide_eq_false (by omega)
   clear hk
   go_wp2_with fail
   go_ret
   exact ⟨rfl,HB.out⟩
end Go.Proofs.YtagpphelgghbpaaGreat
