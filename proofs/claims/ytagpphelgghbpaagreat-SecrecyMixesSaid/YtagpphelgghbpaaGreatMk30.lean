/-
  Texts: Wri.
-/
import Derived.Test.YtagpphelgghbpaaGreatMk29
import Derived.Test.YtagpphelgghbpaaGreatMk13
set_option linter.unusedSimpArgs false
set_option linter.unusedVariables false
namespace Go.Proofs.YtagpphelgghbpaaGreat
open Go.RowKit

theorem info_u8:(Tryz.prog.info? 5).map (fun i => (i.zero,i.size,i.bytes)) = some (some (.int .u8 0),1,1):=by kernel_rfl
theorem or128 (q:Nat):bits .or .u8 ((q:Int) % 256) 128 = (q:Int) % 128 + 128:=by
 have h:∀ y:Fin 256,y.val ||| 128 = y.val % 128 + 128:=by decide +kernel
 have h1:=h ⟨q % 256,Nat.mod_lt _ (by decide)⟩
 simp only at h1
 show IntKind.u8.wrap ((BitVec.ofInt 8 ((q:Int) % 256) ||| BitVec.ofInt 8 128).toNat:Int) = _
 rw [BitVec.toNat_or,BitVec.toNat_ofInt,BitVec.toNat_ofInt]
 have e1:((q:Int) % 256 % ((2 ^ 8:Nat):Int)).toNat = q % 256:=by
  have:((2 ^ 8:Nat):Int) = 256:=by decide
  rw [this]
  omega
 have e2:((128:Int) % ((2 ^ 8:Nat):Int)).toNat = 128:=by decide
 rw [e1,e2,h1]
 have e3:q % 256 % 128 = q % 128:=by omega
 rw [e3]
 simp only [IntKind.wrap_u8]
 omega
def OwnB (W:World) (p j:Nat):Prop:=∃ ad n c,W.cell? ⟨p,0,none⟩ = some (.slice (some ad) n c) ∧ ad.block = j
structure Wf (p:Nat) (W W':World):Prop where
 l:p < W.heap.size
 o:OnlyF (fun j => j = p ∨ OwnB W p j) W W'
 s:∀ j,OwnB W' p j → OwnB W p j ∨ W.heap.size ≤ j
section
variable {p:Nat} {a b c W W':World}
theorem Wf.refl (W:World) (h:p < W.heap.size):Wf p W W:=⟨h,OnlyF.refl _,fun _ h => .inl h⟩
theorem Wf.of_below (h:Below a.heap.size a b) (hp:p < a.heap.size):Wf p a b:=⟨hp,OnlyF.of_below h,fun j ⟨ad,n,c,h1,h2⟩ => .inl ⟨ad,n,c,(keep_at h p hp 0).symm.trans h1,h2⟩⟩
theorem Wf.trans (h:Wf p a b) (h':Wf p b c):Wf p a c:=by
 refine ⟨h.l,OnlyF.trans h.o h'.o fun i hi hl => ?_,fun j hj => ?_⟩
 ·rcases hi with hi | hi
  ·exact .inl hi
  ·rcases h.s i hi with h1 | h1
   ·exact .inr h1
   ·omega
 ·rcases h'.s j hj with h1 | h1
  ·exact h.s j h1
  ·exact .inr (Nat.le_trans h.o.size h1)
theorem Wf.then (h:Wf p a b) (h':Below b.heap.size b c):Wf p a c:=h.trans (Wf.of_below h' (Nat.lt_of_lt_of_le h.l h.o.size))
end
def WrB (W:World) (p:Nat) (bs:List Int):Prop:=∃ A n c bad,Blk W p 163 #[.slice A n c,.bool bad] ∧ BOwns W 0 5 A n c bs
def Wr (W:World) (p:Nat) (ns:List Int):Prop:=WrB W p (vis ns)
theorem WrB.own {W:World} {p j:Nat} {bs:List Int} (h:WrB W p bs) (ho:OwnB W p j):∃ cur,W.heap[j]? = some (.cells cur 5 (0,0)):=by
 obtain ⟨A,n,c,bad,h1,h2⟩:=h
 obtain ⟨ad,n',c',h3,h4⟩:=ho
 have h5:W.cell? ⟨p,0,none⟩ = some (.slice A n c):=(h1.at_ 0).trans rfl
 rw [h5] at h3
 injection h3 with h3
 injection h3 with h3
 rcases h2.x.blk with h0 | ⟨g,cur,e1,_,e2⟩
 ·rw [h3] at h0
  cases h0
 ·rw [h3] at e1
  have e3:ad.block = g:=Option.some.inj e1
  rw [← h4,e3]
  exact ⟨cur,e2⟩
theorem Blk.wf {W W':World} {p g t:Nat} {cs:Array Value} {bs:List Int} (h:Blk W g t cs) (hw:Wf p W W') (hq:WrB W p bs) (hp:g ≠ p) (ht:t ≠ 5):Blk W' g t cs:=h.onlyF hw.o (by
 rintro (e | e)
 ·exact hp e
 ·obtain ⟨cur,e⟩:=hq.own e
  unfold Blk at h
  rw [h] at e
  injection e with e
  injection e with _ e
  exact ht e)
structure RdT (W:World) (e size:Nat) (A:Option Addr) (n:Nat) (xs:List Value):Prop where
 r:Reads W size A n xs
 b:0 < n → ∀ j,blkOf A = some j → ∃ cur,W.heap[j]? = some (.cells cur e (0,0))
theorem RdT.wf {p:Nat} {W W':World} {e size n:Nat} {A:Option Addr} {xs:List Value} {bs:List Int} (h:RdT W e size A n xs) (hw:Wf p W W') (hp:WrB W p bs) (he:e ≠ 5 ∧ e ≠ 163):RdT W' e size A n xs:=by
 have hF:∀ j cur,W.heap[j]? = some (.cells cur e (0,0)) → ¬ (j = p ∨ OwnB W p j):=by
  rintro j cur hj (e1 | e1)
  ·subst e1
   obtain ⟨A,n,c,bad,h1,h2⟩:=hp
   unfold Blk at h1
   rw [h1] at hj
   injection hj with hj
   injection hj with _ hj
   exact he.2 hj.symm
  ·obtain ⟨cur',e1⟩:=hp.own e1
   rw [hj] at e1
   injection e1 with e1
   injection e1 with _ e1
   exact he.1 e1
 refine ⟨h.r.onlyF hw.o (fun hn j hj => ?_),fun hn j hj => ?_⟩
 ·obtain ⟨cur,hc⟩:=h.b hn j hj
  exact hF j cur hc
 ·obtain ⟨cur,hc⟩:=h.b hn j hj
  have hl:j < W.heap.size:=by
   rcases Nat.lt_or_ge j W.heap.size with h' | h'
   ·exact h'
   ·rw [Array.getElem?_eq_none h'] at hc;cases hc
  exact ⟨cur,(hw.o.block j hl (hF j cur hc)).trans hc⟩
theorem RdT.call {W W':World} {e size n:Nat} {A:Option Addr} {xs:List Value} (h:RdT W e size A n xs) (hb:Below W.heap.size W W'):RdT W' e size A n xs:=⟨h.r.below hb,fun hn j hj => by
 obtain ⟨cur,hc⟩:=h.b hn j hj
 have hl:j < W.heap.size:=by
  rcases Nat.lt_or_ge j W.heap.size with h' | h'
  ·exact h'
  ·rw [Array.getElem?_eq_none h'] at hc;cases hc
 exact ⟨cur,(hb.block j hl).trans hc⟩⟩
theorem RdT.of_x {W:World} {B e size n cap:Nat} {A:Option Addr} {xs:List Value} (h:XOwns W B e size A n cap xs):RdT W e size A n xs:=⟨h.reads,fun _ j hj => by
 rcases h.blk with h0 | ⟨g,cur,h1,_,h2⟩
 ·rw [h0] at hj;cases hj
 ·rw [hj] at h1
  injection h1 with h1
  subst h1
  exact ⟨cur,h2⟩⟩
theorem RdT.lit {W:World} {g:Nat} {l:List Int} (h:Blk W g 3 (ics l).toArray):RdT W 3 1 (some ⟨g,0,none⟩) l.length (ics l):=⟨reads_block h 1 l.length (by simp [ics]),fun _ j hj => by
 have:g = j:=Option.some.inj hj
 subst this
 exact ⟨_,h⟩⟩
theorem WrB.lt {W:World} {p:Nat} {bs:List Int} (h:WrB W p bs):p < W.heap.size:=by
 obtain ⟨A,n,c,bad,h1,h2⟩:=h
 exact h1.lt
theorem WrB.call {W W':World} {p:Nat} {bs:List Int} (h:WrB W p bs) (hb:Below W.heap.size W W'):WrB W' p bs:=by
 obtain ⟨A,n,c,bad,h1,h2⟩:=h
 exact ⟨A,n,c,bad,h1.call hb,h2.below hb⟩
theorem own_of {W:World} {p n c j:Nat} {A:Option Addr} {bad:Bool} (hP:Blk W p 163 #[.slice A n c,.bool bad]) (hj:blkOf A = some j):OwnB W p j:=by
 cases A with
 | none => cases hj
 | some ad => exact ⟨ad,n,c,(hP.at_ 0).trans rfl,Option.some.inj hj⟩
theorem wr_step {W W1 w3 w4:World} {p n c g2 c2:Nat} {A:Option Addr} {bad:Bool} {bs bs':List Int} (hP:Blk W p 163 #[.slice A n c,.bool bad]) (hX:BOwns W 0 5 A n c bs) (hb:Below W.heap.size W W1) (ho:BOwns w3 0 5 (some ⟨g2,0,none⟩) (n + 1) c2 bs') (hg:W1.grownBy w3 (blkOf A)) (hi:blkOf A = some g2 ∨ W.heap.size ≤ g2) (h4:w3.setCell ⟨p,0,none⟩ (.slice (some ⟨g2,0,none⟩) (n + 1) c2) = w4) :
  Blk w4 p 163 #[.slice (some ⟨g2,0,none⟩) (n + 1) c2,.bool bad] ∧ BOwns w4 0 5 (some ⟨g2,0,none⟩) (n + 1) c2 bs' ∧ Wf p W w4:=by
 have hne:some p ≠ blkOf A:=fun e => hX.x.apart_blk hP (by decide) e.symm
 have hP3:=(hP.call hb).grown hg hne
 have hg4:w3.grownBy w4 (some p):=by rw [← h4];exact only_setCell (only_refl _ _) (.inl rfl) _
 have hP4:Blk w4 p 163 #[.slice (some ⟨g2,0,none⟩) (n + 1) c2,.bool bad]:=by rw [← h4];exact hP3.put 0 _
 refine ⟨hP4,ho.grown hg4 (.inr (ho.x.apart_blk hP3 (by decide))),hP.lt,?_,fun j hj => ?_⟩
 ·exact ((OnlyF.of_below hb).trans (OnlyF.of_grown hg (F:=fun j => j = p ∨ OwnB W p j) (fun i hi => .inr (own_of hP hi))) (fun i h _ => h)).trans (OnlyF.of_grown hg4 (F:=fun j => j = p ∨ OwnB W p j) (fun i hi => .inl (by injection hi with hi;exact hi.symm))) (fun i h _ => h)
 ·obtain ⟨ad,n',c',h1,h2⟩:=hj
  rw [(hP4.at_ 0).trans (rfl:_ = some (Value.slice (some ⟨g2,0,none⟩) (n + 1) c2))] at h1
  injection h1 with h1
  injection h1 with h1
  injection h1 with h1
  subst h1
  rw [← h2]
  rcases hi with hi | hi
  ·exact .inl (own_of hP hi)
  ·exact .inr hi
theorem wr_bad {W:World} {p n c:Nat} {A:Option Addr} {bad bad':Bool} {bs:List Int} (hP:Blk W p 163 #[.slice A n c,.bool bad]) (hX:BOwns W 0 5 A n c bs) :
  Blk (W.setCell ⟨p,1,none⟩ (.bool bad')) p 163 #[.slice A n c,.bool bad'] ∧ BOwns (W.setCell ⟨p,1,none⟩ (.bool bad')) 0 5 A n c bs ∧ Wf p W (W.setCell ⟨p,1,none⟩ (.bool bad')):=by
 have hg:W.grownBy (W.setCell ⟨p,1,none⟩ (.bool bad')) (some p):=only_setCell (only_refl _ _) (.inl rfl) _
 have hP4:Blk (W.setCell ⟨p,1,none⟩ (.bool bad')) p 163 #[.slice A n c,.bool bad']:=hP.put 1 _
 refine ⟨hP4,hX.grown hg (.inr (hX.x.apart_blk hP (by decide))),hP.lt,OnlyF.of_grown hg (fun i hi => .inl (by injection hi with hi;exact hi.symm)),fun j hj => .inl ?_⟩
 obtain ⟨ad,n',c',h1,h2⟩:=hj
 have h5:(W.setCell ⟨p,1,none⟩ (.bool bad')).cell? ⟨p,0,none⟩ = some (.slice A n c):=(hP4.at_ 0).trans rfl
 rw [h5] at h1
 injection h1 with h1
 injection h1 with h1
 exact own_of hP (by rw [h1,← h2];rfl)
set_option maxRecDepth 100000 in
set_option maxHeartbeats 3200000 in
theorem wr_bad3 (W:World) (p n c:Nat) (A:Option Addr) (bad:Bool) (bs:List Int) (x:Int) (hP:Blk W p 163 #[.slice A n c,.bool bad]) (hX:BOwns W 0 5 A n c bs) (Q:Exit → Act → World → Prop) (t1 t2 t3 t4 t6 t7 t8 t9 t10 t11 t12 t13 t14 t15 t16 t17 t18 t19 t20 t21 t22 t23 t24 t25 t26 t27 t28 t29 t30 t31 t32 t33 t34 t35 t36 t37 t38 t39 t40 t41 t42 t43 t44 t45 t46 t47 t48 t49 t50 t51 t52 t53 t54 t55 t56 t57 t58 t59 t60 t61 t62:Value)
  (hQ:∀ d v c a w,Q (.panic c) (Act.put a d v) w → Q (.panic c) a w)
  (hK:∀ (u13 u14 u15 u16 u17 u18 u19 u20 u21 u22 u23 u24 u25 u26 u27:Value) (bad9:Bool) (W9:World),Blk W9 p 163 #[.slice A n c,.bool bad9] ∧ BOwns W9 0 5 A n c bs ∧ Wf p W W9 → Q .normal ⟨#[.pointer (some ⟨p,0,none⟩),t1,t2,t3,t4,.int .i64 x,t6,t7,t8,t9,t10,t11,t12,u13,u14,u15,u16,u17,u18,u19,u20,u21,u22,u23,u24,u25,u26,u27,t28,t29,t30,t31,t32,t33,t34,t35,t36,t37,t38,t39,t40,t41,t42,t43,t44,t45,t46,t47,t48,t49,t50,t51,t52,t53,t54,t55,t56,t57,t58,t59,t60,t61,t62],[]⟩ W9) :
  Code.wp Tryz.prog (regOf Tryz.f125 3) Q ⟨#[.pointer (some ⟨p,0,none⟩),t1,t2,t3,t4,.int .i64 x,t6,t7,t8,t9,t10,t11,t12,t13,t14,t15,t16,t17,t18,t19,t20,t21,t22,t23,t24,t25,t26,t27,t28,t29,t30,t31,t32,t33,t34,t35,t36,t37,t38,t39,t40,t41,t42,t43,t44,t45,t46,t47,t48,t49,t50,t51,t52,t53,t54,t55,t56,t57,t58,t59,t60,t61,t62],[]⟩ W:=by
 have HKK:=Lib.hid hK
 clear hK
 conv => arg 2;whnf
 have HP:=Lib.hid hP
 have HX:=Lib.hid hX
 have HQ:=Lib.hid hQ
 have c1:W.cell? ⟨p,1,none⟩ = some (.bool bad):=(hP.at_ 1).trans rfl
 have f1:=hP.free 1
 have l1:=hP.lt
 clear hP hX hQ
 cases bad with
 | true =>
  go_wp2_with fail
  exact HKK.out _ _ _ _ _ _ _ _ _ _ _ _ _ _ _ true _ (wr_bad HP.out HX.out)
 | false =>
  by_cases ht2:x < -2147483647
  ·have hd2:decide (x < -2147483647) = true:=by simpa using ht2
   go_wp2_with fail
   exact HKK.out _ _ _ _ _ _ _ _ _ _ _ _ _ _ _ true _ (wr_bad HP.out HX.out)
  ·have hd2:decide (x < -2147483647) = false:=by simpa using ht2
   by_cases ht1:2147483647 < x
   ·have hd1:decide (2147483647 < x) = true:=by simpa using ht1
    go_wp2_with fail
    exact HKK.out _ _ _ _ _ _ _ _ _ _ _ _ _ _ _ true _ (wr_bad HP.out HX.out)
   ·have hd1:decide (2147483647 < x) = false:=by simpa using ht1
    go_wp2_with fail
    exact HKK.out _ _ _ _ _ _ _ _ _ _ _ _ _ _ _ false _ (wr_bad HP.out HX.out)
set_option maxRecDepth 100000 in
set_option maxHeartbeats 3200000 in
theorem wr_bad0 (W:World) (p n c:Nat) (A:Option Addr) (bad:Bool) (bs:List Int) (x y:Int) (hP:Blk W p 163 #[.slice A n c,.bool bad]) (hX:BOwns W 0 5 A n c bs) (Q:Exit → Act → World → Prop) (t3 t4 t5 t6 t7 t8 t9 t10 t11 t12 t13 t14 t15 t16 t17 t18 t19 t20 t21:Value)
  (hQ:∀ d v c a w,Q (.panic c) (Act.put a d v) w → Q (.panic c) a w)
  (hK:∀ (u6 u7 u8 u9 u10 u11 u12 u13 u14 u15 u16 u17:Value) (bad9:Bool) (W9:World),Blk W9 p 163 #[.slice A n c,.bool bad9] ∧ BOwns W9 0 5 A n c bs ∧ Wf p W W9 → Q .normal ⟨#[.pointer (some ⟨p,0,none⟩),.int .i64 x,.int .i64 y,t3,t4,t5,u6,u7,u8,u9,u10,u11,u12,u13,u14,u15,u16,u17,t18,t19,t20,t21],[]⟩ W9) :
  Code.wp Tryz.prog (regOf Tryz.f129 0) Q ⟨#[.pointer (some ⟨p,0,none⟩),.int .i64 x,.int .i64 y,t3,t4,t5,t6,t7,t8,t9,t10,t11,t12,t13,t14,t15,t16,t17,t18,t19,t20,t21],[]⟩ W:=by
 have HKK:=Lib.hid hK
 clear hK
 conv => arg 2;whnf
 have HP:=Lib.hid hP
 have HX:=Lib.hid hX
 have HQ:=Lib.hid hQ
 have c1:W.cell? ⟨p,1,none⟩ = some (.bool bad):=(hP.at_ 1).trans rfl
 have f1:=hP.free 1
 have l1:=hP.lt
 clear hP hX hQ
 cases bad with
 | true =>
  go_wp2_with fail
  exact HKK.out _ _ _ _ _ _ _ _ _ _ _ _ true _ (wr_bad HP.out HX.out)
 | false =>
  by_cases ht1:y < x
  ·have hd1:decide (y < x) = true:=by simpa using ht1
   go_wp2_with fail
   exact HKK.out _ _ _ _ _ _ _ _ _ _ _ _ true _ (wr_bad HP.out HX.out)
  ·have hd1:decide (y < x) = false:=by simpa using ht1
   go_wp2_with fail
   exact HKK.out _ _ _ _ _ _ _ _ _ _ _ _ false _ (wr_bad HP.out HX.out)
theorem zig_xor {x:Int} (h:x < 0) (hw:wfI x):bits .xor .u64 IntKind.u64.max (IntKind.u64.wrap (IntKind.u64.wrap x * 2)) = ((zig x:Nat):Int):=by
 unfold wfI at hw
 have hy:IntKind.u64.wrap (IntKind.u64.wrap x * 2) = 18446744073709551616 + 2 * x:=by
  simp only [IntKind.wrap_u64]
  omega
 rw [hy]
 show IntKind.u64.wrap ((BitVec.ofInt 64 IntKind.u64.max ^^^ BitVec.ofInt 64 (18446744073709551616 + 2 * x)).toNat:Int) = _
 rw [show BitVec.ofInt 64 IntKind.u64.max = BitVec.allOnes 64 by decide,BitVec.allOnes_xor,BitVec.toNat_not,BitVec.toNat_ofInt]
 have e:((2 ^ 64:Nat):Int) = 18446744073709551616:=by decide
 rw [e]
 have hz:(zig x:Int) = -2 * x - 1:=by unfold zig;rw [if_pos h];omega
 rw [hz]
 simp only [IntKind.wrap_u64]
 omega
theorem zig_pos {x:Int} (h:0 ≤ x):(zig x:Int) = 2 * x:=by
 unfold zig
 rw [if_neg (by omega)]
 omega
set_option maxRecDepth 100000 in
set_option maxHeartbeats 3200000 in
theorem wput_any (w:World) (p:Nat) (ns l:List Int) (e n c:Nat) (A:Option Addr) (hP:Wr w p ns) (hL:RdT w e 1 A n (ics l)) (he:e ≠ 5 ∧ e ≠ 163) (hw:∀ x ∈ l,wfI x) (hns:∀ x ∈ ns,wfI x) (hsz:ns.length + n ≤ 1000000) :
  Calls Tryz.prog 125 #[.pointer (some ⟨p,0,none⟩),.slice A n c] w fun en w' => en = .returned (.tuple #[]) ∧ Wr w' p (ns ++ l) ∧ Wf p w w':=by
 have HP:=Lib.hid hP
 have HL:=Lib.hid hL
 have HE:=Lib.hid he
 have HW:=Lib.hid hw
 have HNS:=Lib.hid hns
 have HSZ:=Lib.hid hsz
 have HN:=Lib.hid (ilen hL.r)
 have hn:n ≤ 1000000:=by omega
 clear hP hL he hw hns hsz
 go_enter Tryz.func125,Tryz.ntmps125
 go_wp2
 go_loopw [9] (fun i W => ∃ k:Nat,k ≤ n ∧ i = .int .i64 k ∧ Hid (Wr W p (ns ++ l.take k) ∧ Wf p w W)) (fun i _ => n - (intOf i).toNat)
 case atStart => exact ⟨0,Nat.zero_le _,rfl,Lib.hid ⟨by simpa using HP.out,Wf.refl _ (WrB.lt HP.out)⟩⟩
 case round =>
  obtain ⟨k,hk,rfl,HI⟩:=hrel
  by_cases hkn:k < n
  ·have hkn':(k:Int) < n:=by omega
   have HLk:=Lib.hid (HL.out.wf HI.out.2 HP.out HE.out)
   obtain ⟨ad,rfl,-,e0⟩:=int_at HLk.out.r hkn
   have hget:=ith_get (xs:=l) (k:=k) (by rw [HN.out];exact hkn)
   obtain ⟨x,hx⟩:∃ x,ith l k = x:=⟨_,rfl⟩
   rw [hx] at hget e0
   have hwx:=HW.out x (List.mem_of_getElem? hget)
   have HT:Hid (ns ++ l.take (k + 1) = (ns ++ l.take k) ++ [x]):=Lib.hid (by rw [take_snoc hget,List.append_assoc])
   have HB:Hid ((vis (ns ++ l.take k)).length ≤ 10000000):=Lib.hid (by
    have h1:∀ y ∈ ns ++ l.take k,wfI y:=fun y hy => by
     rcases List.mem_append.1 hy with hy | hy
     ·exact HNS.out y hy
     ·exact HW.out y (List.mem_of_mem_take hy)
    have h2:=vis_len h1
    have h3:=HSZ.out
    rw [List.length_append,List.length_take] at h2
    omega)
   obtain ⟨A1,n1,c1,bad1,hp1,hx1⟩:=HI.out.1
   have HP1:=Lib.hid hp1
   have HX1:=Lib.hid hx1
   have HZ:=Lib.hid (zig_lt hwx)
   have HWX:=Lib.hid hwx
   unfold wfI at hwx
   clear hp1 hx1 hx hget
   first
    | (iterate 14 go_step
       refine wr_bad3 wr p n1 c1 A1 bad1 _ x HP1.out HX1.out _ _ _ _ _ _ _ _ _ _ _ _ _ _ _ _ _ _ _ _ _ _ _ _ _ _ _ _ _ _ _ _ _ _ _ _ _ _ _ _ _ _ _ _ _ _ _ _ _ _ _ _ _ _ _ _ _ _ _ _ _ _ ?_ ?_)
    | (iterate 15 go_step
       refine wr_bad3 wr p n1 c1 A1 bad1 _ x HP1.out HX1.out _ _ _ _ _ _ _ _ _ _ _ _ _ _ _ _ _ _ _ _ _ _ _ _ _ _ _ _ _ _ _ _ _ _ _ _ _ _ _ _ _ _ _ _ _ _ _ _ _ _ _ _ _ _ _ _ _ _ _ _ _ _ ?_ ?_)
    | (iterate 16 go_step
       refine wr_bad3 wr p n1 c1 A1 bad1 _ x HP1.out HX1.out _ _ _ _ _ _ _ _ _ _ _ _ _ _ _ _ _ _ _ _ _ _ _ _ _ _ _ _ _ _ _ _ _ _ _ _ _ _ _ _ _ _ _ _ _ _ _ _ _ _ _ _ _ _ _ _ _ _ _ _ _ _ ?_ ?_)
    | (iterate 17 go_step
       refine wr_bad3 wr p n1 c1 A1 bad1 _ x HP1.out HX1.out _ _ _ _ _ _ _ _ _ _ _ _ _ _ _ _ _ _ _ _ _ _ _ _ _ _ _ _ _ _ _ _ _ _ _ _ _ _ _ _ _ _ _ _ _ _ _ _ _ _ _ _ _ _ _ _ _ _ _ _ _ _ ?_ ?_)
    | (iterate 18 go_step
       refine wr_bad3 wr p n1 c1 A1 bad1 _ x HP1.out HX1.out _ _ _ _ _ _ _ _ _ _ _ _ _ _ _ _ _ _ _ _ _ _ _ _ _ _ _ _ _ _ _ _ _ _ _ _ _ _ _ _ _ _ _ _ _ _ _ _ _ _ _ _ _ _ _ _ _ _ _ _ _ _ ?_ ?_)
    | (iterate 19 go_step
       refine wr_bad3 wr p n1 c1 A1 bad1 _ x HP1.out HX1.out _ _ _ _ _ _ _ _ _ _ _ _ _ _ _ _ _ _ _ _ _ _ _ _ _ _ _ _ _ _ _ _ _ _ _ _ _ _ _ _ _ _ _ _ _ _ _ _ _ _ _ _ _ _ _ _ _ _ _ _ _ _ ?_ ?_)
    | (iterate 20 go_step
       refine wr_bad3 wr p n1 c1 A1 bad1 _ x HP1.out HX1.out _ _ _ _ _ _ _ _ _ _ _ _ _ _ _ _ _ _ _ _ _ _ _ _ _ _ _ _ _ _ _ _ _ _ _ _ _ _ _ _ _ _ _ _ _ _ _ _ _ _ _ _ _ _ _ _ _ _ _ _ _ _ ?_ ?_)
    | (iterate 21 go_step
       refine wr_bad3 wr p n1 c1 A1 bad1 _ x HP1.out HX1.out _ _ _ _ _ _ _ _ _ _ _ _ _ _ _ _ _ _ _ _ _ _ _ _ _ _ _ _ _ _ _ _ _ _ _ _ _ _ _ _ _ _ _ _ _ _ _ _ _ _ _ _ _ _ _ _ _ _ _ _ _ _ ?_ ?_)
    | (iterate 22 go_step
       refine wr_bad3 wr p n1 c1 A1 bad1 _ x HP1.out HX1.out _ _ _ _ _ _ _ _ _ _ _ _ _ _ _ _ _ _ _ _ _ _ _ _ _ _ _ _ _ _ _ _ _ _ _ _ _ _ _ _ _ _ _ _ _ _ _ _ _ _ _ _ _ _ _ _ _ _ _ _ _ _ ?_ ?_)
    | (iterate 23 go_step
       refine wr_bad3 wr p n1 c1 A1 bad1 _ x HP1.out HX1.out _ _ _ _ _ _ _ _ _ _ _ _ _ _ _ _ _ _ _ _ _ _ _ _ _ _ _ _ _ _ _ _ _ _ _ _ _ _ _ _ _ _ _ _ _ _ _ _ _ _ _ _ _ _ _ _ _ _ _ _ _ _ ?_ ?_)
    | (iterate 24 go_step
       refine wr_bad3 wr p n1 c1 A1 bad1 _ x HP1.out HX1.out _ _ _ _ _ _ _ _ _ _ _ _ _ _ _ _ _ _ _ _ _ _ _ _ _ _ _ _ _ _ _ _ _ _ _ _ _ _ _ _ _ _ _ _ _ _ _ _ _ _ _ _ _ _ _ _ _ _ _ _ _ _ ?_ ?_)
    | (iterate 25 go_step
       refine wr_bad3 wr p n1 c1 A1 bad1 _ x HP1.out HX1.out _ _ _ _ _ _ _ _ _ _ _ _ _ _ _ _ _ _ _ _ _ _ _ _ _ _ _ _ _ _ _ _ _ _ _ _ _ _ _ _ _ _ _ _ _ _ _ _ _ _ _ _ _ _ _ _ _ _ _ _ _ _ ?_ ?_)
    | (iterate 26 go_step
       refine wr_bad3 wr p n1 c1 A1 bad1 _ x HP1.out HX1.out _ _ _ _ _ _ _ _ _ _ _ _ _ _ _ _ _ _ _ _ _ _ _ _ _ _ _ _ _ _ _ _ _ _ _ _ _ _ _ _ _ _ _ _ _ _ _ _ _ _ _ _ _ _ _ _ _ _ _ _ _ _ ?_ ?_)
    | (iterate 27 go_step
       refine wr_bad3 wr p n1 c1 A1 bad1 _ x HP1.out HX1.out _ _ _ _ _ _ _ _ _ _ _ _ _ _ _ _ _ _ _ _ _ _ _ _ _ _ _ _ _ _ _ _ _ _ _ _ _ _ _ _ _ _ _ _ _ _ _ _ _ _ _ _ _ _ _ _ _ _ _ _ _ _ ?_ ?_)
    | (iterate 28 go_step
       refine wr_bad3 wr p n1 c1 A1 bad1 _ x HP1.out HX1.out _ _ _ _ _ _ _ _ _ _ _ _ _ _ _ _ _ _ _ _ _ _ _ _ _ _ _ _ _ _ _ _ _ _ _ _ _ _ _ _ _ _ _ _ _ _ _ _ _ _ _ _ _ _ _ _ _ _ _ _ _ _ ?_ ?_)
    | (iterate 29 go_step
       refine wr_bad3 wr p n1 c1 A1 bad1 _ x HP1.out HX1.out _ _ _ _ _ _ _ _ _ _ _ _ _ _ _ _ _ _ _ _ _ _ _ _ _ _ _ _ _ _ _ _ _ _ _ _ _ _ _ _ _ _ _ _ _ _ _ _ _ _ _ _ _ _ _ _ _ _ _ _ _ _ ?_ ?_)
    | (iterate 30 go_step
       refine wr_bad3 wr p n1 c1 A1 bad1 _ x HP1.out HX1.out _ _ _ _ _ _ _ _ _ _ _ _ _ _ _ _ _ _ _ _ _ _ _ _ _ _ _ _ _ _ _ _ _ _ _ _ _ _ _ _ _ _ _ _ _ _ _ _ _ _ _ _ _ _ _ _ _ _ _ _ _ _ ?_ ?_)
    | (iterate 31 go_step
       refine wr_bad3 wr p n1 c1 A1 bad1 _ x HP1.out HX1.out _ _ _ _ _ _ _ _ _ _ _ _ _ _ _ _ _ _ _ _ _ _ _ _ _ _ _ _ _ _ _ _ _ _ _ _ _ _ _ _ _ _ _ _ _ _ _ _ _ _ _ _ _ _ _ _ _ _ _ _ _ _ ?_ ?_)
    | (iterate 32 go_step
       refine wr_bad3 wr p n1 c1 A1 bad1 _ x HP1.out HX1.out _ _ _ _ _ _ _ _ _ _ _ _ _ _ _ _ _ _ _ _ _ _ _ _ _ _ _ _ _ _ _ _ _ _ _ _ _ _ _ _ _ _ _ _ _ _ _ _ _ _ _ _ _ _ _ _ _ _ _ _ _ _ ?_ ?_)
    | (iterate 33 go_step
       refine wr_bad3 wr p n1 c1 A1 bad1 _ x HP1.out HX1.out _ _ _ _ _ _ _ _ _ _ _ _ _ _ _ _ _ _ _ _ _ _ _ _ _ _ _ _ _ _ _ _ _ _ _ _ _ _ _ _ _ _ _ _ _ _ _ _ _ _ _ _ _ _ _ _ _ _ _ _ _ _ ?_ ?_)
    | (iterate 34 go_step
       refine wr_bad3 wr p n1 c1 A1 bad1 _ x HP1.out HX1.out _ _ _ _ _ _ _ _ _ _ _ _ _ _ _ _ _ _ _ _ _ _ _ _ _ _ _ _ _ _ _ _ _ _ _ _ _ _ _ _ _ _ _ _ _ _ _ _ _ _ _ _ _ _ _ _ _ _ _ _ _ _ ?_ ?_)
   ·exact fun d _ _ _ _ h => by cases d <;> exact h
   intro v13 v14 v15 v16 v17 v18 v19 v20 v21 v22 v23 v24 v25 v26 v27 bad2 w2 h2
   have HI2:=Lib.hid h2
   clear h2 e0
   obtain ⟨ys,hys⟩:∃ y,vis (ns ++ l.take k) = y:=⟨_,rfl⟩
   have HYS:=Lib.hid hys
   have HI3:Hid (Blk w2 p 163 #[.slice A1 n1 c1,.bool bad2] ∧ BOwns w2 0 5 A1 n1 c1 ys ∧ Wf p w w2):=Lib.hid ⟨HI2.out.1,by rw [← hys];exact HI2.out.2.1,HI.out.2.trans HI2.out.2.2⟩
   have HYL:Hid (ys.length ≤ 10000000):=Lib.hid (by rw [← hys];exact HB.out)
   clear HI HI2 HP1 HX1 HLk hys HB
   by_cases hs:x < 0
   ·have hs':decide (x < 0) = true:=by simpa using hs
    have HXE:=Lib.hid (zig_xor hs HWX.out)
    go_wp2_with fail
    go_loopw [6] (fun v W => ∃ (q:Nat) (zs:List Int) (A1:Option Addr) (m1 c1:Nat) (bad:Bool),v = .int .u64 q ∧ q < 18446744073709551616 ∧ Hid (Blk W p 163 #[.slice A1 m1 c1,.bool bad] ∧ BOwns W 0 5 A1 m1 c1 (ys ++ zs) ∧ Wf p w W ∧ zs ++ numS q = numS (zig x))) (fun v _ => (intOf v).toNat)
    case atStart => exact ⟨zig x,[],A1,n1,c1,bad2,by rw [HXE.out],by have:=HZ.out;omega,Lib.hid ⟨HI3.out.1,by rw [List.append_nil];exact HI3.out.2.1,HI3.out.2.2,rfl⟩⟩
    case round =>
     obtain ⟨q,zs,A1,m1,c1,bad,rfl,hq,HQ⟩:=hrel
     clear HI3
     obtain ⟨hp1,hx1,hw1,hz1⟩:=HQ.out
     have hm1:m1 ≤ 20000000:=by
      have h1:=hx1.length
      have h2:=congrArg List.length hz1
      rw [List.length_append] at h1 h2
      have h3:=numS_len10 HZ.out
      have:=HYL.out
      omega
     have HP1:=Lib.hid hp1
     have HX1:=Lib.hid hx1
     have HW1:=Lib.hid (And.intro hw1 hz1)
     have c0:wr.cell? ⟨p,0,none⟩ = some (.slice A1 m1 c1):=(hp1.at_ 0).trans rfl
     by_cases h128:128 ≤ q
     ·have h127:(127:Int) < q:=by omega
      have hor:=or128 q
      clear hw1 hz1
      go_wp2_with (at_builtin;refine append_bytes_at _ rfl (.tmp 43) (.tmp 47) 161 rfl 0 5 info_u8 Tryz.underlying161 A1 m1 c1 (ys ++ zs) rfl (hx1.alloc _) (some ⟨wr.heap.size,0,none⟩) 1 1 [(q:Int) % 128 + 128] rfl (BReads.lit _ _ [(q:Int) % 128 + 128] _ _ (fun y hy => by (rw [List.mem_singleton] at hy;subst hy;exact ⟨by omega,by omega⟩)) rfl rfl) (by decide) (by omega) (Nat.zero_le _) (wr.heap.size + 1) (by simp) ?_;intro g2 c2 w3 ho3 hg3 hi3 hlt3;obtain ⟨w4,hw4⟩:∃ x,w3.setCell ⟨p,0,none⟩ (.slice (some ⟨g2,0,none⟩) (m1 + 1) c2) = x:=⟨_,rfl⟩;have hb9:Below wr.heap.size wr (wr.alloc (.cells #[.int .u8 ((q:Int) % 128 + 128)] 5)):=(Below.refl _ _).alloc (Nat.le_refl _) _;have hP3:=(hp1.call hb9).grown hg3 (fun e => hx1.x.apart_blk hp1 (by decide) e.symm);have q9:=(hP3.at_ 0).trans rfl;have f9:=hP3.free 0;have l9:=hP3.lt;have HS4:=Lib.hid (wr_step hp1 hx1 hb9 ho3 hg3 (hi3.imp_right (fun h => by omega)) hw4))
      clear hp1 hx1 c0
      go_roundw
      case rel => exact ⟨q / 128,zs ++ [(q:Int) % 128 + 128],some ⟨g2,0,none⟩,m1 + 1,c2,bad,by go_num,by omega,Lib.hid ⟨HS4.out.1,by rw [← List.append_assoc];exact HS4.out.2.1,HW1.out.1.trans HS4.out.2.2,by rw [← HW1.out.2,numS_ge h128];simp⟩⟩
      case measure => simp [intOf];omega
     ·have h127:¬ (127:Int) < q:=by omega
      clear hw1 hz1
      go_wp2_with (at_builtin;refine append_bytes_at _ rfl (.tmp 55) (.tmp 58) 161 rfl 0 5 info_u8 Tryz.underlying161 A1 m1 c1 (ys ++ zs) rfl (hx1.alloc _) (some ⟨wr.heap.size,0,none⟩) 1 1 [(q:Int)] rfl (BReads.lit _ _ [(q:Int)] _ _ (fun y hy => by (rw [List.mem_singleton] at hy;subst hy;exact ⟨by omega,by omega⟩)) rfl rfl) (by decide) (by omega) (Nat.zero_le _) (wr.heap.size + 1) (by simp) ?_;intro g2 c2 w3 ho3 hg3 hi3 hlt3;obtain ⟨w4,hw4⟩:∃ x,w3.setCell ⟨p,0,none⟩ (.slice (some ⟨g2,0,none⟩) (m1 + 1) c2) = x:=⟨_,rfl⟩;have hb9:Below wr.heap.size wr (wr.alloc (.cells #[.int .u8 ((q:Int))] 5)):=(Below.refl _ _).alloc (Nat.le_refl _) _;have hP3:=(hp1.call hb9).grown hg3 (fun e => hx1.x.apart_blk hp1 (by decide) e.symm);have q9:=(hP3.at_ 0).trans rfl;have f9:=hP3.free 0;have l9:=hP3.lt;have HS4:=Lib.hid (wr_step hp1 hx1 hb9 ho3 hg3 (hi3.imp_right (fun h => by omega)) hw4))
      clear hp1 hx1 c0
      go_roundw
      case rel => exact ⟨k + 1,by omega,by go_num,Lib.hid ⟨⟨_,_,_,_,HS4.out.1,by (have h:=HS4.out.2.1;rw [HT.out,vis_app,HYS.out,show vis [x] = numS (zig x) by simp [vis,vi],← HW1.out.2,numS_lt (by omega),← List.append_assoc];exact h)⟩,HW1.out.1.trans HS4.out.2.2⟩⟩
      case measure => simp [intOf];omega
   ·have hs':decide (x < 0) = false:=by simpa using hs
    have HXE:Hid (x * 2 = ((zig x:Nat):Int)):=Lib.hid (by rw [zig_pos (by omega)];omega)
    go_wp2_with fail
    go_loopw [6] (fun v W => ∃ (q:Nat) (zs:List Int) (A1:Option Addr) (m1 c1:Nat) (bad:Bool),v = .int .u64 q ∧ q < 18446744073709551616 ∧ Hid (Blk W p 163 #[.slice A1 m1 c1,.bool bad] ∧ BOwns W 0 5 A1 m1 c1 (ys ++ zs) ∧ Wf p w W ∧ zs ++ numS q = numS (zig x))) (fun v _ => (intOf v).toNat)
    case atStart => exact ⟨zig x,[],A1,n1,c1,bad2,by rw [HXE.out],by have:=HZ.out;omega,Lib.hid ⟨HI3.out.1,by rw [List.append_nil];exact HI3.out.2.1,HI3.out.2.2,rfl⟩⟩
    case round =>
     obtain ⟨q,zs,A1,m1,c1,bad,rfl,hq,HQ⟩:=hrel
     clear HI3
     obtain ⟨hp1,hx1,hw1,hz1⟩:=HQ.out
     have hm1:m1 ≤ 20000000:=by
      have h1:=hx1.length
      have h2:=congrArg List.length hz1
      rw [List.length_append] at h1 h2
      have h3:=numS_len10 HZ.out
      have:=HYL.out
      omega
     have HP1:=Lib.hid hp1
     have HX1:=Lib.hid hx1
     have HW1:=Lib.hid (And.intro hw1 hz1)
     have c0:wr.cell? ⟨p,0,none⟩ = some (.slice A1 m1 c1):=(hp1.at_ 0).trans rfl
     by_cases h128:128 ≤ q
     ·have h127:(127:Int) < q:=by omega
      have hor:=or128 q
      clear hw1 hz1
      go_wp2_with (at_builtin;refine append_bytes_at _ rfl (.tmp 43) (.tmp 47) 161 rfl 0 5 info_u8 Tryz.underlying161 A1 m1 c1 (ys ++ zs) rfl (hx1.alloc _) (some ⟨wr.heap.size,0,none⟩) 1 1 [(q:Int) % 128 + 128] rfl (BReads.lit _ _ [(q:Int) % 128 + 128] _ _ (fun y hy => by (rw [List.mem_singleton] at hy;subst hy;exact ⟨by omega,by omega⟩)) rfl rfl) (by decide) (by omega) (Nat.zero_le _) (wr.heap.size + 1) (by simp) ?_;intro g2 c2 w3 ho3 hg3 hi3 hlt3;obtain ⟨w4,hw4⟩:∃ x,w3.setCell ⟨p,0,none⟩ (.slice (some ⟨g2,0,none⟩) (m1 + 1) c2) = x:=⟨_,rfl⟩;have hb9:Below wr.heap.size wr (wr.alloc (.cells #[.int .u8 ((q:Int) % 128 + 128)] 5)):=(Below.refl _ _).alloc (Nat.le_refl _) _;have hP3:=(hp1.call hb9).grown hg3 (fun e => hx1.x.apart_blk hp1 (by decide) e.symm);have q9:=(hP3.at_ 0).trans rfl;have f9:=hP3.free 0;have l9:=hP3.lt;have HS4:=Lib.hid (wr_step hp1 hx1 hb9 ho3 hg3 (hi3.imp_right (fun h => by omega)) hw4))
      clear hp1 hx1 c0
      go_roundw
      case rel => exact ⟨q / 128,zs ++ [(q:Int) % 128 + 128],some ⟨g2,0,none⟩,m1 + 1,c2,bad,by go_num,by omega,Lib.hid ⟨HS4.out.1,by rw [← List.append_assoc];exact HS4.out.2.1,HW1.out.1.trans HS4.out.2.2,by rw [← HW1.out.2,numS_ge h128];simp⟩⟩
      case measure => simp [intOf];omega
     ·have h127:¬ (127:Int) < q:=by omega
      clear hw1 hz1
      go_wp2_with (at_builtin;refine append_bytes_at _ rfl (.tmp 55) (.tmp 58) 161 rfl 0 5 info_u8 Tryz.underlying161 A1 m1 c1 (ys ++ zs) rfl (hx1.alloc _) (some ⟨wr.heap.size,0,none⟩) 1 1 [(q:Int)] rfl (BReads.lit _ _ [(q:Int)] _ _ (fun y hy => by (rw [List.mem_singleton] at hy;subst hy;exact ⟨by omega,by omega⟩)) rfl rfl) (by decide) (by omega) (Nat.zero_le _) (wr.heap.size + 1) (by simp) ?_;intro g2 c2 w3 ho3 hg3 hi3 hlt3;obtain ⟨w4,hw4⟩:∃ x,w3.setCell ⟨p,0,none⟩ (.slice (some ⟨g2,0,none⟩) (m1 + 1) c2) = x:=⟨_,rfl⟩;have hb9:Below wr.heap.size wr (wr.alloc (.cells #[.int .u8 ((q:Int))] 5)):=(Below.refl _ _).alloc (Nat.le_refl _) _;have hP3:=(hp1.call hb9).grown hg3 (fun e => hx1.x.apart_blk hp1 (by decide) e.symm);have q9:=(hP3.at_ 0).trans rfl;have f9:=hP3.free 0;have l9:=hP3.lt;have HS4:=Lib.hid (wr_step hp1 hx1 hb9 ho3 hg3 (hi3.imp_right (fun h => by omega)) hw4))
      clear hp1 hx1 c0
      go_roundw
      case rel => exact ⟨k + 1,by omega,by go_num,Lib.hid ⟨⟨_,_,_,_,HS4.out.1,by (have h:=HS4.out.2.1;rw [HT.out,vis_app,HYS.out,show vis [x] = numS (zig x) by simp [vis,vi],← HW1.out.2,numS_lt (by omega),← List.append_assoc];exact h)⟩,HW1.out.1.trans HS4.out.2.2⟩⟩
      case measure => simp [intOf];omega
  ·obtain rfl:k = n:=by omega
   go_wp2
   refine bodyPost_end (v:=.tuple #[]) (by simp [results,Tryz.f125]) rfl ⟨rfl,?_,HI.out.2⟩
   have h:=HI.out.1
   rw [List.take_of_length_le (by rw [HN.out];exact Nat.le_refl _)] at h
   exact h
end Go.Proofs.YtagpphelgghbpaaGreat
