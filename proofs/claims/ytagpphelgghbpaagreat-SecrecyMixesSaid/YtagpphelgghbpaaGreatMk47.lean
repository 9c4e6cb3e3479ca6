/-
  Texts: Mxb, Rsf.
-/
import Derived.Test.YtagpphelgghbpaaGreatMk43
import Derived.Test.YtagpphelgghbpaaGreatMk46
import Derived.Test.YtagpphelgghbpaaGreatMk40
import Derived.Test.YtagpphelgghbpaaGreatMk3
set_option linter.unusedSimpArgs false
set_option linter.unusedVariables false
namespace Go.Proofs.YtagpphelgghbpaaGreat
open Go.RowKit

set_option maxRecDepth 100000 in
set_option maxHeartbeats 1600000 in
theorem hidden_bad (b:Bd) (m:BdM) (w:World) (p:Int) (hR:BdR w b m) (hz:b.plc.length < 9223372036854775807) (hbad:¬ ((p = 0 ∨ p = 1) ∧ b.Valid)):Calls Tryz.prog 23 #[.agg (b.cells m).toArray,.int .i64 p] w fun e w' => e = .returned (.tuple #[.slice none 0 0,.int .i64 2]) ∧ Below w.heap.size w w':=by
 obtain ⟨cs,hcs⟩:∃ cs,(b.cells m).toArray = cs:=⟨_,rfl⟩
 obtain ⟨w2,hw2⟩:∃ x,w.alloc (.cells cs 33) = x:=⟨_,rfl⟩
 have HB2:Hid (Below w.heap.size w w2):=Lib.hid (by rw [← hw2];exact (Below.refl _ _).alloc (Nat.le_refl _) _)
 have HK2:Hid (Blk w2 w.heap.size 33 cs):=Lib.hid (by rw [← hw2];exact Blk.mk_ w _ _ _ rfl)
 have HL2:Hid ((Instr.loadAt 33 (.pointer (some ⟨w.heap.size,0,none⟩))).run Tryz.prog w2 = .ok (.agg cs) w2):=Lib.hid (by
  have h:=HK2.out
  rw [← hcs] at h ⊢
  exact board_load h)
 have HVC:=Lib.hid (valid_any b m w2 (hR.below HB2.out) hz)
 rw [hcs] at HVC
 have HBAD:=Lib.hid hbad
 rw [hcs]
 clear hR hz hbad hcs HK2
 by_cases hp:p = 0 ∨ p = 1
 ·have HNV:Hid (¬ b.Valid):=Lib.hid (fun h => HBAD.out ⟨hp,h⟩)
  obtain ⟨k,hk,rfl⟩:∃ k:Nat,k < 2 ∧ p = k:=by
   rcases hp with rfl | rfl
   ·exact ⟨0,by omega,rfl⟩
   ·exact ⟨1,by omega,rfl⟩
  have HKK:=Lib.hid hk
  clear hp hk
  go_enter Tryz.func23,Tryz.ntmps23
  go_wp2_with (first
   | (go_at_call 56;refine (player_any k HKK.out w2).mono ?_;rintro e w_ ⟨rfl,rfl⟩)
   | (refine wpList_load_by HL2.out rfl rfl rfl ?_;simp only [Act.put,List.setIfInBounds_toArray,List.set_cons_succ,List.set_cons_zero])
   | fail)
  refine HVC.out.mono ?_
  rintro e w3 ⟨v,rfl,hvv,hb3⟩
  have hvf:v = false:=by
   cases v with
   | false => rfl
   | true => exact absurd (hvv.1 rfl) HNV.out
  subst hvf
  have HB3:=Lib.hid (below_call HB2.out hb3 HB2.out.size)
  clear hvv hb3 hw2
  go_wp2_with fail
  go_ret2
  exact ⟨rfl,HB3.out⟩
 ·have HP:Hid (¬ p = 0 ∧ ¬ p = 1):=Lib.hid ⟨fun h => hp (Or.inl h),fun h => hp (Or.inr h)⟩
  clear hp
  go_enter Tryz.func23,Tryz.ntmps23
  go_wp2_with (first
   | (go_at_call 56;refine (player_no p HP.out.1 HP.out.2 w2).mono ?_;rintro e w_ ⟨rfl,rfl⟩)
   | fail)
  go_ret2
  exact ⟨rfl,HB2.out⟩
set_option maxRecDepth 100000 in
set_option maxHeartbeats 1600000 in
theorem mix_bad (b:Bd) (m:BdM) (w:World) (p:Int) (U:Value) (hR:BdR w b m) (hz:b.plc.length < 9223372036854775807) (hbad:¬ ((p = 0 ∨ p = 1) ∧ b.Valid)):Calls Tryz.prog 9 #[.agg (b.cells m).toArray,.int .i64 p,U] w fun e w' => e = .returned (.tuple #[.agg zbd,.int .i64 2]) ∧ Below w.heap.size w w':=by
 obtain ⟨cs,hcs⟩:∃ cs,(b.cells m).toArray = cs:=⟨_,rfl⟩
 obtain ⟨w2,hw2⟩:∃ w2,(w.alloc (.cells cs 33)).alloc (.cells zbd 33) = w2:=⟨_,rfl⟩
 have HB2:Hid (Below w.heap.size w w2):=Lib.hid (by rw [← hw2];exact ((Below.refl _ _).alloc (Nat.le_refl _) _).alloc (by simp) _)
 have HBX2:Hid (Blk w2 w.heap.size 33 cs):=Lib.hid (by rw [← hw2];exact (Blk.mk_ w _ _ _ rfl).alloc _)
 have HRS2:Hid (Blk w2 (w.heap.size + 1) 33 zbd):=Lib.hid (by rw [← hw2];exact Blk.mk_ _ _ _ _ (by simp))
 have HL2:Hid ((Instr.loadAt 33 (.pointer (some ⟨w.heap.size,0,none⟩))).run Tryz.prog w2 = .ok (.agg cs) w2):=Lib.hid (by
  have h:=HBX2.out
  rw [← hcs] at h ⊢
  exact board_load h)
 have HHB:Hid (Calls Tryz.prog 23 #[.agg cs,.int .i64 p] w2 fun e w' => e = .returned (.tuple #[.slice none 0 0,.int .i64 2]) ∧ Below w2.heap.size w2 w'):=Lib.hid (by rw [← hcs];exact hidden_bad b m w2 p (hR.below HB2.out) hz hbad)
 rw [hcs]
 unfold zbd at hw2
 clear hR hz hbad hcs
 go_enter Tryz.func9,Tryz.ntmps9
 go_wp2_with (first
  | (refine wpList_load_by HL2.out rfl rfl rfl ?_;simp only [Act.put,List.setIfInBounds_toArray,List.set_cons_succ,List.set_cons_zero])
  | fail)
 refine HHB.out.mono ?_
 rintro e w3 ⟨rfl,hb3⟩
 obtain ⟨w6,hst,hk6,hg6⟩:=(HRS2.out.call hb3).storeAll (ty:=33) zbd.toList (by rw [zbd_len];rfl) (by rw [size_board,zbd_len]) one_zbd
 rw [Array.toArray_toList] at hst hk6
 have HST:=Lib.hid hst
 have HK6:=Lib.hid hk6
 have HB6:=Lib.hid ((below_call HB2.out hb3 HB2.out.size).grown hg6 (Nat.le_trans HB2.out.size hb3.size) (fun q hq => by injection hq with hq;omega))
 clear hb3 hst hk6 hg6 hw2
 go_wp2_with (first
  | (refine wpList_op_by rfl (run_of_build (parts:=#[]) (parts':=#[]) rfl rfl built_zbd) ?_;simp only [Act.put,List.setIfInBounds_toArray,List.set_cons_succ,List.set_cons_zero])
  | (refine wpList_store_by HST.out rfl rfl rfl rfl ?_;simp only [Act.put,List.setIfInBounds_toArray,List.set_cons_succ,List.set_cons_zero])
  | fail)
 refine bodyPost_ret (v:=.tuple #[.agg zbd,.int .i64 2]) (ret_cell2 (fn:=Tryz.f9) (p:=6) (q:=7) rfl rfl HK6.out Tryz.underlying33 rfl (by rw [size_board];rfl)) rfl ?_
 exact ⟨rfl,HB6.out⟩
set_option maxHeartbeats 1600000 in
theorem rhas_any (A:Option Addr) (n c:Nat) (l:List Int) (x:Int) (w:World) (hx:Reads w 1 A n (ics l)) (hn:n ≤ 100000) :
  Calls Tryz.prog 35 #[.slice A n c,.int .i64 x] w fun e w' => e = .returned (.bool (decide (x ∈ l))) ∧ w = w':=by
 have HX:=Lib.hid hx
 have HL:=Lib.hid (ilen hx)
 clear hx
 go_enter Tryz.func35,Tryz.ntmps35
 go_wp2_with fail
 go_loopw [5] (fun i W => ∃ k:Nat,k ≤ n ∧ i = .int .i64 k ∧ W = w ∧ Hid (x ∉ l.take k)) (fun i _ => n - (intOf i).toNat)
 case atStart => exact ⟨0,Nat.zero_le _,rfl,rfl,Lib.hid (by simp)⟩
 case round =>
  obtain ⟨k,hk,rfl,rfl,HI⟩:=hrel
  by_cases hkn:k < n
  ·have hkn':(k:Int) < n:=by omega
   obtain ⟨ad,rfl,-,c0⟩:=int_at HX.out hkn
   have hg0:=ith_get (xs:=l) (k:=k) (by rw [HL.out];exact hkn)
   obtain ⟨y,hy⟩:∃ y,ith l k = y:=⟨_,rfl⟩
   rw [hy] at hg0 c0
   have HG:=Lib.hid hg0
   clear hg0 hy
   by_cases hxy:y = x
   ·have HM:Hid (x ∈ l):=Lib.hid (by rw [← hxy];exact List.mem_of_getElem? HG.out)
    have hb:(y == x) = true:=by simp [hxy]
    clear hxy
    go_wp2_with fail
    go_ret
    exact ⟨by rw [decide_eq_true HM.out];rfl,rfl⟩
   ·have HN:Hid (x ∉ l.take (k + 1)):=Lib.hid (by rw [take_snoc HG.out,List.mem_append,List.mem_singleton];rintro (h | h);exact HI.out h;exact hxy h.symm)
    have hb:(y == x) = false:=by simp [hxy]
    clear hxy
    go_wp2_with fail
    go_roundw
    case rel => exact ⟨k + 1,hkn,by go_num,trivial,HN⟩
    case measure => simp [intOf];omega
  ·have HN:Hid (x ∉ l):=Lib.hid (by have h:=HI.out;rwa [List.take_of_length_le (by rw [HL.out];omega)] at h)
   go_wp2_with fail
   go_ret
   exact ⟨by rw [decide_eq_false HN.out];rfl,rfl⟩

structure DvR (W:World) (A:Option Addr) (n c:Nat) (us:List Int) (k:Nat):Prop where
 r:Reads W 1 A n (ucs (us.drop k))
 ln:n = us.length - k
 cp:n ≤ c ∧ c ≤ 9223372036854775807
theorem DvR.below {W W':World} {A:Option Addr} {n c k:Nat} {us:List Int} (h:DvR W A n c us k) (hb:Below W.heap.size W W'):DvR W' A n c us k:=⟨h.r.below hb,h.ln,h.cp⟩
theorem DvR.head {W:World} {A:Option Addr} {n c k:Nat} {us:List Int} (h:DvR W A n c us k) (hn:0 < n):∃ ad,A = some ad ∧ ad.block < W.heap.size ∧ W.cell? ad = some (.int .u64 (ith us k)):=by
 obtain ⟨ad,e,hb,hc⟩:=h.r.2 hn
 refine ⟨ad,e,hb,?_⟩
 have hk:k < us.length:=by have:=h.ln;omega
 have h1:=hc 0 (.int .u64 (ith us k)) (by rw [ucs,List.getElem?_map,List.getElem?_drop,Nat.add_zero,ith_get hk];rfl)
 rw [Addr.add_zero'] at h1
 exact h1
theorem DvR.tail {W:World} {ad:Addr} {A':Option Addr} {n c k:Nat} {us:List Int} (h:DvR W (some ad) n c us k) (hn:0 < n) (hA:A' = some (ad.add 1) ∨ n = 1):DvR W A' (n - 1) (c - 1) us (k + 1):=by
 refine ⟨⟨?_,fun h0 => ?_⟩,by have:=h.ln;omega,by have:=h.cp;omega⟩
 ·have:=h.ln
  simp [ucs]
  omega
 ·obtain ⟨a0,e,hb,hc⟩:=h.r.2 hn
  injection e with e
  subst e
  rcases hA with rfl | h1
  ·refine ⟨_,rfl,by rw [ablk];exact hb,fun j u hu => ?_⟩
   have h2:=hc (1 + j) u (by
    rw [ucs,List.getElem?_map,List.getElem?_drop] at hu ⊢
    rw [← hu]
    congr 2
    omega)
   rw [Addr.add_add]
   exact h2
  ·omega
set_option maxRecDepth 100000 in
theorem size_draws:(Tryz.prog.info? 78).map (·.size) = some 2:=by decide +kernel
theorem built_draws (A:Option Addr) (n c:Nat) (u:Int):Tryz.prog.built 78 [(0,.slice A n c),(1,.int .i64 u)] = some #[.slice A n c,.int .i64 u]:=by kernel_rfl
set_option maxRecDepth 100000 in
set_option maxHeartbeats 3200000 in
theorem rch_r0 (W:World) (g2 g4:Nat) (ad:Addr) (used:Nat) (u bound r:Int) (cr:Array Value) (h2:Blk W g2 78 #[.slice (some ad) 1 1,.int .i64 used]) (h4:Blk W g4 78 cr) (hcr:cr.size = 2) (hne:g2 ≠ g4) (hadl:ad.block < W.heap.size) (hlt2:ad.block < g4) (hu:W.cell? ad = some (.int .u64 u)) (hu1:used ≤ 1000000) (hb:1 ≤ bound ∧ bound ≤ 1000000) (hw:0 ≤ u ∧ u ≤ 18446744073709551615) (hr:u % bound = r) (Q:Exit → Act → World → Prop) (t0 t3 t5 t6 t7 t8 t9 t10 t11 t12 t13 t14 t15 t16 t17 t18 t19 t20:Value)
  (hQ:∀ d v c a w,Q (.panic c) (Act.put a d v) w → Q (.panic c) a w)
  (hK:∀ (u6 u7 u8 u9 u10 u11 u12 u13 u14 u15 u16 u17 u18 u19 u20:Value)  (W9:World),Blk W9 g4 78 #[.slice (some ad) 0 0,.int .i64 ((used + 1:Nat):Int)] ∧ W.grownBy W9 (some g4) → Q .normal ⟨#[t0,.int .i64 bound,.pointer (some ⟨g2,0,none⟩),t3,.pointer (some ⟨g4,0,none⟩),.int .i64 r,u6,u7,u8,u9,u10,u11,u12,u13,u14,u15,u16,u17,u18,u19,u20],[]⟩ W9) :
  Code.wp Tryz.prog (regOf Tryz.f70 1) Q ⟨#[t0,.int .i64 bound,.pointer (some ⟨g2,0,none⟩),t3,.pointer (some ⟨g4,0,none⟩),t5,t6,t7,t8,t9,t10,t11,t12,t13,t14,t15,t16,t17,t18,t19,t20],[]⟩ W:=by
 have HKK:=Lib.hid hK
 clear hK
 conv => arg 2;whnf
 have hb64:IntKind.u64.wrap bound = bound:=IntWalk.u64_in _ (by omega)
 have hr0:0 ≤ r ∧ r < bound:=by rw [← hr];exact ⟨Int.emod_nonneg _ (by omega),Int.emod_lt_of_pos _ (by omega)⟩
 have hrem:u.tmod bound = r:=by rw [← hr];exact Int.tmod_eq_emod_of_nonneg hw.1
 have hi1:IntKind.i64.wrap ((used:Int) + 1) = ((used + 1:Nat):Int):=IntWalk.i64_in _ (by omega)
 have hr64:IntKind.u64.wrap r = r:=IntWalk.u64_in _ (by omega)
 have hri:IntKind.i64.wrap r = r:=IntWalk.i64_in _ (by omega)
 have hbz:¬ bound = 0:=by omega
 have HBU:Hid (True → Tryz.prog.built 78 [(0,.slice (some ad) 0 0),(1,.int .i64 ((used + 1:Nat):Int))] = some #[.slice (some ad) 0 0,.int .i64 ((used + 1:Nat):Int)]):=Lib.hid (fun _ => built_draws _ _ _ _)
 have HP:=Lib.hid (And.intro h2 hu)
 have H4:=Lib.hid h4
 have HQ:=Lib.hid hQ
 have HCR:=Lib.hid (And.intro hcr hne)
 have hne_:Nonempty (In (fun W' => Blk W' g2 78 #[.slice (some ad) 1 1,.int .i64 used] ∧ W'.cell? ad = some (.int .u64 u))):=⟨⟨W,h2,hu⟩⟩
 have x0:∀ s:In (fun W' => Blk W' g2 78 #[.slice (some ad) 1 1,.int .i64 used] ∧ W'.cell? ad = some (.int .u64 u)),s.W.cell? ⟨g2,0,none⟩ = some (.slice (some ad) 1 1):=fun s => (s.h.1.at_ 0).trans rfl
 have x1:∀ s:In (fun W' => Blk W' g2 78 #[.slice (some ad) 1 1,.int .i64 used] ∧ W'.cell? ad = some (.int .u64 u)),s.W.cell? ⟨g2,1,none⟩ = some (.int .i64 used):=fun s => (s.h.1.at_ 1).trans rfl
 have x2:∀ s:In (fun W' => Blk W' g2 78 #[.slice (some ad) 1 1,.int .i64 used] ∧ W'.cell? ad = some (.int .u64 u)),s.W.cell? ad = some (.int .u64 u):=fun s => s.h.2
 clear h2 h4 hu hQ hcr hne hw hr hr0 hb
 refine wp_region_sched (fun w' => ∃ s:In (fun W' => Blk W' g2 78 #[.slice (some ad) 1 1,.int .i64 used] ∧ W'.cell? ad = some (.int .u64 u)),w' = s.W) [0,1,2,3,4,5,6,7,8,9,10,11,12,13,14] (.one 15 [16] .done) (by kernel_rfl) (by kernel_rfl) HQ.out ⟨⟨_,⟨HP.out.1.drew,HP.out.2⟩⟩,rfl⟩ ?_
 refine quiet_as (C':=(fun w' => ∃ s:In (fun W' => Blk W' g2 78 #[.slice (some ad) 1 1,.int .i64 used] ∧ W'.cell? ad = some (.int .u64 u)),w' = s.W)) rfl ?_
 simp only [opsAt,List.getElem?_toArray,List.getElem?_cons_succ,List.getElem?_cons_zero]
 repeat (go_big_quiet_step (fail))
 refine wpQuiet_nil ?_
 obtain ⟨W_d,hwd⟩:∃ v,W.drew = v:=⟨_,rfl⟩
 have HBW_1:Hid (Below W.heap.size W W_d):=Lib.hid (by rw [← hwd];exact (Below.refl _ _).drew)
 have HBR_1:Hid (Below W.heap.size W W_d):=Lib.hid (by rw [← hwd];exact (Below.refl _ _).drew)
 have P2_1:=Lib.hid ((HP.out.1).call (show Below W.heap.size W W_d by rw [← hwd];exact (Below.refl _ _).drew))
 have R4_1:=Lib.hid ((H4.out).call (show Below W.heap.size W W_d by rw [← hwd];exact (Below.refl _ _).drew))
 have PU_1:=Lib.hid (((show Below W.heap.size W W_d by rw [← hwd];exact (Below.refl _ _).drew).cell hadl).trans (HP.out.2))
 rw [hwd]
 clear hwd
 refine eff_as (C':=(fun w' => ∃ s:In (fun W' => Blk W' g2 78 #[.slice (some ad) 1 1,.int .i64 used] ∧ W'.cell? ad = some (.int .u64 u)),w' = s.W)) rfl ?_
 (refine eff_lit rfl rfl (fun K hK => ?_))
 obtain ⟨W_2,hrun,hk9,hg9⟩:=R4_1.out.storeAll (ty:=78) [.slice (some ad) 0 0,.int .i64 ((used + 1:Nat):Int)] (by rw [HCR.out.1];rfl) (by rw [size_draws];rfl) (by simp [Value.oneCell'])
 refine wp_store_by hrun rfl rfl rfl ?_
 simp only [Act.put,List.setIfInBounds_toArray,List.set_cons_succ,List.set_cons_zero]
 clear hrun
 have HK9:=Lib.hid hk9
 have HG9:=Lib.hid (show W.grownBy W_2 (some g4) from only_trans_ (grownBy_below_ HBR_1.out) hg9)
 have HM9:Hid (Blk W_2 g2 78 #[.slice (some ad) 1 1,.int .i64 used] ∧ W_2.cell? ad = some (.int .u64 u)):=Lib.hid ⟨P2_1.out.grown hg9 (fun e => by injection e with e;exact HCR.out.2 e),((((Below.refl g4 _).grown hg9 (Nat.le_of_lt R4_1.out.lt) (fun q hq => by injection hq with hq;omega)).cell hlt2).trans PU_1.out)⟩
 clear hk9 hg9
 refine hK _ _ ⟨⟨_,HM9.out⟩,rfl⟩ ?_
 clear hK K
 try simp only [opsAt,List.getElem?_toArray,List.getElem?_cons_succ,List.getElem?_cons_zero]
 try simp only [Act.put]
 repeat (go_big_quiet_step (fail))
 refine wpQuiet_nil ?_
 refine effs_done ?_
 exact HKK.out _ _ _ _ _ _ _ _ _ _ _ _ _ _ _ _ ⟨HK9.out,HG9.out⟩

set_option maxRecDepth 100000 in
set_option maxHeartbeats 3200000 in
theorem rch_r1 (W:World) (g2 g4:Nat) (ad:Addr) (used:Nat) (u bound r:Int) (n c:Nat) (cr:Array Value) (h2:Blk W g2 78 #[.slice (some ad) n c,.int .i64 used]) (h4:Blk W g4 78 cr) (hcr:cr.size = 2) (hne:g2 ≠ g4) (hadl:ad.block < W.heap.size) (hlt2:ad.block < g4) (hu:W.cell? ad = some (.int .u64 u)) (hn:0 < n) (hnc:n ≤ c) (hc9:c ≤ 9223372036854775807) (hc1:c ≠ 1) (hu1:used ≤ 1000000) (hb:1 ≤ bound ∧ bound ≤ 1000000) (hw:0 ≤ u ∧ u ≤ 18446744073709551615) (hr:u % bound = r) (Q:Exit → Act → World → Prop) (t0 t3 t5 t6 t7 t8 t9 t10 t11 t12 t13 t14 t15 t16 t17 t18 t19 t20:Value)
  (hQ:∀ d v c a w,Q (.panic c) (Act.put a d v) w → Q (.panic c) a w)
  (hK:∀ (u6 u7 u8 u9 u10 u11 u12 u13 u14 u15 u16 u17 u18 u19 u20:Value)  (W9:World),Blk W9 g4 78 #[.slice (some ⟨ad.block,ad.off + 1,none⟩) (n - 1) (c - 1),.int .i64 ((used + 1:Nat):Int)] ∧ W.grownBy W9 (some g4) → Q .normal ⟨#[t0,.int .i64 bound,.pointer (some ⟨g2,0,none⟩),t3,.pointer (some ⟨g4,0,none⟩),.int .i64 r,u6,u7,u8,u9,u10,u11,u12,u13,u14,u15,u16,u17,u18,u19,u20],[]⟩ W9) :
  Code.wp Tryz.prog (regOf Tryz.f70 1) Q ⟨#[t0,.int .i64 bound,.pointer (some ⟨g2,0,none⟩),t3,.pointer (some ⟨g4,0,none⟩),t5,t6,t7,t8,t9,t10,t11,t12,t13,t14,t15,t16,t17,t18,t19,t20],[]⟩ W:=by
 have HKK:=Lib.hid hK
 clear hK
 conv => arg 2;whnf
 have hb64:IntKind.u64.wrap bound = bound:=IntWalk.u64_in _ (by omega)
 have hr0:0 ≤ r ∧ r < bound:=by rw [← hr];exact ⟨Int.emod_nonneg _ (by omega),Int.emod_lt_of_pos _ (by omega)⟩
 have hrem:u.tmod bound = r:=by rw [← hr];exact Int.tmod_eq_emod_of_nonneg hw.1
 have hi1:IntKind.i64.wrap ((used:Int) + 1) = ((used + 1:Nat):Int):=IntWalk.i64_in _ (by omega)
 have hr64:IntKind.u64.wrap r = r:=IntWalk.u64_in _ (by omega)
 have hri:IntKind.i64.wrap r = r:=IntWalk.i64_in _ (by omega)
 have hbz:¬ bound = 0:=by omega
 have hcF:(c = 1) = False:=eq_false hc1
 have hn0:(0:Int) < n:=by omega
 have hn1:(1:Int) ≤ n:=by omega
 have HBU:Hid (True → Tryz.prog.built 78 [(0,.slice (some ⟨ad.block,ad.off + 1,none⟩) (n - 1) (c - 1)),(1,.int .i64 ((used + 1:Nat):Int))] = some #[.slice (some ⟨ad.block,ad.off + 1,none⟩) (n - 1) (c - 1),.int .i64 ((used + 1:Nat):Int)]):=Lib.hid (fun _ => built_draws _ _ _ _)
 have HP:=Lib.hid (And.intro h2 hu)
 have H4:=Lib.hid h4
 have HQ:=Lib.hid hQ
 have HCR:=Lib.hid (And.intro hcr hne)
 have hne_:Nonempty (In (fun W' => Blk W' g2 78 #[.slice (some ad) n c,.int .i64 used] ∧ W'.cell? ad = some (.int .u64 u))):=⟨⟨W,h2,hu⟩⟩
 have x0:∀ s:In (fun W' => Blk W' g2 78 #[.slice (some ad) n c,.int .i64 used] ∧ W'.cell? ad = some (.int .u64 u)),s.W.cell? ⟨g2,0,none⟩ = some (.slice (some ad) n c):=fun s => (s.h.1.at_ 0).trans rfl
 have x1:∀ s:In (fun W' => Blk W' g2 78 #[.slice (some ad) n c,.int .i64 used] ∧ W'.cell? ad = some (.int .u64 u)),s.W.cell? ⟨g2,1,none⟩ = some (.int .i64 used):=fun s => (s.h.1.at_ 1).trans rfl
 have x2:∀ s:In (fun W' => Blk W' g2 78 #[.slice (some ad) n c,.int .i64 used] ∧ W'.cell? ad = some (.int .u64 u)),s.W.cell? ad = some (.int .u64 u):=fun s => s.h.2
 clear h2 h4 hu hQ hcr hne hw hr hr0 hb
 refine wp_region_sched (fun w' => ∃ s:In (fun W' => Blk W' g2 78 #[.slice (some ad) n c,.int .i64 used] ∧ W'.cell? ad = some (.int .u64 u)),w' = s.W) [0,1,2,3,4,5,6,7,8,9,10,11,12,13,14] (.one 15 [16] .done) (by kernel_rfl) (by kernel_rfl) HQ.out ⟨⟨_,⟨HP.out.1.drew,HP.out.2⟩⟩,rfl⟩ ?_
 refine quiet_as (C':=(fun w' => ∃ s:In (fun W' => Blk W' g2 78 #[.slice (some ad) n c,.int .i64 used] ∧ W'.cell? ad = some (.int .u64 u)),w' = s.W)) rfl ?_
 simp only [opsAt,List.getElem?_toArray,List.getElem?_cons_succ,List.getElem?_cons_zero]
 repeat (go_big_quiet_step (fail))
 refine wpQuiet_nil ?_
 obtain ⟨W_d,hwd⟩:∃ v,W.drew = v:=⟨_,rfl⟩
 have HBW_1:Hid (Below W.heap.size W W_d):=Lib.hid (by rw [← hwd];exact (Below.refl _ _).drew)
 have HBR_1:Hid (Below W.heap.size W W_d):=Lib.hid (by rw [← hwd];exact (Below.refl _ _).drew)
 have P2_1:=Lib.hid ((HP.out.1).call (show Below W.heap.size W W_d by rw [← hwd];exact (Below.refl _ _).drew))
 have R4_1:=Lib.hid ((H4.out).call (show Below W.heap.size W W_d by rw [← hwd];exact (Below.refl _ _).drew))
 have PU_1:=Lib.hid (((show Below W.heap.size W W_d by rw [← hwd];exact (Below.refl _ _).drew).cell hadl).trans (HP.out.2))
 rw [hwd]
 clear hwd
 refine eff_as (C':=(fun w' => ∃ s:In (fun W' => Blk W' g2 78 #[.slice (some ad) n c,.int .i64 used] ∧ W'.cell? ad = some (.int .u64 u)),w' = s.W)) rfl ?_
 (refine eff_lit rfl rfl (fun K hK => ?_))
 obtain ⟨W_2,hrun,hk9,hg9⟩:=R4_1.out.storeAll (ty:=78) [.slice (some ⟨ad.block,ad.off + 1,none⟩) (n - 1) (c - 1),.int .i64 ((used + 1:Nat):Int)] (by rw [HCR.out.1];rfl) (by rw [size_draws];rfl) (by simp [Value.oneCell'])
 refine wp_store_by hrun rfl rfl rfl ?_
 simp only [Act.put,List.setIfInBounds_toArray,List.set_cons_succ,List.set_cons_zero]
 clear hrun
 have HK9:=Lib.hid hk9
 have HG9:=Lib.hid (show W.grownBy W_2 (some g4) from only_trans_ (grownBy_below_ HBR_1.out) hg9)
 have HM9:Hid (Blk W_2 g2 78 #[.slice (some ad) n c,.int .i64 used] ∧ W_2.cell? ad = some (.int .u64 u)):=Lib.hid ⟨P2_1.out.grown hg9 (fun e => by injection e with e;exact HCR.out.2 e),((((Below.refl g4 _).grown hg9 (Nat.le_of_lt R4_1.out.lt) (fun q hq => by injection hq with hq;omega)).cell hlt2).trans PU_1.out)⟩
 clear hk9 hg9
 refine hK _ _ ⟨⟨_,HM9.out⟩,rfl⟩ ?_
 clear hK K
 try simp only [opsAt,List.getElem?_toArray,List.getElem?_cons_succ,List.getElem?_cons_zero]
 try simp only [Act.put]
 repeat (go_big_quiet_step (fail))
 refine wpQuiet_nil ?_
 refine effs_done ?_
 exact HKK.out _ _ _ _ _ _ _ _ _ _ _ _ _ _ _ _ ⟨HK9.out,HG9.out⟩

end Go.Proofs.YtagpphelgghbpaaGreat
