/-
  Texts: Kn, Hsa.
-/
import Derived.Test.YtagpphelgghbpaaGreatMk37
import Derived.Test.YtagpphelgghbpaaGreatMk39
set_option linter.unusedSimpArgs false
set_option linter.unusedVariables false
namespace Go.Proofs.YtagpphelgghbpaaGreat
open Go.RowKit

theorem bdW_valid {b:Bd} (hv:b.Valid):BdW b:=by
 have hm:=bd_sm hv
 have hob:=obs_ok hv.2.2.2.2.2.1
 have hid:∀ i,(∃ o ∈ b.objs,o.id = i) → wfI i:=fun i hi => by
  obtain ⟨o,ho,rfl⟩:=hi
  have:=hob.1 o ho
  unfold wfI
  omega
 have hfl:∀ p i,i ∈ b.fld p → wfI i:=fun p i hi => by
  unfold Bd.fld at hi
  split at hi
  ·exact hid i (hm.s0.Fi i hi)
  ·exact hid i (hm.s1.Fi i hi)
 have hit:∀ q x,itOk q x = true → wfX x:=fun q x h => by
  have h1:=itOk_wf h
  unfold itN at h1
  exact ⟨h1 _ (by simp),h1 _ (by simp),h1 _ (by simp),h1 _ (by simp)⟩
 refine ⟨fun o ho => ?_,fun q hq => ?_,fun x hx => hit _ x (List.all_eq_true.1 hv.2.2.2.1 x hx),fun x hx => hit _ x (List.all_eq_true.1 hv.2.2.2.2.1 x hx),fun x hx => ?_⟩
 ·have h1:=obOk_wf (hv.2.2.2.2.2.1.2.1 o ho).1
  exact ⟨h1 _ (by simp [obN]),h1 _ (by simp [obN]),h1 _ (by simp [obN])⟩
 ·rcases (show q = 0 ∨ q = 1 ∨ q = 2 ∨ q = 3 ∨ q = 4 ∨ q = 5 ∨ q = 6 ∨ q = 7 ∨ q = 8 by omega) with rfl | rfl | rfl | rfl | rfl | rfl | rfl | rfl | rfl
  ·exact fun x hx => hid x (hm.s0.Li x hx)
  ·exact fun x hx => hid x (hm.s0.Hi x hx)
  ·exact fun x hx => hid x (hm.s0.Fi x hx)
  ·exact fun x hx => hid x (hm.s0.Gi x hx)
  ·exact fun x hx => hid x (hm.s1.Li x hx)
  ·exact fun x hx => hid x (hm.s1.Hi x hx)
  ·exact fun x hx => hid x (hm.s1.Fi x hx)
  ·exact fun x hx => hid x (hm.s1.Gi x hx)
  ·exact fun x hx => hfl _ x (hv.2.2.2.2.2.2.2.1 x hx)
 ·have h9:=hv.2.2.2.2.2.2.2.2.2.2 x hx
  exact ⟨hfl _ _ (hv.2.2.2.2.2.2.2.1 _ h9.1),hfl _ _ h9.2⟩
theorem plc_small {b:Bd} (hv:b.Valid):b.plc.length < 9223372036854775807:=by
 have h1:=hv.2.2.2.2.2.1.2.2.2
 have h2:=(bd_sm hv).O
 omega
theorem flat_mix {b:Bd} {k:Nat} (hk:k < 2) (hv:b.Valid) {us:List Int} {l:List Ob} (hm:mixO (hidB b k) us b.objs = some l):flatB { b with objs:=l } k = flatB b k:=by
 obtain ⟨h1,h2⟩:=mix_pu hk hv hm
 unfold flatB
 rw [h1]
 rw [show ({ b with objs:=l }:Bd).objs = l from rfl,h2]
def kxO (i c p:Int):Ob:=⟨i,c,p,0,0,0,0,0,0,false,false,false⟩
def kxB:Bd:=⟨[kxO 1 5 0,kxO 2 7 0,kxO 3 9 1,kxO 4 8 1],{ zse with life:=20,lib:=[1,2] },{ zse with life:=20,lib:=[3,4] },[],[],[],[],0,0,0,-1,0⟩
theorem kx_new:nbS 20 20 [5,7] [9,8] (([5,7]:List Int).length + ([9,8]:List Int).length) = kxB:=by rfl
theorem kx_v:kxB.Valid:=by unfold Bd.Valid plcP figP;decide
def kxL:List Ob:=[kxO 1 7 0,kxO 2 5 0,kxO 3 8 1,kxO 4 9 1]
theorem kx_m0:mixO (hidB kxB 0) [0,0] kxB.objs = some kxL:=by decide
theorem kx_m1:mixO (hidB kxB 0) [1,1] kxB.objs = some kxB.objs:=by decide
theorem kx_m2:mixO (hidB kxB 0) [1] kxB.objs = none:=by decide
def kxM:Bd:=movB kxB 1 0 (kxO 1 5 0)
theorem kx_mv:kxM.Valid:=by unfold Bd.Valid plcP figP;decide
theorem kx_ne:decide (flatB kxB 0 = flatB kxM 0) = false:=by decide
theorem board_load {W:World} {g:Nat} {b:Bd} {m:BdM} (h:Blk W g 33 (b.cells m).toArray):(Instr.loadAt 33 (.pointer (some ⟨g,0,none⟩))).run Tryz.prog W = .ok (.agg (b.cells m).toArray) W:=h.mid (b.cells m) _ (fun j v hj => by rw [Nat.zero_add];simpa using hj) Tryz.underlying33 rfl (by rw [size_board];rfl)
set_option maxRecDepth 100000 in
theorem built_decks (A B:Option Addr) (n c k d:Nat):Tryz.prog.built 57 [(0,.slice A n c),(1,.slice B k d)] = some #[.slice A n c,.slice B k d]:=by kernel_rfl
theorem mixe_ok {b:Bd} {m:BdM} {w:World} {k:Nat} (hk:k < 2) (hR:BdR w b m) (hv:b.Valid) {UA:Option Addr} {nu Uc:Nat} {us:List Int} (hU:Reads w 1 UA nu (ucs us)) (hnu:nu ≤ 65536) (hus:∀ i,i < us.length → 0 ≤ ith us i ∧ ith us i ≤ 18446744073709551615) {l:List Ob} (hm:mixO (hidB b k) us b.objs = some l) :
  Calls Tryz.prog 9 #[.agg (b.cells m).toArray,.int .i64 k,.slice UA nu Uc] w fun e w' => ∃ m',e = .returned (.tuple #[.agg (Bd.cells { b with objs:=l } m').toArray,.int .i64 0]) ∧ BdO w' w.heap.size { b with objs:=l } m' ∧ Below w.heap.size w w':=by
 refine (mix_any b m w k hk hR (plc_small hv) hv UA nu Uc us hU hnu hus).mono ?_
 rintro e w' ⟨hb,⟨h,_⟩ | ⟨l',m',h,rfl,ho⟩⟩
 ·rw [hm] at h
  cases h
 ·rw [hm] at h
  injection h with h
  subst h
  exact ⟨m',rfl,ho,hb⟩
theorem mixes_ok {b:Bd} {m:BdM} {w:World} {k:Nat} (hk:k < 2) (hR:BdR w b m) (hv:b.Valid) {UA:Option Addr} {nu Uc:Nat} {us:List Int} (hU:Reads w 1 UA nu (ucs us)) (hnu:nu ≤ 65536) (hus:∀ i,i < us.length → 0 ≤ ith us i ∧ ith us i ≤ 18446744073709551615) {l:List Ob} (hm:mixO (hidB b k) us b.objs = some l) {WA:Option Addr} {nw Wc:Nat} {want:List Int} (hW:Reads w 1 WA nw (ics want)) (he:l.map Ob.card = want) :
  Calls Tryz.prog 20 #[.agg (b.cells m).toArray,.int .i64 k,.slice UA nu Uc,.int .i64 0,.slice WA nw Wc] w fun e w' => e = .returned (.bool true) ∧ Below w.heap.size w w':=by
 have hl:=(mix_laws hk hv hm).2.2.1
 refine (mixes_any (b.cells m).toArray k (.slice UA nu Uc) 0 0 WA nw Wc want w { b with objs:=l } (by show l.length ≤ 500;rw [hl];exact (bd_sm hv).O) hW (fun W hb => ?_) rfl).mono ?_
 ·refine (mixe_ok hk (hR.below hb) hv (hU.below hb) hnu hus hm).mono ?_
  rintro e w' ⟨m',rfl,ho,hb'⟩
  exact ⟨m',rfl,ho.O.reads,hb'⟩
 ·rintro e w' ⟨rfl,hb⟩
  refine ⟨?_,hb⟩
  rw [show (({ b with objs:=l }:Bd).objs.map Ob.card) = want from he,decide_eq_true rfl]
  rfl
theorem mixes_end {b:Bd} {m:BdM} {w:World} {k:Nat} (hk:k < 2) (hR:BdR w b m) (hv:b.Valid) {UA:Option Addr} {nu Uc:Nat} {us:List Int} (hU:Reads w 1 UA nu (ucs us)) (hnu:nu ≤ 65536) (hus:∀ i,i < us.length → 0 ≤ ith us i ∧ ith us i ≤ 18446744073709551615) (hm:mixO (hidB b k) us b.objs = none) :
  Calls Tryz.prog 20 #[.agg (b.cells m).toArray,.int .i64 k,.slice UA nu Uc,.int .i64 16,.slice none 0 0] w fun e w' => e = .returned (.bool true) ∧ Below w.heap.size w w':=by
 refine (mixes_any (b.cells m).toArray k (.slice UA nu Uc) 16 16 none 0 0 [] w zB (by decide) ⟨rfl,fun h => absurd h (by decide)⟩ (fun W hb => ?_) rfl).mono ?_
 ·refine (mix_any b m W k hk (hR.below hb) (plc_small hv) hv UA nu Uc us (hU.below hb) hnu hus).mono ?_
  rintro e w' ⟨hb',⟨_,rfl⟩ | ⟨l',m',h,_⟩⟩
  ·exact ⟨zM,by rw [zbd_eq],⟨rfl,fun h => absurd h (by decide)⟩,hb'⟩
  ·rw [hm] at h
   cases h
 ·rintro e w' ⟨rfl,hb⟩
  exact ⟨rfl,hb⟩
theorem mixes_bad (cs:Array Value) (hcs:cs.size = 38) (w:World) :
  Calls Tryz.prog 20 #[.agg cs,.int .i64 2,.slice none 0 0,.int .i64 2,.slice none 0 0] w fun e w' => e = .returned (.bool true) ∧ Below w.heap.size w w':=by
 refine (mixes_any cs 2 (.slice none 0 0) 2 2 none 0 0 [] w zB (by decide) ⟨rfl,fun h => absurd h (by decide)⟩ (fun W hb => ?_) hcs).mono ?_
 ·refine (mix2 cs hcs (.slice none 0 0) W).mono ?_
  rintro e w' ⟨rfl,hb'⟩
  exact ⟨zM,by rw [zbd_eq],⟨rfl,fun h => absurd h (by decide)⟩,hb'⟩
 ·rintro e w' ⟨rfl,hb⟩
  exact ⟨rfl,hb⟩
set_option maxRecDepth 100000 in
set_option maxHeartbeats 3200000 in
theorem known_any (w:World):Calls Tryz.prog 7 #[] w fun e w' => e = .returned (.bool true) ∧ Below w.heap.size w w':=by
 obtain ⟨w1,hw1⟩:∃ w1,w.alloc (.cells #[.int .i64 5,.int .i64 7] 3) = w1:=⟨_,rfl⟩
 obtain ⟨w2,hw2⟩:∃ w2,w1.alloc (.cells #[.int .i64 9,.int .i64 8] 3) = w2:=⟨_,rfl⟩
 obtain ⟨gE,hgE⟩:∃ g,w1.heap.size = g:=⟨_,rfl⟩
 have hb1:Below w.heap.size w w1:=by rw [← hw1];exact (Below.refl _ _).alloc (Nat.le_refl _) _
 have hb2:Below w1.heap.size w1 w2:=by rw [← hw2];exact (Below.refl _ _).alloc (Nat.le_refl _) _
 have hk1:Blk w1 w.heap.size 3 #[.int .i64 5,.int .i64 7]:=by rw [← hw1];exact Blk.mk_ w _ _ _ rfl
 have hk2:Blk w2 gE 3 #[.int .i64 9,.int .i64 8]:=by rw [← hw2];exact Blk.mk_ w1 _ _ _ hgE
 have HB2:=Lib.hid (below_call hb1 hb2 hb1.size)
 have HNW:Hid (Calls Tryz.prog 19 #[.int .i64 20,.agg #[.slice (some ⟨w.heap.size,0,none⟩) 2 2,.slice (some ⟨gE,0,none⟩) 2 2]] w2 (NewEnd 20 [5,7] [9,8] w2)):=Lib.hid (new_any 20 [5,7] [9,8] _ _ 2 2 2 2 w2 rfl (reads_block (hk1.call hb2) 1 2 rfl) (reads_block hk2 1 2 rfl) (by decide) (by decide))
 unfold NewEnd at HNW
 rw [kx_new] at HNW
 have hus:∀ (a:Int) (l:List Int),l = [0,0] ∨ l = [1,1] ∨ l = [1] → ∀ i,i < l.length → 0 ≤ ith l i ∧ ith l i ≤ 18446744073709551615:=by
  rintro a l h i hi
  have h1:ith l i ∈ l:=ith_mem hi
  rcases h with rfl | rfl | rfl <;> simp at h1 <;> omega
 have HUS:=Lib.hid (hus 0)
 clear hb1 hb2 hk1 hk2 hus
 go_enter Tryz.func7,Tryz.ntmps7
 go_wp2_with (first
  | (refine wpList_op_by rfl (run_of_build (parts:=#[(0,.tmp 7),(1,.tmp 8)]) (parts':=#[(0,.slice (some ⟨w.heap.size,0,none⟩) 2 2),(1,.slice (some ⟨gE,0,none⟩) 2 2)]) rfl (by first | rfl | simp [Act.eval]) (built_decks _ _ _ _ _ _)) ?_;simp only [Act.put,List.setIfInBounds_toArray,List.set_cons_succ,List.set_cons_zero])
  | fail)
 refine HNW.out.mono ?_
 rintro e w3 ⟨m1,rfl,ho3,hb3⟩
 have hR3:=ho3.isR (bdW_valid kx_v)
 have HB3:=Lib.hid (below_call HB2.out hb3 HB2.out.size)
 clear ho3 hb3 hw1 hw2 hgE
 obtain ⟨cs,hcs⟩:∃ x,(kxB.cells m1).toArray = x:=⟨_,rfl⟩
 have HCS:=Lib.hid hcs
 obtain ⟨g1,hg1⟩:∃ x,w3.heap.size = x:=⟨_,rfl⟩
 obtain ⟨zb,hzb⟩:∃ x,zbd = x:=⟨_,rfl⟩
 have hzl:zb.size = 38:=by rw [← hzb];rfl
 obtain ⟨w4,hst4,hk4,hg4⟩:=(Blk.mk_ w3 33 zb g1 hg1).storeAll (ty:=33) (kxB.cells m1) (by rw [hzl];rfl) (by rw [size_board];rfl) (one_bd _ _)
 have hb34:Below w3.heap.size w3 w4:=((Below.refl _ _).alloc (Nat.le_refl _) _).grown hg4 (by simp) (fun q hq => by injection hq with hq;omega)
 have HB4:=Lib.hid (below_call HB3.out hb34 HB3.out.size)
 have HR4:=Lib.hid (hR3.below hb34)
 have HK4:=Lib.hid hk4
 rw [← hzb,hcs] at hst4
 unfold zbd at hst4
 have HST4:=Lib.hid hst4
 have HLD:Hid (∀ W,Blk W g1 33 (kxB.cells m1).toArray → (Instr.loadAt 33 (.pointer (some ⟨g1,0,none⟩))).run Tryz.prog W = .ok (.agg cs) W):=Lib.hid (fun W h => by rw [← hcs];exact board_load h)
 rw [hcs]
 have hcz:cs.size = 38:=by rw [← hcs];rfl
 have HCZ:=Lib.hid hcz
 clear hR3 hst4 hk4 hg4 hb34 hzb hzl hcs hcz
 obtain ⟨w5,hw5⟩:∃ x,w4.alloc (.cells #[.int .u64 0,.int .u64 0] 59) = x:=⟨_,rfl⟩
 have hbw5:Below w4.heap.size w4 w5:=by rw [← hw5];exact (Below.refl _ _).alloc (Nat.le_refl _) _
 have hkw5:Blk w5 w4.heap.size 59 #[.int .u64 0,.int .u64 0]:=by rw [← hw5];exact Blk.mk_ _ _ _ _ rfl
 obtain ⟨w6,hw6⟩:∃ x,w5.alloc (.cells #[.int .i64 7,.int .i64 5,.int .i64 8,.int .i64 9] 3) = x:=⟨_,rfl⟩
 have hbw6:Below w5.heap.size w5 w6:=by rw [← hw6];exact (Below.refl _ _).alloc (Nat.le_refl _) _
 have hkw6:Blk w6 w5.heap.size 3 #[.int .i64 7,.int .i64 5,.int .i64 8,.int .i64 9]:=by rw [← hw6];exact Blk.mk_ _ _ _ _ rfl
 have HB5:=Lib.hid (below_call HB4.out hbw5 HB4.out.size)
 have HR5:=Lib.hid (HR4.out.below hbw5)
 have HK5:=Lib.hid (HK4.out.call hbw5)
 have HB6:=Lib.hid (below_call HB5.out hbw6 HB5.out.size)
 have HR6:=Lib.hid (HR5.out.below hbw6)
 have HK6:=Lib.hid (HK5.out.call hbw6)
 have HMX:=Lib.hid (mixes_ok (k:=0) (Uc:=2) (Wc:=4) (by decide) HR6.out kx_v (us:=[0,0]) (reads_block (hkw5.call hbw6) 1 2 rfl) (by decide) (HUS.out _ (by simp)) kx_m0 (reads_block hkw6 1 4 rfl) rfl)
 rw [HCS.out] at HMX
 clear hbw5 hkw5 hbw6 hkw6
 go_wp2_with (first
  | (refine wpList_store_by HST4.out rfl rfl rfl rfl ?_;simp only [Act.put,List.setIfInBounds_toArray,List.set_cons_succ,List.set_cons_zero])
  | (refine wpList_load_by (HLD.out w4 HK4.out) rfl rfl rfl ?_;simp only [Act.put,List.setIfInBounds_toArray,List.set_cons_succ,List.set_cons_zero])
  | fail)
 refine HMX.out.mono ?_
 rintro e w7 ⟨rfl,hb9⟩
 have HB7:=Lib.hid (below_call HB6.out hb9 HB6.out.size)
 have HR7:=Lib.hid (HR6.out.below hb9)
 have HK7:=Lib.hid (HK6.out.call hb9)
 clear hb9 HMX hw5 hw6
 obtain ⟨w8,hw8⟩:∃ x,w7.alloc (.cells #[.int .u64 1,.int .u64 1] 59) = x:=⟨_,rfl⟩
 have hbw8:Below w7.heap.size w7 w8:=by rw [← hw8];exact (Below.refl _ _).alloc (Nat.le_refl _) _
 have hkw8:Blk w8 w7.heap.size 59 #[.int .u64 1,.int .u64 1]:=by rw [← hw8];exact Blk.mk_ _ _ _ _ rfl
 obtain ⟨w9,hw9⟩:∃ x,w8.alloc (.cells #[.int .i64 5,.int .i64 7,.int .i64 9,.int .i64 8] 3) = x:=⟨_,rfl⟩
 have hbw9:Below w8.heap.size w8 w9:=by rw [← hw9];exact (Below.refl _ _).alloc (Nat.le_refl _) _
 have hkw9:Blk w9 w8.heap.size 3 #[.int .i64 5,.int .i64 7,.int .i64 9,.int .i64 8]:=by rw [← hw9];exact Blk.mk_ _ _ _ _ rfl
 have HB8:=Lib.hid (below_call HB7.out hbw8 HB7.out.size)
 have HR8:=Lib.hid (HR7.out.below hbw8)
 have HK8:=Lib.hid (HK7.out.call hbw8)
 have HB9:=Lib.hid (below_call HB8.out hbw9 HB8.out.size)
 have HR9:=Lib.hid (HR8.out.below hbw9)
 have HK9:=Lib.hid (HK8.out.call hbw9)
 have HMX:=Lib.hid (mixes_ok (k:=0) (Uc:=2) (Wc:=4) (by decide) HR9.out kx_v (us:=[1,1]) (reads_block (hkw8.call hbw9) 1 2 rfl) (by decide) (HUS.out _ (by simp)) kx_m1 (reads_block hkw9 1 4 rfl) rfl)
 rw [HCS.out] at HMX
 clear hbw8 hkw8 hbw9 hkw9
 go_wp2_with (first
  | (refine wpList_load_by (HLD.out w7 HK7.out) rfl rfl rfl ?_;simp only [Act.put,List.setIfInBounds_toArray,List.set_cons_succ,List.set_cons_zero])
  | fail)
 refine HMX.out.mono ?_
 rintro e w10 ⟨rfl,hb9⟩
 have HB10:=Lib.hid (below_call HB9.out hb9 HB9.out.size)
 have HR10:=Lib.hid (HR9.out.below hb9)
 have HK10:=Lib.hid (HK9.out.call hb9)
 clear hb9 HMX hw8 hw9
 obtain ⟨w11,hw11⟩:∃ x,w10.alloc (.cells #[.int .u64 1] 59) = x:=⟨_,rfl⟩
 have hbw11:Below w10.heap.size w10 w11:=by rw [← hw11];exact (Below.refl _ _).alloc (Nat.le_refl _) _
 have hkw11:Blk w11 w10.heap.size 59 #[.int .u64 1]:=by rw [← hw11];exact Blk.mk_ _ _ _ _ rfl
 have HB11:=Lib.hid (below_call HB10.out hbw11 HB10.out.size)
 have HR11:=Lib.hid (HR10.out.below hbw11)
 have HK11:=Lib.hid (HK10.out.call hbw11)
 have HMX:=Lib.hid (mixes_end (k:=0) (Uc:=1) (by decide) HR11.out kx_v (us:=[1]) (reads_block hkw11 1 1 rfl) (by decide) (HUS.out _ (by simp)) kx_m2)
 rw [HCS.out] at HMX
 clear hbw11 hkw11
 go_wp2_with (first
  | (refine wpList_load_by (HLD.out w10 HK10.out) rfl rfl rfl ?_;simp only [Act.put,List.setIfInBounds_toArray,List.set_cons_succ,List.set_cons_zero])
  | fail)
 refine HMX.out.mono ?_
 rintro e w12 ⟨rfl,hb9⟩
 have HB12:=Lib.hid (below_call HB11.out hb9 HB11.out.size)
 have HR12:=Lib.hid (HR11.out.below hb9)
 have HK12:=Lib.hid (HK11.out.call hb9)
 clear hb9 HMX hw11
 have HMX:=Lib.hid (mixes_bad cs HCZ.out w12)
 go_wp2_with (first
  | (refine wpList_load_by (HLD.out w12 HK12.out) rfl rfl rfl ?_;simp only [Act.put,List.setIfInBounds_toArray,List.set_cons_succ,List.set_cons_zero])
  | fail)
 refine HMX.out.mono ?_
 rintro e w13 ⟨rfl,hb9⟩
 have HB13:=Lib.hid (below_call HB12.out hb9 HB12.out.size)
 have HR13:=Lib.hid (HR12.out.below hb9)
 have HK13:=Lib.hid (HK12.out.call hb9)
 clear hb9 HMX 
 obtain ⟨w14,hw14⟩:∃ x,w13.alloc (.cells #[.int .u64 0,.int .u64 0] 59) = x:=⟨_,rfl⟩
 have hbw14:Below w13.heap.size w13 w14:=by rw [← hw14];exact (Below.refl _ _).alloc (Nat.le_refl _) _
 have hkw14:Blk w14 w13.heap.size 59 #[.int .u64 0,.int .u64 0]:=by rw [← hw14];exact Blk.mk_ _ _ _ _ rfl
 have HB14:=Lib.hid (below_call HB13.out hbw14 HB13.out.size)
 have HR14:=Lib.hid (HR13.out.below hbw14)
 have HK14:=Lib.hid (HK13.out.call hbw14)
 have HMX:=Lib.hid (mixe_ok (k:=0) (Uc:=2) (by decide) HR14.out kx_v (us:=[0,0]) (reads_block hkw14 1 2 rfl) (by decide) (HUS.out _ (by simp)) kx_m0)
 rw [HCS.out] at HMX
 clear hbw14 hkw14
 go_wp2_with (first
  | (refine wpList_load_by (HLD.out w13 HK13.out) rfl rfl rfl ?_;simp only [Act.put,List.setIfInBounds_toArray,List.set_cons_succ,List.set_cons_zero])
  | fail)
 refine HMX.out.mono ?_
 rintro e w15 ⟨m2,rfl,ho9,hb9⟩
 have HB15:=Lib.hid (below_call HB14.out hb9 HB14.out.size)
 have HR15:=Lib.hid (HR14.out.below hb9)
 have HK15:=Lib.hid (HK14.out.call hb9)
 have hmv:=(mix_laws (k:=0) (by decide) kx_v kx_m0).1
 obtain ⟨bm,hbm⟩:∃ x,({ kxB with objs:=kxL }:Bd) = x:=⟨_,rfl⟩
 rw [hbm] at hmv ho9
 have HFM:Hid (flatB kxB 0 = flatB bm 0):=Lib.hid (by rw [← hbm];exact (flat_mix (k:=0) (by decide) kx_v kx_m0).symm)
 have HMV:=Lib.hid hmv
 rw [hbm]
 have hr9:=ho9.isR (bdW_valid hmv)
 obtain ⟨g2,hg2⟩:∃ x,w15.heap.size = x:=⟨_,rfl⟩
 obtain ⟨zb,hzb⟩:∃ x,zbd = x:=⟨_,rfl⟩
 have hzl:zb.size = 38:=by rw [← hzb];rfl
 obtain ⟨ca,hca⟩:∃ x,(bm.cells m2).toArray = x:=⟨_,rfl⟩
 have HCa:=Lib.hid hca
 obtain ⟨w16,hst,hk,hg⟩:=(Blk.mk_ w15 33 zb g2 hg2).storeAll (ty:=33) (bm.cells m2) (by rw [hzl];rfl) (by rw [size_board];rfl) (one_bd _ _)
 have hb8:Below w15.heap.size w15 w16:=((Below.refl _ _).alloc (Nat.le_refl _) _).grown hg (by simp) (fun q hq => by injection hq with hq;omega)
 have HB16:=Lib.hid (below_call HB15.out hb8 HB15.out.size)
 have HR16:=Lib.hid (HR15.out.below hb8)
 have HK16:=Lib.hid (HK15.out.call hb8)
 have HXa:=Lib.hid (hr9.below hb8)
 have HYa:=Lib.hid hk
 rw [← hzb,hca] at hst
 unfold zbd at hst
 have HSTa:=Lib.hid hst
 have HLDa:Hid (∀ W,Blk W g2 33 (bm.cells m2).toArray → (Instr.loadAt 33 (.pointer (some ⟨g2,0,none⟩))).run Tryz.prog W = .ok (.agg ca) W):=Lib.hid (fun W h => by rw [← hca];exact board_load h)
 rw [hca]
 clear ho9 hb9 hmv hr9 hst hk hg hb8 hzb hzl hca hbm HMX hw14
 have HMX:=Lib.hid (move_any kxB m1 w16 1 0 (kxO 1 5 0) HR16.out (plc_small kx_v) kx_v rfl rfl rfl rfl rfl rfl)
 rw [HCS.out] at HMX
 go_wp2_with (first
  | (refine wpList_store_by HSTa.out rfl rfl rfl rfl ?_;simp only [Act.put,List.setIfInBounds_toArray,List.set_cons_succ,List.set_cons_zero])
  | (refine wpList_load_by (HLD.out w16 HK16.out) rfl rfl rfl ?_;simp only [Act.put,List.setIfInBounds_toArray,List.set_cons_succ,List.set_cons_zero])
  | fail)
 refine HMX.out.mono ?_
 rintro e w17 ⟨m3,rfl,ho9,hb9⟩
 have HB17:=Lib.hid (below_call HB16.out hb9 HB16.out.size)
 have HR17:=Lib.hid (HR16.out.below hb9)
 have HK17:=Lib.hid (HK16.out.call hb9)
 have HXa2:=Lib.hid (HXa.out.below hb9)
 have HYa2:=Lib.hid (HYa.out.call hb9)
 obtain ⟨bv,hbv⟩:∃ x,movB kxB 1 0 (kxO 1 5 0) = x:=⟨_,rfl⟩
 have HBV:Hid (bv.Valid ∧ decide (flatB kxB 0 = flatB bv 0) = false):=Lib.hid (by rw [← hbv];exact ⟨kx_mv,kx_ne⟩)
 rw [hbv] at ho9
 rw [hbv]
 have hr9:=ho9.isR (bdW_valid HBV.out.1)
 obtain ⟨g3,hg3⟩:∃ x,w17.heap.size = x:=⟨_,rfl⟩
 obtain ⟨zb,hzb⟩:∃ x,zbd = x:=⟨_,rfl⟩
 have hzl:zb.size = 38:=by rw [← hzb];rfl
 obtain ⟨cb,hcb⟩:∃ x,(bv.cells m3).toArray = x:=⟨_,rfl⟩
 have HCb:=Lib.hid hcb
 obtain ⟨w18,hst,hk,hg⟩:=(Blk.mk_ w17 33 zb g3 hg3).storeAll (ty:=33) (bv.cells m3) (by rw [hzl];rfl) (by rw [size_board];rfl) (one_bd _ _)
 have hb8:Below w17.heap.size w17 w18:=((Below.refl _ _).alloc (Nat.le_refl _) _).grown hg (by simp) (fun q hq => by injection hq with hq;omega)
 have HB18:=Lib.hid (below_call HB17.out hb8 HB17.out.size)
 have HR18:=Lib.hid (HR17.out.below hb8)
 have HK18:=Lib.hid (HK17.out.call hb8)
 have HXb:=Lib.hid (hr9.below hb8)
 have HYb:=Lib.hid hk
 rw [← hzb,hcb] at hst
 unfold zbd at hst
 have HSTb:=Lib.hid hst
 have HLDb:Hid (∀ W,Blk W g3 33 (bv.cells m3).toArray → (Instr.loadAt 33 (.pointer (some ⟨g3,0,none⟩))).run Tryz.prog W = .ok (.agg cb) W):=Lib.hid (fun W h => by rw [← hcb];exact board_load h)
 rw [hcb]
 have HXa3:=Lib.hid (HXa2.out.below hb8)
 have HYa3:=Lib.hid (HYa2.out.call hb8)
 clear ho9 hb9 hr9 hst hk hg hb8 hzb hzl hcb hbv HMX HXa HYa HXa2 HYa2 HSTa
 have HAL:=Lib.hid (lalike_any kxB bm m1 m2 w18 0 (by decide) HR18.out HXa3.out (plc_small kx_v) (plc_small HMV.out) kx_v HMV.out true)
 rw [HCS.out,HCa.out,decide_eq_true HFM.out] at HAL
 go_wp2_with (first
  | (refine wpList_store_by HSTb.out rfl rfl rfl rfl ?_;simp only [Act.put,List.setIfInBounds_toArray,List.set_cons_succ,List.set_cons_zero])
  | (refine wpList_load_by (HLD.out w18 HK18.out) rfl rfl rfl ?_;simp only [Act.put,List.setIfInBounds_toArray,List.set_cons_succ,List.set_cons_zero])
  | (refine wpList_load_by (HLDa.out w18 HYa3.out) rfl rfl rfl ?_;simp only [Act.put,List.setIfInBounds_toArray,List.set_cons_succ,List.set_cons_zero])
  | fail)
 refine HAL.out.mono ?_
 rintro e w19 ⟨rfl,hb9⟩
 have HB19:=Lib.hid (below_call HB18.out hb9 HB18.out.size)
 have HR19:=Lib.hid (HR18.out.below hb9)
 have HK19:=Lib.hid (HK18.out.call hb9)
 have HXb2:=Lib.hid (HXb.out.below hb9)
 have HYb2:=Lib.hid (HYb.out.call hb9)
 clear hb9 HAL HXb HYb
 have HAL:=Lib.hid (lalike_any kxB bv m1 m3 w19 0 (by decide) HR19.out HXb2.out (plc_small kx_v) (plc_small HBV.out.1) kx_v HBV.out.1 false)
 rw [HCS.out,HCb.out,HBV.out.2] at HAL
 go_wp2_with (first
  | (refine wpList_load_by (HLD.out w19 HK19.out) rfl rfl rfl ?_;simp only [Act.put,List.setIfInBounds_toArray,List.set_cons_succ,List.set_cons_zero])
  | (refine wpList_load_by (HLDb.out w19 HYb2.out) rfl rfl rfl ?_;simp only [Act.put,List.setIfInBounds_toArray,List.set_cons_succ,List.set_cons_zero])
  | fail)
 refine HAL.out.mono ?_
 rintro e w20 ⟨rfl,hb9⟩
 have HB20:=Lib.hid (below_call HB19.out hb9 HB19.out.size)
 have HR20:=Lib.hid (HR19.out.below hb9)
 have HK20:=Lib.hid (HK19.out.call hb9)
 clear hb9
 go_wp2_with fail
 go_ret
 exact ⟨rfl,HB20.out⟩

theorem MapN.get {w:World} {g n:Nat} {f:Int → Option Int} (h:MapN w g n f) {x:Int} (hx:wfI x):(Instr.lookup 52 (.map (some g)) (.int .i64 x) false).run Tryz.prog w = .ok (.int .i64 ((f x).getD 0)) w:=by
 obtain ⟨D,h⟩:=h
 obtain ⟨v,ps,hrun,hv⟩:=h.get Tryz.underlying52 (zero3 w) (plainElem_int (H:=Unit) Tryz.underlying3 (a:=0) (by decide)) hx
 rw [hrun]
 obtain ⟨a,rfl,he,_⟩:=plainElem_int_inv Tryz.underlying3 hv
 have he1:=congrArg Prod.fst he
 cases hf:f x with
 | none =>
  rw [hf] at he1
  simp only [Option.map_none,Option.getD_none,DataW.lit.injEq,Lit.int.injEq,true_and] at he1
  rw [← he1]
  rfl
 | some c =>
  rw [hf] at he1
  simp only [Option.map_some,Option.getD_some,DataW.lit.injEq,Lit.int.injEq,true_and] at he1
  rw [← he1]
  rfl
end Go.Proofs.YtagpphelgghbpaaGreat
