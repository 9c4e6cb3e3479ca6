/-
  Texts: Mix.
-/
import Derived.Test.YtagpphelgghbpaaGreatMk34
import Derived.Test.YtagpphelgghbpaaGreatMk23
set_option linter.unusedSimpArgs false
set_option linter.unusedVariables false
namespace Go.Proofs.YtagpphelgghbpaaGreat
open Go.RowKit

def mixStep (own:Int) (H:Int → Bool) (us:List Int) (l:List Ob) (used:Nat):Option (List Ob × Nat) :=
 if us.length - used + 1 < (cds own H l).length then none else some (putC own H l (shuf us used (cds own H l)),used + ((cds own H l).length - 1))
def mixTo (H:Int → Bool) (us:List Int) (l:List Ob):Nat → Option (List Ob × Nat)
 | 0 => some (l,0)
 | j + 1 => (mixTo H us l j).bind fun p => mixStep (j:Int) H us p.1 p.2
theorem mixO_to (H:Int → Bool) (us:List Int) (l:List Ob):mixO H us l = (mixTo H us l 2).map Prod.fst:=by
 unfold mixO mixTo mixTo mixTo mixStep
 simp only [Option.bind_some,Nat.sub_zero,Nat.zero_add]
 show _ = Option.map Prod.fst (Option.bind (if us.length + 1 < (cds 0 H l).length then none else _) _)
 by_cases h:us.length + 1 < (cds 0 H l).length
 ·rw [if_pos h,if_pos h]
  rfl
 ·rw [if_neg h,if_neg h]
  simp only [Option.bind_some]
  show _ = Option.map Prod.fst (if us.length - ((cds 0 H l).length - 1) + 1 < (cds 1 H (putC 0 H l (shuf us 0 (cds 0 H l)))).length then none else _)
  split
  ·rfl
  ·rfl
theorem mixTo_none (H:Int → Bool) (us:List Int) (l:List Ob) {j:Nat} (hj:j < 2) {p:List Ob × Nat} (h:mixTo H us l j = some p) (hs:mixStep (j:Int) H us p.1 p.2 = none):mixO H us l = none:=by
 rw [mixO_to]
 rcases (show j = 0 ∨ j = 1 by omega) with rfl | rfl
 ·have:mixTo H us l 1 = none:=by show (mixTo H us l 0).bind _ = none;rw [h];exact hs
  show Option.map Prod.fst ((mixTo H us l 1).bind _) = none
  rw [this]
  rfl
 ·show Option.map Prod.fst ((mixTo H us l 1).bind _) = none
  rw [h]
  show Option.map Prod.fst (mixStep _ _ _ _ _) = none
  rw [hs]
  rfl
def ios (l:List Ob):List (Int × Int):=l.map fun o => (o.id,o.own)
theorem putC_ios (own:Int) (H:Int → Bool):∀ (l:List Ob) (cs:List Int),ios (putC own H l cs) = ios l
 | [],_ => rfl
 | o :: l,cs => by
  unfold ios
  rw [putC]
  have ih:=fun cs => putC_ios own H l cs
  unfold ios at ih
  split <;> simp [ih]
theorem ios_mem {l l':List Ob} (h:ios l' = ios l) {o:Ob} (ho:o ∈ l'):∃ p ∈ l,p.id = o.id ∧ p.own = o.own:=by
 have:(o.id,o.own) ∈ ios l:=by rw [← h];exact List.mem_map.2 ⟨o,ho,rfl⟩
 obtain ⟨p,hp,e⟩:=List.mem_map.1 this
 injection e with e1 e2
 exact ⟨p,hp,e1,e2⟩
theorem ios_at {l l':List Ob} (h:ios l' = ios l) {i:Nat} {o:Ob} (ho:l'[i]? = some o):∃ p,l[i]? = some p ∧ p.id = o.id ∧ p.own = o.own:=by
 have h1:(ios l')[i]? = some (o.id,o.own):=by unfold ios;rw [List.getElem?_map,ho];rfl
 rw [h] at h1
 unfold ios at h1
 rw [List.getElem?_map] at h1
 cases hp:l[i]? with
 | none => rw [hp] at h1;cases h1
 | some p =>
  rw [hp] at h1
  injection h1 with h1
  injection h1 with e1 e2
  exact ⟨p,rfl,e1,e2⟩
theorem ios_len {l l':List Ob} (h:ios l' = ios l):l'.length = l.length:=by have:=congrArg List.length h;simpa [ios] using this
theorem bd_cells_len (b:Bd) (m:BdM) {l l':List Ob} (h:l'.length = l.length):(Bd.cells { b with objs:=l' } m) = Bd.cells { b with objs:=l } m:=by
 unfold Bd.cells
 rw [show (({ b with objs:=l' }:Bd).objs).length = (({ b with objs:=l }:Bd).objs).length from h]
theorem DwS.onlyF {W W':World} {F:Nat → Prop} {gd gu used:Nat} {us:List Int} (h:DwS W gd gu us used) (ho:OnlyF F W W') (h1:¬ F gd) (h2:¬ F gu):DwS W' gd gu us used:=⟨h.D.onlyF ho h1,h.U.onlyF ho h2⟩
def fS (L:List Int):Int → Option Bool:=fun i => if i ∈ L then some true else none
theorem fS_snoc {L:List Int} {k:Nat} {x:Int} (h:L[k]? = some x):putF (fS (L.take k)) x true = fS (L.take (k + 1)):=by
 funext y
 unfold putF fS
 rw [take_snoc h]
 by_cases e:y = x
 ·subst e
  simp
 ·simp [e]
theorem fS_hid {b:Bd} {k:Nat} {ids:List Int} (h:srtI (hidS b k) = ids) (i:Int):(fS ids i).getD false = hidB b k i:=by
 unfold fS hidB
 have hm:i ∈ ids ↔ i ∈ hidS b k:=by rw [← h];exact (srtI_perm _).mem_iff
 by_cases hi:i ∈ hidS b k
 ·rw [if_pos (hm.2 hi)]
  simp [hi]
 ·rw [if_neg (fun h' => hi (hm.1 h'))]
  simp [hi]
structure MxN (w:World) (gH gM gd gu gOut B:Nat):Prop where
 nr:w.heap.size + 1 < gM
 nd:w.heap.size + 1 < gd ∧ gd < gM
 nu:w.heap.size + 1 < gu ∧ gu < gM
 nh:gH = gM + 1
 nB:gM + 1 < B
 no:B ≤ gOut
structure MxS (w:World) (b:Bd) (k:Nat) (us:List Int) (gH gM gd gu gOut B:Nat) (j:Nat) (l:List Ob) (used:Nat) (m:BdM) (f:Int → Option Bool) (nM:Nat) (W:World):Prop where
 O:BdO W B { b with objs:=l } m
 out:Blk W gOut 33 (Bd.cells { b with objs:=l } m).toArray
 res:Blk W (w.heap.size + 1) 33 zbd
 H:Blk W gH 69 #[.map (some gM)]
 M:MapB W gM nM f
 D:DwS W gd gu us used
 fl:∀ o ∈ l,(j:Int) ≤ o.own → (f o.id).getD false = hidB b k o.id
 io:ios l = ios b.objs
 to:mixTo (hidB b k) us b.objs j = some (l,used)
 us:used ≤ us.length
 bel:Below w.heap.size w W
 N:MxN w gH gM gd gu gOut B
theorem IsO.onlyF_blk {W W':World} {B g:Nat} {s:Sl} {l:List It} {ts:List Sl} (h:IsO W B s l ts) (ho:OnlyF (fun i => i = g) W W') (hk:∃ cs t,Blk W g t cs ∧ offT t):IsO W' B s l ts:=by
 obtain ⟨cs,t,hk,o1,o2,o3,o4,o5⟩:=hk
 exact ⟨h.len,h.row.onlyF ho (fun i hi e => by subst e;exact h.row.apart_blk hk o2 hi),fun i x t' h1 h2 => (h.tg i x t' h1 h2).onlyF ho (fun j hj e => by subst e;exact (h.tg i x t' h1 h2).apart_blk hk o3 hj)⟩
theorem BdO.onlyF_blk {W W':World} {B g:Nat} {b:Bd} {m:BdM} (h:BdO W B b m) (ho:OnlyF (fun i => i = g) W W') (hk:∃ t cs,Blk W g t cs ∧ offT t):BdO W' B b m:=by
 obtain ⟨t,cs,hk,o1,o2,o3,o4,o5⟩:=hk
 exact ⟨h.O.onlyF ho (fun i hi e => by subst e;exact h.O.apart_blk hk o1 hi),fun q hq => (h.l q hq).onlyF ho (fun i hi e => by subst e;exact (h.l q hq).apart_blk hk o4 hi),h.ap,h.S.onlyF_blk ho ⟨cs,t,hk,o1,o2,o3,o4,o5⟩,h.Q.onlyF_blk ho ⟨cs,t,hk,o1,o2,o3,o4,o5⟩,h.BK.onlyF ho (fun i hi e => by subst e;exact h.BK.apart_blk hk o5 hi)⟩
def MixEnd (b:Bd) (k:Nat) (us:List Int) (w:World) (e:Ending) (w':World):Prop:=Below w.heap.size w w' ∧ ((mixO (hidB b k) us b.objs = none ∧ e = .returned (.tuple #[.agg zbd,.int .i64 16])) ∨ ∃ l m',mixO (hidB b k) us b.objs = some l ∧ e = .returned (.tuple #[.agg (Bd.cells { b with objs:=l } m').toArray,.int .i64 0]) ∧ BdO w' w.heap.size { b with objs:=l } m')
structure MxR (w:World) (b:Bd) (gM gd gu gOut gO B j:Nat) (l:List Ob) (m:BdM) (f:Int → Option Bool) (nM:Nat) (us:List Int) (used:Nat) (A2:Option Addr) (n1 c2:Nat) (cs:List Int) (W:World):Prop where
 O:BdO W B { b with objs:=l } m
 out:Blk W gOut 33 (Bd.cells { b with objs:=l } m).toArray
 res:Blk W (w.heap.size + 1) 33 zbd
 H:Blk W (gM + 1) 69 #[.map (some gM)]
 M:MapB W gM nM f
 D:DwS W gd gu us used
 KO:Blk W gO 3 #[.int .i64 (j:Int)]
 X:XOwns W (gO + 2) 3 1 A2 n1 c2 (ics cs)
 bel:Below w.heap.size w W
theorem mix_mid {w:World} {b:Bd} {k:Nat} {us:List Int} {gM gd gu gOut gO B j used:Nat} {l:List Ob} {m:BdM} {f:Int → Option Bool} {nM:Nat} {w3 w4 w5:World} {A2:Option Addr} {n1 c2 used':Nat} {cs:List Int} {A1:Option Addr} {c1:Nat}
  (a:MxS w b k us (gM + 1) gM gd gu gOut B j l used m f nM w3) (hl:gM + 1 < gO ∧ gOut < gO ∧ gd < gO ∧ gu < gO ∧ w.heap.size + 1 < gO ∧ B ≤ gO) (hko:Blk w3 gO 3 #[.int .i64 (j:Int)]) (hC4:Blk w4 (gO + 1) 25 #[.slice A1 n1 c1])
  (hx4:XOwns w4 w3.heap.size 3 1 A2 n1 c2 (ics cs)) (hd4:DwS w4 gd gu us used') (hg4:w3.grownBy w4 (some gd)) (hg5:w4.grownBy w5 (some (gO + 1))) (hz:gO + 2 ≤ w3.heap.size):MxR w b gM gd gu gOut gO B j l m f nM us used' A2 n1 c2 cs w5:=by
 have n:=a.N
 have h1:=n.nB
 have h2:=n.nd
 have h3:=n.nu
 have h4:=n.no
 have h5:=n.nr
 refine ⟨(a.O.low hg4 (by omega)).blk hC4 hg5 off_ints,(a.out.grown hg4 (fun e => by injection e with e;omega)).grown hg5 (fun e => by injection e with e;omega),(a.res.grown hg4 (fun e => by injection e with e;omega)).grown hg5 (fun e => by injection e with e;omega),(a.H.grown hg4 (fun e => by injection e with e;omega)).grown hg5 (fun e => by injection e with e;omega),(a.M.kept hg4 (fun e => by injection e with e;omega)).kept hg5 (fun e => by injection e with e;omega),hd4.far hg5 (by omega) (by omega),(hko.grown hg4 (fun e => by injection e with e;omega)).grown hg5 (fun e => by injection e with e;omega),(hx4.blk_ hC4 hg5 (by decide)).more hz,(a.bel.grown hg4 a.bel.size (fun q hq => by injection hq with hq;omega)).grown hg5 (Nat.le_trans a.bel.size hg4.size) (fun q hq => by injection hq with hq;omega)⟩
theorem mix_next {w:World} {b:Bd} {k:Nat} {us:List Int} {gM gd gu gOut gO B j used:Nat} {l:List Ob} {m:BdM} {f:Int → Option Bool} {nM:Nat} {w3 w5 w6:World} {A2:Option Addr} {n1 c2 gB g:Nat} {cl:List Int} {q6:Nat} {A6:Option Addr} {f6:Int → Option Bool} {nM6:Nat}
  (a:MxS w b k us (gM + 1) gM gd gu gOut B j l used m f nM w3) (r:MxR w b gM gd gu gOut gO B j l m f nM us (used + (n1 - 1)) A2 n1 c2 (shuf us used cl) w5) (hl:gM + 1 < gO ∧ gOut < gO ∧ gd < gO ∧ gu < gO ∧ w.heap.size + 1 < gO ∧ B ≤ gO) (hgB:gB = gO + 1 ∨ (B ≤ gB ∧ gB < gO ∧ gB ≠ gOut))
  (hcl:cds (j:Int) (hidB b k) l = cl) (hn1:cl.length = n1) (hlf:¬ (us.length - used + 1 < n1)) (hj:j < 2) (h:E2 w5 B { b with objs:=l } m (j:Int) (hidB b k) (gO + 1) gB gM g (shuf us used cl) n1 c2 (gO + 2) A2 f l.length q6 A6 f6 nM6 w6) :
  MxS w b k us (gM + 1) gM gd gu gOut B (j + 1) (putC (j:Int) (hidB b k) l (shuf us used cl)) (used + (n1 - 1)) m f6 nM6 w6:=by
 have n:=a.N
 have h1:=n.nB
 have h2:=n.nd
 have h3:=n.nu
 have h4:=n.no
 have h5:=n.nr
 have hus:=a.us
 refine ⟨?_,?_,r.res.onlyF h.F (by omega),r.H.onlyF h.F (by omega),h.M,r.D.onlyF h.F (by omega) (by omega),fun o ho hown => ?_,(putC_ios _ _ _ _).trans a.io,?_,by omega,r.bel.trans (h.F.below r.bel.size (fun i hi => by omega)),n⟩
 ·have hO:=h.O
  have e1:({ b with objs:=l }:Bd).objs.take l.length = l:=List.take_length
  have e2:({ b with objs:=l }:Bd).objs.drop l.length = []:=List.drop_length
  rw [e1,e2,List.append_nil] at hO
  exact hO
 ·rw [bd_cells_len b m (putC_len (j:Int) (hidB b k) l (shuf us used cl))]
  exact r.out.onlyF h.F (by omega)
 ·obtain ⟨p,hp,e1,e2⟩:=ios_mem (putC_ios (j:Int) (hidB b k) l (shuf us used cl)) ho
  have hne:p.own ≠ (j:Int):=by omega
  rw [← e1,h.f2 p hp hne]
  exact a.fl p hp (by omega)
 ·show (mixTo (hidB b k) us b.objs j).bind _ = _
  rw [a.to]
  show mixStep (j:Int) (hidB b k) us l used = _
  unfold mixStep
  rw [hcl,hn1,if_neg hlf]
set_option maxRecDepth 100000 in
theorem built_zbd:Tryz.prog.built 33 [] = some zbd:=by kernel_rfl
theorem zbd_len:zbd.toList.length = 38:=rfl
theorem one_zbd:∀ v ∈ zbd.toList,v.oneCell' = true:=by decide
structure MxA (w:World) (cs:Array Value) (us:List Int) (gM gd gu nM:Nat) (f:Int → Option Bool) (A:Option Addr) (ids:List Int) (W:World):Prop where
 box:Blk W w.heap.size 33 cs
 res:Blk W (w.heap.size + 1) 33 zbd
 H:Blk W (gM + 1) 69 #[.map (some gM)]
 M:MapB W gM nM f
 D:DwS W gd gu us 0
 I:Reads W 1 A ids.length (ics ids)
 IA:∀ i,blkOf A = some i → i < gM
 bel:Below w.heap.size w W
 r:w.heap.size + 1 < gM
 d:w.heap.size + 1 < gd ∧ gd < gM
 u:w.heap.size + 1 < gu ∧ gu < gM
set_option maxRecDepth 100000 in
set_option maxHeartbeats 12800000 in
theorem mix_any (b:Bd) (m:BdM) (w:World) (k:Nat) (hk:k < 2) (hR:BdR w b m) (hz:b.plc.length < 9223372036854775807) (hv:b.Valid) (UA:Option Addr) (nu Uc:Nat) (us:List Int) (hU:Reads w 1 UA nu (ucs us)) (hnu:nu ≤ 65536) (hus:∀ i,i < us.length → 0 ≤ ith us i ∧ ith us i ≤ 18446744073709551615) :
  Calls Tryz.prog 9 #[.agg (b.cells m).toArray,.int .i64 k,.slice UA nu Uc] w (MixEnd b k us w):=by
 have HUS:=Lib.hid hus
 have HUL:=Lib.hid (ulen hU)
 have HNU:=Lib.hid hnu
 have HSM:=Lib.hid (bd_sm hv)
 have HV:=Lib.hid hv
 have HR:=Lib.hid hR
 have HOB:=Lib.hid (obs_ok hv.2.2.2.2.2.1)
 obtain ⟨cs,hcs⟩:∃ cs,(b.cells m).toArray = cs:=⟨_,rfl⟩
 have HCS:=Lib.hid hcs
 have hsz:cs.toList.length = 38:=by rw [← hcs];rfl
 obtain ⟨w2,hw2⟩:∃ w2,(w.alloc (.cells cs 33)).alloc (.cells zbd 33) = w2:=⟨_,rfl⟩
 have HB2:Hid (Below w.heap.size w w2):=Lib.hid (by rw [← hw2];exact ((Below.refl _ _).alloc (Nat.le_refl _) _).alloc (by simp) _)
 have HBX2:Hid (Blk w2 w.heap.size 33 cs):=Lib.hid (by rw [← hw2];exact (Blk.mk_ w _ _ _ rfl).alloc _)
 have HRS2:Hid (Blk w2 (w.heap.size + 1) 33 zbd):=Lib.hid (by rw [← hw2];exact Blk.mk_ _ _ _ _ (by simp))
 have HLD:Hid (∀ W,Blk W w.heap.size 33 cs → (Instr.loadAt 33 (.pointer (some ⟨w.heap.size,0,none⟩))).run Tryz.prog W = .ok (.agg cs) W):=Lib.hid (fun W hW => by
  have:=hW.mid (o:=0) (ty:=33) cs.toList _ (fun j v hj => by rw [Nat.zero_add];simpa using hj) Tryz.underlying33 rfl (by rw [hsz];exact size_board)
  rwa [Array.toArray_toList] at this)
 have HHI:Hid (Calls Tryz.prog 23 #[.agg cs,.int .i64 k] w2 (HidEnd b k w2)):=Lib.hid (by rw [← hcs];exact hidden_any b m w2 k hk (hR.below (HB2.out.mono (Nat.le_refl _))) hz hv)
 have HDN:Hid (∀ W,Below w.heap.size w W → Calls Tryz.prog 24 #[.slice UA nu Uc] W (DnewEnd us nu W)):=Lib.hid fun W hW => dnew_ok UA nu Uc us W (hU.below hW) hnu
 have HC:Hid (∀ W,Below w.heap.size w W → Calls Tryz.prog 25 #[.agg cs] W (CopyEnd b W)):=Lib.hid (fun W hW => by rw [← hcs];exact copy_any b m W (hR.below hW) HSM.out)
 have HHL:Hid ((hidS b k).length ≤ 1500 ∧ ∀ i ∈ hidS b k,wfI i):=Lib.hid (by
  have h1:=HSM.out.li (q:=0) (by decide)
  have h2:=HSM.out.li (q:=4) (by decide)
  have h3:=HSM.out.li (q:=1) (by decide)
  have h4:=HSM.out.li (q:=5) (by decide)
  have g1:=hR.w.l 0 (by decide)
  have g2:=hR.w.l 4 (by decide)
  have g3:=hR.w.l 1 (by decide)
  have g4:=hR.w.l 5 (by decide)
  simp only [Bd.li] at h1 h2 h3 h4 g1 g2 g3 g4
  unfold hidS seN
  refine ⟨?_,fun i hi => ?_⟩
  ·rw [List.length_append,List.length_append]
   split <;> omega
  ·rcases List.mem_append.1 hi with hi | hi
   ·rcases List.mem_append.1 hi with hi | hi
    ·exact g1 i hi
    ·exact g2 i hi
   ·split at hi
    ·exact g3 i hi
    ·exact g4 i hi)
 rw [hcs]
 unfold zbd at hw2
 clear hk hR hz hv hU hnu hus hcs hsz
 go_enter Tryz.func9,Tryz.ntmps9
 go_wp2_with (first
  | (refine wpList_load_by (HLD.out w2 HBX2.out) rfl rfl rfl ?_;simp only [Act.put,List.setIfInBounds_toArray,List.set_cons_succ,List.set_cons_zero])
  | (go_at_call 23;refine HHI.out.mono ?_;rintro e w3 ⟨IA,Ic,rfl,hi3,hb3⟩;have HB3:=Lib.hid (below_call HB2.out hb3 HB2.out.size);have HBX3:=Lib.hid (HBX2.out.call hb3);have HRS3:=Lib.hid (HRS2.out.call hb3);have HI3:=Lib.hid hi3;clear hb3 hi3)
  | (go_at_call 24;refine (HDN.out w3 HB3.out).mono ?_;rintro e w4 ⟨gd,gu,rfl,hkd,hku,hgd,hgu,hb4⟩;have HB4:=Lib.hid (below_call HB3.out hb4 HB3.out.size);have HBX4:=Lib.hid (HBX3.out.call hb4);have HRS4:=Lib.hid (HRS3.out.call hb4);have HI4:=Lib.hid (HI3.out.below hb4);have HD4:Hid (DwS w4 gd gu us 0 ∧ w3.heap.size ≤ gd ∧ w3.heap.size ≤ gu):=Lib.hid ⟨⟨by rw [HUL.out];exact hkd,hku⟩,hgd,hgu⟩;clear hb4 hkd hku hgd hgu)
  | fail)
 rw [run_makeMap]
 obtain ⟨gM,hgM⟩:∃ x,w4.heap.size = x:=⟨_,rfl⟩
 obtain ⟨w5,hw5⟩:∃ w5,(w4.alloc (.map #[] 0)).alloc (.cells #[.map (some gM)] 69) = w5:=⟨_,rfl⟩
 have hb45:Below w4.heap.size w4 w5:=by rw [← hw5];exact ((Below.refl _ _).alloc (Nat.le_refl _) _).alloc (by simp) _
 obtain ⟨ids,hids⟩:∃ x,srtI (hidS b k) = x:=⟨_,rfl⟩
 obtain ⟨ni,hni⟩:∃ x,(hidS b k).length = x:=⟨_,rfl⟩
 have HIDS:=Lib.hid hids
 have HNI:=Lib.hid hni
 have hil:ids.length = ni:=by rw [← hids,← hni];exact (srtI_perm _).length_eq
 have HIL:=Lib.hid hil
 have HA5:Hid (MxA w cs us gM gd gu 0 (fS (ids.take 0)) IA ids w5):=Lib.hid (by
  have hd:=HD4.out.1
  have hr:=HRS3.out.lt
  have hI:=HI4.out
  rw [hids,hni,← hil] at hI
  refine ⟨HBX4.out.call hb45,HRS4.out.call hb45,by rw [← hw5];exact Blk.mk_ _ _ _ _ (by simp [hgM]),?_,hd.below hb45,hI.reads.below hb45,fun i hi => by have:=(hI.lt i hi).2;omega,below_call HB4.out hb45 HB4.out.size,by have:=HRS4.out.lt;omega,⟨by have:=HD4.out.2.1;omega,by have:=hd.D.lt;omega⟩,⟨by have:=HD4.out.2.2;omega,by have:=hd.U.lt;omega⟩⟩
  have h:=MapB.make w4
  rw [hgM] at h
  have h2:=h.below (w':=w5) (by rw [← hw5];exact (Below.refl _ _).alloc (Nat.le_refl _) _)
  have e:fS (ids.take 0) = fun _ => none:=by funext y;simp [fS]
  rw [e]
  exact h2)
 clear hb45 hw2 HB2 HBX2 HRS2 HB3 HBX3 HRS3 HI3 HB4 HBX4 HRS4 HI4 HD4 HHI HDN
 rw [hni]
 have hni5:ni ≤ 1500:=by rw [← hni];exact HHL.out.1
 clear hids hil hni
 go_wp2_with fail
 clear hw5 hgM
 go_loopw [40] (fun i W => ∃ q nM:Nat,q ≤ ni ∧ nM ≤ q ∧ i = .int .i64 q ∧ Hid (MxA w cs us gM gd gu nM (fS (ids.take q)) IA ids W)) (fun i _ => ni - (intOf i).toNat)
 case atStart => exact ⟨0,0,Nat.zero_le _,Nat.le_refl _,rfl,HA5⟩
 case round =>
  obtain ⟨q,nM,hq,hnM,rfl,HA⟩:=hrel
  clear HA5
  by_cases hqn:q < ni
  ·have hqn':(q:Int) < ni:=by omega
   have hI:=HA.out.I
   rw [HIL.out] at hI
   obtain ⟨ad,rfl,-,c0⟩:=int_at hI hqn
   have hget:=ith_get (xs:=ids) (k:=q) (by rw [HIL.out];exact hqn)
   obtain ⟨x,hx⟩:∃ x,ith ids q = x:=⟨_,rfl⟩
   rw [hx] at hget c0
   have cM:=(HA.out.H.at_ 0).trans rfl
   obtain ⟨w7,hrun,hm7,hg7⟩:=HA.out.M.put (x:=x) (v:=true) (HHL.out.2 x ((srtI_perm _).mem_iff.1 (by rw [HIDS.out];exact List.mem_of_getElem? hget))) (by unfold maxLen;have:=HHL.out.1;have:=HNI.out;omega)
   rw [fS_snoc hget] at hm7
   have HA7:Hid (MxA w cs us gM gd gu (if (fS (ids.take q) x).isSome then nM else nM + 1) (fS (ids.take (q + 1))) (some ad) ids w7):=Lib.hid (by
    have a:=HA.out
    exact ⟨a.box.grown hg7 (fun e => by injection e with e;have:=a.r;omega),a.res.grown hg7 (fun e => by injection e with e;have:=a.r;omega),a.H.grown hg7 (fun e => by injection e with e;omega),hm7,a.D.far hg7 (by have:=a.d;omega) (by have:=a.u;omega),a.I.grown hg7 (fun _ e => by have:=a.IA gM e;omega),a.IA,a.bel.grown hg7 a.bel.size (fun q hq => by injection hq with hq;have:=a.r;omega),a.r,a.d,a.u⟩)
   have HNM:Hid ((if (fS (ids.take q) x).isSome then nM else nM + 1) ≤ q + 1):=Lib.hid (by split <;> omega)
   clear hx hI hget hm7 hg7 HA
   go_wp2_with fail
   go_roundw
   case rel => exact ⟨q + 1,_,by omega,HNM.out,by go_num,HA7⟩
   case measure => simp [intOf];omega
  ·have hqn':decide ((q:Int) < ni) = false:=by simp;omega
   have hf9:fS (ids.take q) = fS ids:=by rw [List.take_of_length_le (by rw [HIL.out];omega)]
   rw [hf9] at HA
   clear hf9 hq hnM
   have HBW:=Lib.hid HA.out.bel
   obtain ⟨B,hB⟩:∃ x,wr.heap.size = x:=⟨_,rfl⟩
   have HBE:=Lib.hid hB
   clear hB
   go_wp2_with (first
    | (refine wpList_load_by (HLD.out wr HA.out.box) rfl rfl rfl ?_;simp only [Act.put,List.setIfInBounds_toArray,List.set_cons_succ,List.set_cons_zero])
    | (go_at_call 25;refine (HC.out wr HBW.out).mono ?_;rintro e w7 ⟨m1,rfl,ho7,hb7⟩;obtain ⟨gOut,hgO⟩:∃ x,w7.heap.size = x:=⟨_,rfl⟩;obtain ⟨w8,hst,hk8,hg8⟩:=(Blk.mk_ w7 33 zbd gOut hgO).storeAll (ty:=33) (b.cells m1) rfl (by rw [size_board];rfl) (one_bd _ _);have hb78:Below w7.heap.size w7 w8:=((Below.refl _ _).alloc (Nat.le_refl _) _).grown hg8 (by simp) (fun q hq => by injection hq with hq;omega);have HST:=Lib.hid hst;have HS8:Hid (MxS w b k us (gM + 1) gM gd gu gOut B 0 b.objs 0 m1 (fS ids) nM w8):=Lib.hid (by rw [HBE.out] at ho7;have a:=HA.out;have hall:=below_call hb7 hb78 hb7.size;exact ⟨ho7.below hb78,hk8,a.res.call hall,a.H.call hall,a.M.below hall,a.D.below hall,(fun o ho _ => fS_hid HIDS.out o.id),rfl,rfl,Nat.zero_le _,below_call a.bel hall a.bel.size,⟨a.r,a.d,a.u,rfl,by have:=a.H.lt;rw [HBE.out] at this;exact this,by rw [← HBE.out,← hgO];exact hb7.size⟩⟩);unfold zbd at hst;have HST:=Lib.hid hst;clear ho7 hb7 hk8 hg8 hb78 hst)
    | (refine wpList_store_by HST.out rfl rfl rfl rfl ?_;simp only [Act.put,List.setIfInBounds_toArray,List.set_cons_succ,List.set_cons_zero])
    | fail)
   clear HA hgO HST HBW
   go_loopw [49] (fun i W => ∃ (j:Nat) (l:List Ob) (used:Nat) (m2:BdM) (f:Int → Option Bool) (nM:Nat),j ≤ 2 ∧ i = .int .i64 j ∧ Hid (MxS w b k us (gM + 1) gM gd gu gOut B j l used m2 f nM W)) (fun i _ => 2 - (intOf i).toNat)
   case atStart => exact ⟨0,b.objs,0,m1,fS ids,nM,by omega,rfl,HS8⟩
   case round =>
    obtain ⟨j,l,used,m2,f,nM2,hj,rfl,HS⟩:=hrel
    clear HS8 hqn hqn'
    by_cases hj2:j < 2
    ·have hj2':(j:Int) < 2:=by omega
     have HJ:=Lib.hid hj2
     have hlen:l.length = b.objs.length:=ios_len HS.out.io
     have hl5:l.length ≤ 500:=by rw [hlen];exact HSM.out.O
     obtain ⟨no,hno⟩:∃ x,l.length = x:=⟨_,rfl⟩
     obtain ⟨⟨OA,Oc⟩,hmO⟩:∃ x,m2.O = x:=⟨_,rfl⟩
     have HX:Hid (XOwns wr B 46 12 OA no Oc (ocs l)):=Lib.hid (by have h:=HS.out.O.O;rw [hmO] at h;dsimp only at h;rw [hno] at h;exact h)
     have HNO:=Lib.hid hno
     have HMO:=Lib.hid hmO
     have hn5:no ≤ 500:=by omega
     have HWI:Hid (∀ o ∈ l,wfI o.id):=Lib.hid (fun o ho => by
      obtain ⟨p,hp,e1,-⟩:=ios_mem HS.out.io ho
      rw [← e1]
      exact (HR.out.Ow p hp).1)
     have HINC:Hid (∀ (i j:Nat) (x y:Ob),i < j → l[i]? = some x → l[j]? = some y → x.id < y.id):=Lib.hid (fun i j x y hij hx hy => by
      obtain ⟨p,hp,e1,-⟩:=ios_at HS.out.io hx
      obtain ⟨q,hq,e2,-⟩:=ios_at HS.out.io hy
      rw [← e1,← e2]
      exact HOB.out.2 i j p q hij hp hq)
     obtain ⟨gO,hgO⟩:∃ x,wr.heap.size = x:=⟨_,rfl⟩
     have hGB:∃ gB,(∀ A,m2.O.A = some A → A.block = gB) ∧ (gB = gO + 1 ∨ (B ≤ gB ∧ gB < gO ∧ gB ≠ gOut)):=by
      have hO:=HS.out.O.O
      have hap:=hO.apart_blk HS.out.out (by decide)
      cases hA:m2.O.A with
      | none => exact ⟨gO + 1,(fun A h => by cases h),.inl rfl⟩
      | some A =>
       rw [hA] at hO hap
       have hl:=hO.lt A.block rfl
       exact ⟨A.block,(fun A' h => by injection h with h;rw [h]),.inr ⟨hl.1,by rw [← hgO];exact hl.2,fun e => hap (by rw [← e];rfl)⟩⟩
     obtain ⟨gB,HGB0⟩:=hGB
     have HGB:=Lib.hid HGB0
     clear HGB0
     obtain ⟨W1,hW1⟩:∃ x,(wr.alloc (.cells #[.int .i64 (j:Int)] 3)).alloc (.cells #[.slice none 0 0] 25) = x:=⟨_,rfl⟩
     have hb1:Below wr.heap.size wr W1:=by rw [← hW1];exact ((Below.refl _ _).alloc (Nat.le_refl _) _).alloc (by simp) _
     have hkO:Blk W1 gO 3 #[.int .i64 (j:Int)]:=by rw [← hW1];exact (Blk.mk_ wr _ _ _ hgO).alloc _
     have hkC:Blk W1 (gO + 1) 25 #[.slice none 0 0]:=by rw [← hW1];exact Blk.mk_ _ _ _ _ (by simp [hgO])
     have HKO:=Lib.hid hkO
     have HS1:Hid (MxS w b k us (gM + 1) gM gd gu gOut B j l used m2 f nM2 W1):=Lib.hid (by
      have a:=HS.out
      exact ⟨a.O.below hb1,a.out.call hb1,a.res.call hb1,a.H.call hb1,a.M.below hb1,a.D.below hb1,a.fl,a.io,a.to,a.us,below_call a.bel hb1 a.bel.size,a.N⟩)
     have hlts:gM + 1 < gO ∧ gOut < gO ∧ gd < gO ∧ gu < gO ∧ w.heap.size + 1 < gO ∧ B ≤ gO:=by
      have a:=HS.out
      rw [← hgO]
      exact ⟨a.H.lt,a.out.lt,a.D.D.lt,a.D.U.lt,a.res.lt,by have:=a.N.no;have:=a.out.lt;omega⟩
     have HLT:=Lib.hid hlts
     have HS1z:Hid (gO + 2 = W1.heap.size):=Lib.hid (by rw [← hW1];simp [hgO])
     have HE1:=Lib.hid (each1_any W1 B no Oc OA l (j:Int) gO (gM + 1) gM nM2 (gO + 1) f (hidB b k) (HX.out.below hb1) HNO.out hn5 ⟨hkO.lt,(hkO.at_ 0).trans rfl⟩ ⟨HS1.out.H.lt,(HS1.out.H.at_ 0).trans rfl⟩ HS1.out.M hkC ⟨by omega,by omega,by omega⟩ HWI.out (fun o ho h => HS1.out.fl o ho (by omega)))
     have e0:W1.cell? ⟨gOut,0,none⟩ = some (.slice OA no Oc):=(HS1.out.out.at_ 0).trans (by show some (m2.O.v l.length) = _;rw [HMO.out,HNO.out];rfl)
     clear hlen hl5 hno hmO hb1 hkO hkC hlts HS
     go_wp2_with fail
     refine HE1.out.mono ?_
     rintro e w3 ⟨rfl,A1,n1,c1,hE3⟩
     have hbB:Below gO W1 w3:=hE3.F.below (by have:=HS1z.out;omega) (fun i hi => by omega)
     have HE3:=Lib.hid hE3
     obtain ⟨cl,hcl⟩:∃ x,cds (j:Int) (hidB b k) l = x:=⟨_,rfl⟩
     have HCL:=Lib.hid hcl
     have hX3:=hE3.X
     rw [List.take_length,hcl] at hX3
     have hn1:cl.length = n1:=ilen hX3.reads
     have HX3:=Lib.hid hX3
     have HN1:=Lib.hid hn1
     have hn15:n1 ≤ 500:=by
      rw [← hn1,← hcl]
      unfold cds
      rw [List.length_map]
      exact Nat.le_trans (List.length_filter_le _ _) (by rw [HNO.out];exact hn5)
     have hg3:∀ {g:Nat},g < gO → OnlyF (fun i => i = gO + 1) W1 w3 → ¬ (g = gO + 1):=fun h _ => by omega
     have HS3:Hid (MxS w b k us (gM + 1) gM gd gu gOut B j l used m2 f nM2 w3):=Lib.hid (by
      have a:=HS1.out
      have l9:=HLT.out
      have hOw:OnlyF (fun i => i = gO + 1) W1 w3:=hE3.F
      refine ⟨?_,a.out.onlyF hOw (by omega),a.res.onlyF hOw (by omega),a.H.onlyF hOw (by omega),⟨_,a.M.choose_spec.onlyF hOw (by omega)⟩,a.D.onlyF hOw (by omega) (by omega),a.fl,a.io,a.to,a.us,?_,a.N⟩
      ·exact a.O.onlyF_blk hOw (by have h:=(show Blk W1 (gO + 1) 25 #[.slice none 0 0] from by rw [← hW1];exact Blk.mk_ _ _ _ _ (by simp [hgO]));exact ⟨_,_,h,off_ints⟩)
      ·exact a.bel.trans (hOw.below a.bel.size (fun i hi => by omega)))
     have HC3:=Lib.hid hE3.C
     have HKO3:Hid (Blk w3 gO 3 #[.int .i64 (j:Int)]):=Lib.hid (HKO.out.onlyF hE3.F (by omega))
     have HZ3:Hid (gO + 2 ≤ w3.heap.size):=Lib.hid (by have:=hE3.F.size;have:=HS1z.out;omega)
     have cC:=(hE3.C.at_ 0).trans rfl
     clear hE3 hX3 hcl hn1 hg3 e0 hW1 HE1 HX HKO HS1 hbB
     by_cases hleft:us.length - used + 1 < n1
     ·have HSE:=Lib.hid (shuffle_end w3 gd gu us used HS3.out.D HS3.out.us (by rw [HUL.out];exact HNU.out) A1 n1 c1 hn15 hleft)
      have HLF:=Lib.hid hleft
      clear hleft
      go_wp2_with (first
       | (go_at_call 29;refine HSE.out.mono ?_;rintro e w4 ⟨rfl,hb4⟩;obtain ⟨w5,hw5⟩:∃ x,w4.setCell ⟨gO + 1,0,none⟩ (.slice none 0 0) = x:=⟨_,rfl⟩;have hC4:=HC3.out.call hb4;have q9:=(hC4.at_ 0).trans rfl;have f9:=hC4.free 0;have l9:=hC4.lt;have hg5:w4.grownBy w5 (some (gO + 1)):=(by rw [← hw5];exact only_setCell (only_refl _ _) (.inl rfl) _);have hR5:=(HS3.out.res.call hb4).grown hg5 (fun e => by injection e with e;have:=HLT.out;omega);have hB5:=(below_call HS3.out.bel hb4 HS3.out.bel.size).grown hg5 (Nat.le_trans HS3.out.bel.size hb4.size) (fun q hq => by injection hq with hq;have:=HLT.out;omega);obtain ⟨w6,hst,hk6,hg6⟩:=hR5.storeAll (ty:=33) zbd.toList (by rw [zbd_len];rfl) (by rw [size_board,zbd_len]) one_zbd;rw [Array.toArray_toList] at hst hk6;have HST:=Lib.hid hst;have HK6:=Lib.hid hk6;have HB6:=Lib.hid (hB5.grown hg6 hB5.size (fun q hq => by injection hq with hq;omega));clear hb4 hC4 hg5 hR5 hB5 hst hk6 hg6)
       | (refine wpList_op_by rfl (run_of_build (parts:=#[]) (parts':=#[]) rfl rfl built_zbd) ?_;simp only [Act.put,List.setIfInBounds_toArray,List.set_cons_succ,List.set_cons_zero])
       | (refine wpList_store_by HST.out rfl rfl rfl rfl ?_;simp only [Act.put,List.setIfInBounds_toArray,List.set_cons_succ,List.set_cons_zero])
       | fail)
      refine bodyPost_ret (v:=.tuple #[.agg zbd,.int .i64 16]) (ret_cell2 (fn:=Tryz.f9) (p:=6) (q:=7) rfl rfl HK6.out Tryz.underlying33 rfl (by rw [size_board];rfl)) rfl ?_
      exact ⟨HB6.out,.inl ⟨mixTo_none _ _ _ HJ.out HS3.out.to (by unfold mixStep;rw [HCL.out,HN1.out,if_pos HLF.out]),rfl⟩⟩
     ·have hgdu:gd ≠ gu:=fun e => by
       have h1:=HS3.out.D.D
       have h2:=HS3.out.D.U
       subst e
       unfold Blk at h1 h2
       rw [h1] at h2
       injection h2 with h2
       injection h2 with _ h2
       exact absurd h2 (by decide)
      have HSO:=Lib.hid (shuffle_ok w3 gd gu us used HS3.out.D hgdu (by rw [HUL.out];exact HNU.out) HUS.out A1 n1 c1 cl HX3.out.reads HX3.out.2 hn15 (by have:=HS3.out.us;omega))
      have HLF:Hid (¬ (us.length - used + 1 < n1)):=Lib.hid hleft
      clear hleft hgdu
      go_wp2_with (first
       | (go_at_call 29;refine HSO.out.mono ?_;rintro e w4 ⟨A2,c2,rfl,hx4,hd4,hg4⟩;obtain ⟨w5,hw5⟩:∃ x,w4.setCell ⟨gO + 1,0,none⟩ (.slice A2 n1 c2) = x:=⟨_,rfl⟩;have hC4:=HC3.out.grown hg4 (fun e => by injection e with e;have:=HLT.out;omega);have q9:=(hC4.at_ 0).trans rfl;have f9:=hC4.free 0;have l9:=hC4.lt;have hg5:w4.grownBy w5 (some (gO + 1)):=(by rw [← hw5];exact only_setCell (only_refl _ _) (.inl rfl) _);have HC5:Hid (Blk w5 (gO + 1) 25 #[.slice A2 n1 c2]):=Lib.hid (by rw [← hw5];exact hC4.put 0 _);have HS5:Hid (MxR w b gM gd gu gOut gO B j l m2 f nM2 us (used + (n1 - 1)) A2 n1 c2 (shuf us used cl) w5):=Lib.hid (mix_mid HS3.out HLT.out HKO3.out hC4 hx4 hd4 hg4 hg5 HZ3.out);have e0:w5.cell? ⟨gOut,0,none⟩ = some (.slice OA no Oc):=(HS5.out.out.at_ 0).trans (by show some (m2.O.v l.length) = _;rw [HMO.out,HNO.out];rfl);clear hx4 hd4 hg4 hC4 hg5)
       | fail)
      have HG:Hid (∃ g,(∀ A,A2 = some A → A.block = g) ∧ gO + 2 ≤ g):=Lib.hid (by
       have hX:=HS5.out.X
       cases A2 with
       | none => exact ⟨gO + 2,(fun A h => by cases h),Nat.le_refl _⟩
       | some A => exact ⟨A.block,(fun A' h => by injection h with h;rw [h]),(hX.lt A.block rfl).1⟩)
      obtain ⟨g,HG2⟩:=HG.out
      have HG3:=Lib.hid HG2
      clear HG2 HG
      have HE2:Hid (Calls Tryz.prog 27 #[.slice OA no Oc,.func (.func 26) #[] #[.pointer (some ⟨gO,0,none⟩),.pointer (some ⟨gM + 1,0,none⟩)],.func (.func 30) #[] #[.pointer (some ⟨gO + 1,0,none⟩),.pointer (some ⟨gM + 1,0,none⟩)]] w5
        fun e w' => e = .returned (.tuple #[]) ∧ ∃ q A9 f' nM',E2 w5 B { b with objs:=l } m2 (j:Int) (hidB b k) (gO + 1) gB gM g (shuf us used cl) n1 c2 (gO + 2) A2 f l.length q A9 f' nM' w'):=Lib.hid (by
       have a:=HS5.out
       have hl:=HLT.out
       have hN:=HS3.out.N
       have h:=each2_any w5 B { b with objs:=l } m2 (j:Int) (hidB b k) gO (gM + 1) gM nM2 (gO + 1) gB g f (shuf us used cl) n1 c2 (gO + 2) A2 a.O (by show l.length ≤ 500;rw [HNO.out];exact hn5) HGB.out.1 ⟨a.KO.lt,(a.KO.at_ 0).trans rfl⟩ a.H a.M a.X HC5.out (by rw [shuf_len,HCL.out]) HG3.out.1 (fun _ => by have:=HG3.out.2;have:=HGB.out.2;omega) ⟨by have:=HGB.out.2;omega,by have:=HGB.out.2;have:=hN.nB;omega,by omega⟩ ⟨hN.nB,by have:=hN.nB;omega⟩ HWI.out HINC.out (fun o ho h => HS3.out.fl o ho (by omega))
       rw [show m2.O.v ({ b with objs:=l }:Bd).objs.length = .slice OA no Oc by (show m2.O.v l.length = _;rw [HMO.out,HNO.out];rfl)] at h
       exact h)
      clear e0 HX3 HE3 HC3 HKO3 HZ3 q9 f9 l9
      refine HE2.out.mono ?_
      rintro e w6 ⟨rfl,q6,A6,f6,nM6,hE6⟩
      have HS6:Hid (MxS w b k us (gM + 1) gM gd gu gOut B (j + 1) (putC (j:Int) (hidB b k) l (shuf us used cl)) (used + (n1 - 1)) m2 f6 nM6 w6):=Lib.hid (mix_next HS3.out HS5.out HLT.out HGB.out.2 HCL.out HN1.out HLF.out HJ.out hE6)
      clear hE6 HS5 HE2 HSO HS3
      go_wp2_with fail
      go_roundw
      case rel => exact ⟨j + 1,_,_,m2,f6,nM6,by have:=HJ.out;omega,by go_num,HS6⟩
      case measure => simp [intOf];omega
    ·have hj2':decide ((j:Int) < 2) = false:=by simp;omega
     have hjj:j = 2:=by omega
     subst hjj
     have hF:=HS.out
     have hb:=hF.out
     have hone:=one_bd { b with objs:=l } m2
     have hlen:(Bd.cells { b with objs:=l } m2).length = 38:=rfl
     obtain ⟨BC,hBC⟩:∃ x,Bd.cells { b with objs:=l } m2 = x:=⟨_,rfl⟩
     rw [hBC] at hb hone hlen
     have HLP:Hid ((Instr.loadAt 33 (.pointer (some ⟨gOut,0,none⟩))).run Tryz.prog wr = .ok (.agg BC.toArray) wr):=Lib.hid (hb.mid BC _ (fun j v hj => by rw [Nat.zero_add];simpa using hj) Tryz.underlying33 rfl (by rw [size_board,hlen]))
     obtain ⟨W9,hst,hB9,hg9⟩:=hF.res.storeAll (ty:=33) BC (by rw [hlen];rfl) (by rw [size_board,hlen]) hone
     have HST:=Lib.hid hst
     have HB9:=Lib.hid hB9
     have HEND:Hid (mixO (hidB b k) us b.objs = some l ∧ BdO W9 w.heap.size { b with objs:=l } m2 ∧ Below w.heap.size w W9):=Lib.hid ⟨by rw [mixO_to,hF.to];rfl,(hF.O.blk hF.res hg9 off_board).more (by have:=hF.N.nB;have:=hF.N.nr;omega),hF.bel.grown hg9 hF.bel.size (fun q hq => by injection hq with hq;omega)⟩
     have HBE9:=Lib.hid hBC
     have HLEN:=Lib.hid hlen
     clear hb hone hlen hBC hst hB9 hg9 HS hF hj
     go_wp2_with (first | (refine wpList_load_by HLP.out rfl rfl rfl ?_;simp only [Act.put,List.setIfInBounds_toArray,List.set_cons_succ,List.set_cons_zero]) | (refine wpList_store_by HST.out rfl rfl rfl rfl ?_;simp only [Act.put,List.setIfInBounds_toArray,List.set_cons_succ,List.set_cons_zero]) | fail)
     refine bodyPost_ret (v:=.tuple #[.agg BC.toArray,.int .i64 0]) (ret_cell2 (fn:=Tryz.f9) (p:=6) (q:=7) rfl rfl HB9.out Tryz.underlying33 rfl (by rw [size_board];simp [HLEN.out])) rfl ?_
     exact ⟨HEND.out.2.2,.inr ⟨l,m2,HEND.out.1,by rw [HBE9.out],HEND.out.2.1⟩⟩
end Go.Proofs.YtagpphelgghbpaaGreat
