/-
  Texts: Smx.
-/
import Derived.Test.YtagpphelgghbpaaGreatMk43
import Derived.Test.YtagpphelgghbpaaGreatMk49
import Derived.Test.YtagpphelgghbpaaGreatMk46
import Derived.Test.YtagpphelgghbpaaGreatMk47
import Derived.Test.YtagpphelgghbpaaGreatMk52
import Derived.Test.YtagpphelgghbpaaGreatMk41
set_option linter.unusedSimpArgs false
set_option linter.unusedVariables false
namespace Go.Proofs.YtagpphelgghbpaaGreat
open Go.RowKit

def mxX (b:Bd) (k:Nat) (us:List Int):Bd × Int:=match mixO (hidB b k) us b.objs with
 | none => (zB,16)
 | some l => ({ b with objs:=l },0)
theorem bdO_z (W:World) (B:Nat):BdO W B zB zM:=⟨XOwns.nil_ _ _ _ _,fun q hq => by
 rcases (show q = 0 ∨ q = 1 ∨ q = 2 ∨ q = 3 ∨ q = 4 ∨ q = 5 ∨ q = 6 ∨ q = 7 ∨ q = 8 by omega) with rfl | rfl | rfl | rfl | rfl | rfl | rfl | rfl | rfl <;> exact XOwns.nil_ _ _ _ _,fun q r hq _ _ => .inl (by
 rcases (show q = 0 ∨ q = 1 ∨ q = 2 ∨ q = 3 ∨ q = 4 ∨ q = 5 ∨ q = 6 ∨ q = 7 ∨ q = 8 by omega) with rfl | rfl | rfl | rfl | rfl | rfl | rfl | rfl | rfl <;> rfl),⟨rfl,XOwns.nil_ _ _ _ _,fun i x t h => by simp [zB] at h⟩,⟨rfl,XOwns.nil_ _ _ _ _,fun i x t h => by simp [zB] at h⟩,XOwns.nil_ _ _ _ _⟩
theorem bdW_z:BdW zB:=⟨fun o h => by simp [zB] at h,fun q hq x h => by
 rcases (show q = 0 ∨ q = 1 ∨ q = 2 ∨ q = 3 ∨ q = 4 ∨ q = 5 ∨ q = 6 ∨ q = 7 ∨ q = 8 by omega) with rfl | rfl | rfl | rfl | rfl | rfl | rfl | rfl | rfl <;> simp [zB,Bd.li] at h,fun x h => by simp [zB] at h,fun x h => by simp [zB] at h,fun x h => by simp [zB] at h⟩
theorem bd_sm_z:BdSm zB:=⟨by simp [zB],⟨by simp [zB],by simp [zB],by simp [zB],by simp [zB],by simp [zB],by simp [zB],by simp [zB],by simp [zB]⟩,⟨by simp [zB],by simp [zB],by simp [zB],by simp [zB],by simp [zB],by simp [zB],by simp [zB],by simp [zB]⟩,by simp [zB],by simp [zB],by simp [zB],by simp [zB],by simp [zB],by simp [zB]⟩
theorem mxX_ok {b:Bd} {k:Nat} (hk:k < 2) (hv:b.Valid) (us:List Int):BdW (mxX b k us).1 ∧ BdSm (mxX b k us).1:=by
 unfold mxX
 cases hm:mixO (hidB b k) us b.objs with
 | none => exact ⟨bdW_z,bd_sm_z⟩
 | some l =>
  have h:=(mix_laws hk hv hm).1
  exact ⟨bdW_valid h,bd_sm h⟩
theorem mixEnd_x {b:Bd} {k:Nat} {us:List Int} {w:World} {e:Ending} {w':World} (h:MixEnd b k us w e w'):∃ mx,e = .returned (.tuple #[.agg ((mxX b k us).1.cells mx).toArray,.int .i64 (mxX b k us).2]) ∧ BdO w' w.heap.size (mxX b k us).1 mx ∧ Below w.heap.size w w':=by
 obtain ⟨hb,⟨hm,rfl⟩ | ⟨l,mx,hm,rfl,ho⟩⟩:=h
 ·unfold mxX
  rw [hm]
  exact ⟨zM,rfl,bdO_z _ _,hb⟩
 ·unfold mxX
  rw [hm]
  exact ⟨mx,rfl,ho,hb⟩
theorem box_any (W:World) (x:Bd) (mx:BdM) (cx:Array Value) (hcx:(x.cells mx).toArray = cx):∃ W1,(Instr.storeAt 33 (.pointer (some ⟨W.heap.size,0,none⟩)) (.agg cx)).run Tryz.prog (W.alloc (.cells zbd 33)) = .ok () W1 ∧ Blk W1 W.heap.size 33 cx ∧ Below W.heap.size W W1:=by
 obtain ⟨W1,hst,hk,hg⟩:=(Blk.mk_ W 33 zbd W.heap.size rfl).storeAll (ty:=33) (x.cells mx) rfl (by rw [size_board];rfl) (one_bd _ _)
 rw [hcx] at hst hk
 exact ⟨W1,hst,hk,((Below.refl _ _).alloc (Nat.le_refl _) _).grown hg (by simp) (fun q hq => by injection hq with hq;omega)⟩
theorem load_box {W:World} {g:Nat} {x:Bd} {mx:BdM} {cx:Array Value} (hcx:(x.cells mx).toArray = cx) (h:Blk W g 33 cx):(Instr.loadAt 33 (.pointer (some ⟨g,0,none⟩))).run Tryz.prog W = .ok (.agg cx) W:=by
 rw [← hcx] at h ⊢
 exact board_load h
theorem box_O {x:Bd} {mx:BdM} {cx:Array Value} {XA:Option Addr} {nx Xc:Nat} (hcx:(x.cells mx).toArray = cx) (hm:mx.O = ⟨XA,Xc⟩) (hn:x.objs.length = nx):cx[0]? = some (.slice XA nx Xc):=by
 rw [← hcx]
 show some (mx.O.v x.objs.length) = _
 rw [hm,hn]
 rfl
theorem ocs_dam {l:List Ob} {i:Nat} {o:Ob} (hi:l[i]? = some o):(ocs l)[i * 12 + 5]? = some (.int .i64 o.dam):=by
 induction l generalizing i with
 | nil => simp at hi
 | cons p l ih =>
  cases i with
  | zero =>
   simp at hi
   subst hi
   rfl
  | succ i =>
   have h:=ih (i:=i) (by simpa using hi)
   unfold ocs at h ⊢
   rw [List.flatMap_cons,List.getElem?_append_right (by simp [Ob.cells];omega),← h]
   congr 1
   simp [Ob.cells]
   omega
theorem ocs_sdam {l:List Ob} {i:Nat} {o:Ob} (hi:l[i]? = some o) (x:Int):(ocs l).set (i * 12 + 5) (.int .i64 x) = ocs (l.set i { o with dam:=x }):=by
 induction l generalizing i with
 | nil => simp at hi
 | cons p l ih =>
  cases i with
  | zero =>
   simp at hi
   subst hi
   rfl
  | succ i =>
   have h:=ih (i:=i) (by simpa using hi)
   unfold ocs at h ⊢
   rw [List.flatMap_cons,List.set_cons_succ,List.flatMap_cons,← h,List.set_append_right _ _ (by simp [Ob.cells];omega)]
   congr 2
   simp [Ob.cells]
   omega
structure TnS (w4:World) (g8 nx:Nat) (XA:Option Addr) (Xc:Nat) (c8:Array Value) (W:World):Prop where
 bel:Below w4.heap.size w4 W
 P:Blk W g8 33 c8
 X:∃ l:List Ob,l.length = nx ∧ XOwns W w4.heap.size 46 12 XA nx Xc (ocs l)
theorem TnS.below {w4:World} {g8 nx:Nat} {XA:Option Addr} {Xc:Nat} {c8:Array Value} {W W':World} (h:TnS w4 g8 nx XA Xc c8 W) (hb:Below W.heap.size W W'):TnS w4 g8 nx XA Xc c8 W':=by
 obtain ⟨l,h1,h2⟩:=h.X
 exact ⟨below_call h.bel hb h.bel.size,h.P.call hb,l,h1,h2.below hb⟩
theorem TnS.turn {w4:World} {g8 nx:Nat} {XA:Option Addr} {Xc:Nat} {c8:Array Value} {W:World} (h:TnS w4 g8 nx XA Xc c8 W) {i:Nat} (hi:i < nx):∃ gB x,XA = some ⟨gB,0,none⟩ ∧ gB < W.heap.size ∧ W.cell? ⟨gB,i * 12 + 5,none⟩ = some (.int .i64 x) ∧ W.frozen? ⟨gB,i * 12 + 5,none⟩ = false ∧ ∀ d,TnS w4 g8 nx XA Xc c8 (W.setCell ⟨gB,i * 12 + 5,none⟩ (.int .i64 d)):=by
 obtain ⟨l,h1,h2⟩:=h.X
 obtain ⟨o,ho⟩:=get_of (l:=l) (k:=i) (by rw [h1];exact hi)
 obtain ⟨gB,rfl,hgb,hl,hc,hf⟩:=h2.cell (ocs_dam ho)
 refine ⟨gB,o.dam,rfl,hl,hc,hf,fun d => ?_⟩
 have hg:W.grownBy (W.setCell ⟨gB,i * 12 + 5,none⟩ (.int .i64 d)) (some gB):=only_setCell (only_refl _ _) (.inl rfl) _
 refine ⟨h.bel.grown hg h.bel.size (fun q hq => by injection hq with hq;omega),h.P.grown hg (fun e => h2.apart_blk h.P (by decide) e.symm),l.set i { o with dam:=d },by rw [List.length_set];exact h1,?_⟩
 have h3:=h2.setX (i * 12 + 5) (.int .i64 d)
 rwa [ocs_sdam ho] at h3
set_option maxRecDepth 100000 in
set_option maxHeartbeats 6400000 in
theorem secmix_any (b:Bd) (m:BdM) (w:World) (p:Int) (hR:BdR w b m) (hz:b.plc.length < 9223372036854775807) (hBB:BdB b) (UA:Option Addr) (nu Uc:Nat) (us:List Int) (hU:Reads w 1 UA nu (ucs us)) (hUc:nu ≤ Uc ∧ Uc ≤ 9223372036854775807) (hus:∀ i,i < us.length → 0 ≤ ith us i ∧ ith us i ≤ 18446744073709551615) :
  Calls Tryz.prog 3 #[.agg (b.cells m).toArray,.int .i64 p,.slice UA nu Uc] w fun e w' => e = .returned (.bool true) ∧ Below w.heap.size w w':=by
 obtain ⟨cs,hcs⟩:∃ cs,(b.cells m).toArray = cs:=⟨_,rfl⟩
 have HCS:=Lib.hid hcs
 have HR:=Lib.hid hR
 have HZ:=Lib.hid hz
 have HBB:=Lib.hid hBB
 have HU:=Lib.hid hU
 have HUC:=Lib.hid hUc
 have HUS:=Lib.hid hus
 obtain ⟨g3,hg3⟩:∃ x,w.heap.size = x:=⟨_,rfl⟩
 obtain ⟨w1,hw1⟩:∃ x,w.alloc (.cells cs 33) = x:=⟨_,rfl⟩
 have hb1:Below w.heap.size w w1:=by rw [← hw1];exact (Below.refl _ _).alloc (Nat.le_refl _) _
 have HI1:Hid (Blk w1 g3 33 cs ∧ Below w.heap.size w w1):=Lib.hid ⟨by rw [← hw1];exact Blk.mk_ _ _ _ _ hg3,hb1⟩
 have HSM:Hid (Calls Tryz.prog 6 #[.agg cs] w1 (SmEnd w1)):=Lib.hid (by rw [← hcs];exact small_any b m w1 (hR.below hb1))
 have HVA:Hid (∀ W,Below w.heap.size w W → Calls Tryz.prog 11 #[.agg cs] W (BoolEnd b.Valid W)):=Lib.hid (fun W h => by rw [← hcs];exact rvalid_any b m W (hR.below h) hz)
 rw [hcs]
 clear hR hz hBB hU hUc hus hcs hb1
 go_enter Tryz.func3,Tryz.ntmps3
 go_wp2_with (first
  | (refine wpList_load_by (load_box HCS.out HI1.out.1) rfl rfl rfl ?_;simp only [Act.put,List.setIfInBounds_toArray,List.set_cons_succ,List.set_cons_zero])
  | fail)
 refine HSM.out.mono ?_
 rintro e w2 ⟨v,rfl,hb2⟩
 have HI2:Hid (Blk w2 g3 33 cs ∧ Below w.heap.size w w2):=Lib.hid ⟨HI1.out.1.call hb2,below_call HI1.out.2 hb2 HI1.out.2.size⟩
 clear hb2 HI1 HSM hw1 hg3
 cases v with
 | false =>
  go_wp2_with fail
  refine (known_any w2).mono ?_
  rintro e w99 ⟨rfl,hb99⟩
  have HB99:=Lib.hid (below_call HI2.out.2 hb99 HI2.out.2.size)
  clear hb99
  go_wp2_with fail
  go_ret
  exact ⟨rfl,HB99.out⟩
 | true =>
 by_cases hnu:(300:Int) < nu
 case pos =>
  have hnd:decide ((300:Int) < nu) = true:=by simpa using hnu
  go_wp2_with fail
  refine (known_any w2).mono ?_
  rintro e w99 ⟨rfl,hb99⟩
  have HB99:=Lib.hid (below_call HI2.out.2 hb99 HI2.out.2.size)
  clear hb99
  go_wp2_with fail
  go_ret
  exact ⟨rfl,HB99.out⟩
 have hnd:decide ((300:Int) < nu) = false:=by simpa using hnu
 have HNU:Hid (nu ≤ 300):=Lib.hid (by omega)
 have HCP:Hid (Calls Tryz.prog 8 #[.agg cs] w2 (CopyEnd b w2)):=Lib.hid (by rw [← HCS.out];exact rcopy_any b m w2 (HR.out.below HI2.out.2) HBB.out)
 go_wp2_with (first
  | (refine wpList_load_by (load_box HCS.out HI2.out.1) rfl rfl rfl ?_;simp only [Act.put,List.setIfInBounds_toArray,List.set_cons_succ,List.set_cons_zero])
  | fail)
 refine HCP.out.mono ?_
 rintro e w3 ⟨m3,rfl,ho3,hb3⟩
 obtain ⟨cx,hcx⟩:∃ z,(b.cells m3).toArray = z:=⟨_,rfl⟩
 obtain ⟨w4,hst,hk4,hb34⟩:=box_any w3 b m3 cx hcx
 have HI4:Hid (Blk w4 g3 33 cs ∧ Blk w4 w3.heap.size 33 cx ∧ BdO w4 w2.heap.size b m3 ∧ Below w.heap.size w w4):=Lib.hid ⟨(HI2.out.1.call hb3).call hb34,hk4,ho3.below hb34,(below_call (below_call HI2.out.2 hb3 HI2.out.2.size) hb34 (below_call HI2.out.2 hb3 HI2.out.2.size).size)⟩
 have HCX:=Lib.hid hcx
 unfold zbd at hst
 have HST:=Lib.hid hst
 obtain ⟨x,er,hmx,hgood,hbad⟩:∃ (x:Bd) (er:Int),(Calls Tryz.prog 9 #[.agg cx,.int .i64 p,.slice UA nu Uc] w4 fun e w' => ∃ mx,e = .returned (.tuple #[.agg (x.cells mx).toArray,.int .i64 er]) ∧ BdO w' w4.heap.size x mx ∧ Below w4.heap.size w4 w') ∧ (∀ k:Nat,p = k → k < 2 → b.Valid → x = (mxX b k us).1 ∧ er = (mxX b k us).2) ∧ (¬ ((p = 0 ∨ p = 1) ∧ b.Valid) → x = zB ∧ er = 2):=by
  by_cases hg:(p = 0 ∨ p = 1) ∧ b.Valid
  ·obtain ⟨k,hk,hk2⟩:∃ k:Nat,p = k ∧ k < 2:=⟨p.toNat,by omega,by omega⟩
   refine ⟨(mxX b k us).1,(mxX b k us).2,?_,fun k' h1 h2 h3 => ?_,fun h => absurd hg h⟩
   ·rw [← hcx,hk]
    exact (mix_any b m3 w4 k hk2 (HI4.out.2.2.1.isR HR.out.w) HZ.out hg.2 UA nu Uc us (HU.out.below HI4.out.2.2.2) (Nat.le_trans HNU.out (by decide)) HUS.out).mono fun e w' h => mixEnd_x h
   ·have:k' = k:=by omega
    rw [this]
    exact ⟨rfl,rfl⟩
  ·refine ⟨zB,2,?_,fun k h1 h2 h3 => absurd ⟨by omega,h3⟩ hg,fun _ => ⟨rfl,rfl⟩⟩
   rw [← hcx]
   refine (mix_bad b m3 w4 p _ (HI4.out.2.2.1.isR HR.out.w) HZ.out hg).mono ?_
   rintro e w' ⟨rfl,hb⟩
   exact ⟨zM,rfl,bdO_z _ _,hb⟩
 have HMX:=Lib.hid hmx
 have HGD:=Lib.hid hgood
 have HBD:=Lib.hid hbad
 rw [hcx]
 clear hcx hst hk4 hb34 ho3 hb3 hmx hgood hbad hnd hnu HCP HI2
 go_wp2_with (first
  | (refine wpList_store_by HST.out rfl rfl rfl rfl ?_;simp only [Act.put,List.setIfInBounds_toArray,List.set_cons_succ,List.set_cons_zero])
  | (refine wpList_load_by (load_box HCX.out HI4.out.2.1) rfl rfl rfl ?_;simp only [Act.put,List.setIfInBounds_toArray,List.set_cons_succ,List.set_cons_zero])
  | fail)
 refine HMX.out.mono ?_
 rintro e w5 ⟨mx,rfl,ho5,hb5⟩
 obtain ⟨c8,hc8⟩:∃ z,(x.cells mx).toArray = z:=⟨_,rfl⟩
 obtain ⟨w6,hst,hk6,hb56⟩:=box_any w5 x mx c8 hc8
 have hb46:=below_call hb5 hb56 hb5.size
 have HI6:Hid (Blk w6 g3 33 cs ∧ Blk w6 w5.heap.size 33 c8 ∧ BdO w6 w4.heap.size x mx ∧ Below w.heap.size w w6 ∧ Below w4.heap.size w4 w6):=Lib.hid ⟨HI4.out.1.call hb46,hk6,ho5.below hb56,below_call HI4.out.2.2.2 hb46 HI4.out.2.2.2.size,hb46⟩
 obtain ⟨nx,hnx⟩:∃ z,x.objs.length = z:=⟨_,rfl⟩
 obtain ⟨⟨XA,Xc⟩,hmX⟩:∃ z,mx.O = z:=⟨_,rfl⟩
 have HC8:=Lib.hid hc8
 have HNX:=Lib.hid hnx
 have HMO:=Lib.hid hmX
 have H80:=Lib.hid (box_O hc8 hmX hnx)
 unfold zbd at hst
 clear HST
 have HST:=Lib.hid hst
 rw [hc8]
 clear hst hk6 hb56 hb46 ho5 hb5 hc8 hnx hmX HMX
 go_wp2_with (first
  | (refine wpList_store_by HST.out rfl rfl rfl rfl ?_;simp only [Act.put,List.setIfInBounds_toArray,List.set_cons_succ,List.set_cons_zero])
  | fail)
 refine (lplayer_any p _).mono ?_
 rintro e w_ ⟨rfl,rfl⟩
 clear HST
 by_cases hp:p = 0 ∨ p = 1
 case neg =>
  have hpd:decide (p = 0 ∨ p = 1) = false:=decide_eq_false hp
  obtain ⟨hx,rfl⟩:=HBD.out (fun h => hp h.1)
  obtain rfl:nx = 0:=by rw [← HNX.out,hx];rfl
  have c0:w6.cell? ⟨w5.heap.size,0,none⟩ = some (.slice XA 0 Xc):=(HI6.out.2.1.at_ 0).trans H80.out
  rw [hpd]
  clear hp hpd hx
  go_wp2_with fail
  refine (known_any w6).mono ?_
  rintro e w99 ⟨rfl,hb99⟩
  have HB99:=Lib.hid (below_call HI6.out.2.2.2.1 hb99 HI6.out.2.2.2.1.size)
  clear hb99
  go_wp2_with fail
  go_ret
  exact ⟨rfl,HB99.out⟩
 have hpd:decide (p = 0 ∨ p = 1) = true:=decide_eq_true hp
 rw [hpd]
 have HP:Hid (p = 0 ∨ p = 1):=Lib.hid hp
 clear hp hpd
 go_wp2_with (first
  | (refine wpList_load_by (load_box HCS.out HI6.out.1) rfl rfl rfl ?_;simp only [Act.put,List.setIfInBounds_toArray,List.set_cons_succ,List.set_cons_zero])
  | fail)
 refine (HVA.out w6 HI6.out.2.2.2.1).mono ?_
 rintro e w7 ⟨v,rfl,hvv,hb7⟩
 have HI7:Hid (Blk w7 g3 33 cs ∧ Blk w7 w5.heap.size 33 c8 ∧ BdO w7 w4.heap.size x mx ∧ Below w.heap.size w w7 ∧ Below w4.heap.size w4 w7):=Lib.hid ⟨HI6.out.1.call hb7,HI6.out.2.1.call hb7,HI6.out.2.2.1.below hb7,below_call HI6.out.2.2.2.1 hb7 HI6.out.2.2.2.1.size,below_call HI6.out.2.2.2.2 hb7 HI6.out.2.2.2.2.size⟩
 have HVV:=Lib.hid hvv
 clear hvv hb7 HI6
 cases v with
 | false =>
  obtain ⟨hx,rfl⟩:=HBD.out (fun h => absurd (HVV.out.2 h.2) (by decide))
  obtain rfl:nx = 0:=by rw [← HNX.out,hx];rfl
  have c0:w7.cell? ⟨w5.heap.size,0,none⟩ = some (.slice XA 0 Xc):=(HI7.out.2.1.at_ 0).trans H80.out
  clear hx
  go_wp2_with fail
  refine (known_any w7).mono ?_
  rintro e w99 ⟨rfl,hb99⟩
  have HB99:=Lib.hid (below_call HI7.out.2.2.2.1 hb99 HI7.out.2.2.2.1.size)
  clear hb99
  go_wp2_with fail
  go_ret
  exact ⟨rfl,HB99.out⟩
 | true =>
 have HV:Hid b.Valid:=Lib.hid (HVV.out.1 rfl)
 obtain ⟨k,hk,hk2⟩:∃ k:Nat,p = k ∧ k < 2:=⟨p.toNat,by have:=HP.out;omega,by have:=HP.out;omega⟩
 have hgx:=HGD.out k hk hk2 HV.out
 have HXK:Hid (BdW x ∧ BdSm x):=Lib.hid (by rw [hgx.1];exact mxX_ok hk2 HV.out us)
 have HRM:Hid (Calls Tryz.prog 12 #[.agg cs,.int .i64 p,.slice UA nu Uc] w7 fun e w' => ∃ my,e = .returned (.tuple #[.agg (x.cells my).toArray,.int .i64 er]) ∧ BdO w' w7.heap.size x my ∧ Below w7.heap.size w7 w'):=Lib.hid (by
  have h:=(rmix_any b m w7 k hk2 (HR.out.below HI7.out.2.2.2.1) HBB.out HV.out UA nu Uc us (HU.out.below HI7.out.2.2.2.1) HUC.out HNU.out HUS.out).mono fun e w' h => mixEnd_x h
  rw [← hk,← hgx.1,← hgx.2,HCS.out] at h
  exact h)
 clear HVV hk hk2 hgx
 go_wp2_with (first
  | (refine wpList_load_by (load_box HCS.out HI7.out.1) rfl rfl rfl ?_;simp only [Act.put,List.setIfInBounds_toArray,List.set_cons_succ,List.set_cons_zero])
  | fail)
 refine HRM.out.mono ?_
 rintro e w8 ⟨my,rfl,ho8,hb8⟩
 obtain ⟨cA,hcA⟩:∃ z,(x.cells my).toArray = z:=⟨_,rfl⟩
 obtain ⟨w9,hst,hk9,hb89⟩:=box_any w8 x my cA hcA
 have hb79:=below_call hb8 hb89 hb8.size
 have HI9:Hid (Blk w9 w5.heap.size 33 c8 ∧ Blk w9 w8.heap.size 33 cA ∧ BdO w9 w4.heap.size x mx ∧ BdO w9 w7.heap.size x my ∧ Below w4.heap.size w4 w9):=Lib.hid ⟨HI7.out.2.1.call hb79,hk9,HI7.out.2.2.1.below hb79,ho8.below hb89,below_call HI7.out.2.2.2.2 hb79 HI7.out.2.2.2.2.size⟩
 have HCA:=Lib.hid hcA
 unfold zbd at hst
 have HST:=Lib.hid hst
 have HSA:Hid (Calls Tryz.prog 13 #[.agg c8,.agg cA] w9 fun e w' => e = .returned (.bool true) ∧ Below w9.heap.size w9 w'):=Lib.hid (by
  rw [← HC8.out,← hcA]
  exact rbsame_any x mx my w9 (HI9.out.2.2.1.isR HXK.out.1) (HI9.out.2.2.2.1.isR HXK.out.1) HXK.out.2)
 rw [hcA]
 clear hst hk9 hb89 hb79 ho8 hb8 hcA HRM HI7
 go_wp2_with (first
  | (refine wpList_store_by HST.out rfl rfl rfl rfl ?_;simp only [Act.put,List.setIfInBounds_toArray,List.set_cons_succ,List.set_cons_zero])
  | (refine wpList_load_by (load_box HC8.out HI9.out.1) rfl rfl rfl ?_;simp only [Act.put,List.setIfInBounds_toArray,List.set_cons_succ,List.set_cons_zero])
  | (refine wpList_load_by (load_box HCA.out HI9.out.2.1) rfl rfl rfl ?_;simp only [Act.put,List.setIfInBounds_toArray,List.set_cons_succ,List.set_cons_zero])
  | fail)
 refine HSA.out.mono ?_
 rintro e wA ⟨rfl,hbA⟩
 have HTA:Hid (TnS w4 w5.heap.size nx XA Xc c8 wA):=Lib.hid (TnS.below ⟨HI9.out.2.2.2.2,HI9.out.1,x.objs,HNX.out,by have h:=HI9.out.2.2.1.O;rw [HMO.out,HNX.out] at h;exact h⟩ hbA)
 have hn5:nx ≤ 500:=by rw [← HNX.out];exact HXK.out.2.O
 clear hbA HST HSA
 go_wp2_with fail
 go_loopw [12] (fun iv W => ∃ i:Nat,iv = .int .i64 i ∧ i ≤ nx ∧ Hid (TnS w4 w5.heap.size nx XA Xc c8 W)) (fun iv _ => nx - (intOf iv).toNat)
 case atStart => exact ⟨0,rfl,Nat.zero_le _,HTA⟩
 case round =>
  obtain ⟨i,rfl,hi,HT⟩:=hrel
  clear HTA
  by_cases hin:i < nx
  ·have hin':(i:Int) < nx:=by omega
   obtain ⟨gB,dm,hXA,l9,q9,f9,hnext⟩:=HT.out.turn hin
   have HNX2:=Lib.hid hnext
   have c0:wr.cell? ⟨w5.heap.size,0,none⟩ = some (.slice (some ⟨gB,0,none⟩) nx Xc):=by rw [← hXA];exact (HT.out.P.at_ 0).trans H80.out
   clear hnext hXA
   go_wp2_with fail
   go_roundw
   case rel => exact ⟨i + 1,by go_num,by omega,Lib.hid (HNX2.out _)⟩
   case measure => simp [intOf];omega
  ·have hid:decide ((i:Int) < nx) = false:=by simp;omega
   have c0:wr.cell? ⟨w5.heap.size,0,none⟩ = some (.slice XA nx Xc):=(HT.out.P.at_ 0).trans H80.out
   have HBE:=Lib.hid (below_call HI4.out.2.2.2 HT.out.bel HI4.out.2.2.2.size)
   have HSB:Hid (Calls Tryz.prog 13 #[.agg cx,.agg cs] wr fun e w' => e = .returned (.bool true) ∧ Below wr.heap.size wr w'):=Lib.hid (by
    rw [← HCX.out,← HCS.out]
    exact rbsame_any b m3 m wr ((HI4.out.2.2.1.below HT.out.bel).isR HR.out.w) (HR.out.below HBE.out) (bd_sm HV.out))
   have HP3:=Lib.hid (And.intro (HI4.out.1.call HT.out.bel) (HI4.out.2.1.call HT.out.bel))
   clear hi
   go_wp2_with (first
    | (refine wpList_load_by (load_box HCX.out HP3.out.2) rfl rfl rfl ?_;simp only [Act.put,List.setIfInBounds_toArray,List.set_cons_succ,List.set_cons_zero])
    | (refine wpList_load_by (load_box HCS.out HP3.out.1) rfl rfl rfl ?_;simp only [Act.put,List.setIfInBounds_toArray,List.set_cons_succ,List.set_cons_zero])
    | fail)
   refine HSB.out.mono ?_
   rintro e wB ⟨rfl,hbB⟩
   have HBF:=Lib.hid (below_call HBE.out hbB HBE.out.size)
   clear hbB
   go_wp2_with fail
   refine (known_any wB).mono ?_
   rintro e w99 ⟨rfl,hb99⟩
   have HB99:=Lib.hid (below_call HBF.out hb99 HBF.out.size)
   clear hb99
   go_wp2_with fail
   go_ret
   exact ⟨rfl,HB99.out⟩
end Go.Proofs.YtagpphelgghbpaaGreat
