/-
  Texts: Wrs, Wro.
-/
import Derived.Test.YtagpphelgghbpaaGreatMk30
import Derived.Test.YtagpphelgghbpaaGreatMk11
set_option linter.unusedSimpArgs false
set_option linter.unusedVariables false
namespace Go.Proofs.YtagpphelgghbpaaGreat
open Go.RowKit

def WrEnd (p:Nat) (ms:List Int) (w:World) (e:Ending) (w':World):Prop:=e = .returned (.tuple #[]) ∧ Wr w' p ms ∧ Wf p w w'
structure WrK (W:World) (p:Nat) (ns:List Int):Prop where
 h:Wr W p ns
 w:∀ x ∈ ns,wfI x
theorem WrK.call {W W':World} {p:Nat} {ns:List Int} (h:WrK W p ns) (hb:Below W.heap.size W W'):WrK W' p ns:=⟨WrB.call h.h hb,h.w⟩
theorem WrK.lt {W:World} {p:Nat} {ns:List Int} (h:WrK W p ns):p < W.heap.size:=WrB.lt h.h
theorem WrK.blk {W:World} {p:Nat} {ns:List Int} (h:WrK W p ns):∃ cs,Blk W p 163 cs:=by
 obtain ⟨A,n,c,bad,h1,_⟩:=h.h
 exact ⟨_,h1⟩
theorem WrK.ne {W:World} {p g t:Nat} {ns:List Int} {cs:Array Value} (h:WrK W p ns) (hg:Blk W g t cs) (ht:t ≠ 163):g ≠ p:=fun e => by
 subst e
 obtain ⟨cs',h1⟩:=h.blk
 unfold Blk at h1 hg
 rw [h1] at hg
 injection hg with hg
 injection hg with _ hg
 exact ht hg.symm
theorem RdT.wfk {W W':World} {p e size n:Nat} {A:Option Addr} {xs:List Value} {ns:List Int} (h:RdT W e size A n xs) (hw:Wf p W W') (hp:WrK W p ns) (he:e ≠ 5 ∧ e ≠ 163):RdT W' e size A n xs:=by
 exact h.wf hw hp.h he
theorem Blk.wfk {W W':World} {p g t:Nat} {cs:Array Value} {ns:List Int} (h:Blk W g t cs) (hw:Wf p W W') (hp:WrK W p ns) (he:t ≠ 5 ∧ t ≠ 163):Blk W' g t cs:=h.wf hw hp.h (hp.ne h he.2) he.1
theorem wput_lit (W:World) (p gL:Nat) (ns l:List Int) (hP:WrK W p ns) (hg:W.heap.size = gL) (hw:∀ x ∈ l,wfI x) (hsz:ns.length + l.length ≤ 1000000) :
  Calls Tryz.prog 125 #[.pointer (some ⟨p,0,none⟩),.slice (some ⟨gL,0,none⟩) l.length l.length] (W.alloc (.cells (ics l).toArray 3)) (WrEnd p (ns ++ l) W):=by
 have hb:Below W.heap.size W (W.alloc (.cells (ics l).toArray 3)):=(Below.refl _ _).alloc (Nat.le_refl _) _
 exact (wput_any _ p ns l 3 l.length l.length _ (hP.call hb).h (RdT.lit (Blk.mk_ W _ _ _ hg)) (by decide) hw hP.w hsz).mono fun e w' h => ⟨h.1,h.2.1,(Wf.of_below hb hP.lt).trans h.2.2⟩
theorem WrEnd.k {p:Nat} {ns l:List Int} {W W':World} {e:Ending} (h:WrEnd p (ns ++ l) W e W') (hw:∀ x ∈ ns,wfI x) (hl:∀ x ∈ l,wfI x):WrK W' p (ns ++ l):=⟨h.2.1,fun x hx => by
 rcases List.mem_append.1 hx with hx | hx
 ·exact hw x hx
 ·exact hl x hx⟩
set_option maxRecDepth 100000 in
set_option maxHeartbeats 1600000 in
theorem wsize_any (W:World) (p:Nat) (ns:List Int) (x y:Int) (hP:WrK W p ns) (hw:wfI x) (hsz:ns.length + 1 ≤ 1000000):Calls Tryz.prog 129 #[.pointer (some ⟨p,0,none⟩),.int .i64 x,.int .i64 y] W (WrEnd p (ns ++ [x]) W):=by
 obtain ⟨A,n,c,bad,hp,hx⟩:=hP.h
 have HP:=Lib.hid hp
 have HX:=Lib.hid hx
 have HNS:=Lib.hid hP.w
 have HW:=Lib.hid hw
 have HSZ:=Lib.hid hsz
 clear hP hp hx hw hsz
 go_enter Tryz.func129,Tryz.ntmps129
 first
  | (iterate 0 go_step
     refine wr_bad0 W p n c A bad _ x y HP.out HX.out _ _ _ _ _ _ _ _ _ _ _ _ _ _ _ _ _ _ _ _ ?_ ?_)
  | (iterate 1 go_step
     refine wr_bad0 W p n c A bad _ x y HP.out HX.out _ _ _ _ _ _ _ _ _ _ _ _ _ _ _ _ _ _ _ _ ?_ ?_)
  | (iterate 2 go_step
     refine wr_bad0 W p n c A bad _ x y HP.out HX.out _ _ _ _ _ _ _ _ _ _ _ _ _ _ _ _ _ _ _ _ ?_ ?_)
  | (iterate 3 go_step
     refine wr_bad0 W p n c A bad _ x y HP.out HX.out _ _ _ _ _ _ _ _ _ _ _ _ _ _ _ _ _ _ _ _ ?_ ?_)
  | (iterate 4 go_step
     refine wr_bad0 W p n c A bad _ x y HP.out HX.out _ _ _ _ _ _ _ _ _ _ _ _ _ _ _ _ _ _ _ _ ?_ ?_)
  | (iterate 5 go_step
     refine wr_bad0 W p n c A bad _ x y HP.out HX.out _ _ _ _ _ _ _ _ _ _ _ _ _ _ _ _ _ _ _ _ ?_ ?_)
  | (iterate 6 go_step
     refine wr_bad0 W p n c A bad _ x y HP.out HX.out _ _ _ _ _ _ _ _ _ _ _ _ _ _ _ _ _ _ _ _ ?_ ?_)
  | (iterate 7 go_step
     refine wr_bad0 W p n c A bad _ x y HP.out HX.out _ _ _ _ _ _ _ _ _ _ _ _ _ _ _ _ _ _ _ _ ?_ ?_)
  | (iterate 8 go_step
     refine wr_bad0 W p n c A bad _ x y HP.out HX.out _ _ _ _ _ _ _ _ _ _ _ _ _ _ _ _ _ _ _ _ ?_ ?_)
  | (iterate 9 go_step
     refine wr_bad0 W p n c A bad _ x y HP.out HX.out _ _ _ _ _ _ _ _ _ _ _ _ _ _ _ _ _ _ _ _ ?_ ?_)
  | (iterate 10 go_step
     refine wr_bad0 W p n c A bad _ x y HP.out HX.out _ _ _ _ _ _ _ _ _ _ _ _ _ _ _ _ _ _ _ _ ?_ ?_)
  | (iterate 11 go_step
     refine wr_bad0 W p n c A bad _ x y HP.out HX.out _ _ _ _ _ _ _ _ _ _ _ _ _ _ _ _ _ _ _ _ ?_ ?_)
  | (iterate 12 go_step
     refine wr_bad0 W p n c A bad _ x y HP.out HX.out _ _ _ _ _ _ _ _ _ _ _ _ _ _ _ _ _ _ _ _ ?_ ?_)
  | (iterate 13 go_step
     refine wr_bad0 W p n c A bad _ x y HP.out HX.out _ _ _ _ _ _ _ _ _ _ _ _ _ _ _ _ _ _ _ _ ?_ ?_)
  | (iterate 14 go_step
     refine wr_bad0 W p n c A bad _ x y HP.out HX.out _ _ _ _ _ _ _ _ _ _ _ _ _ _ _ _ _ _ _ _ ?_ ?_)
 ·exact fun d _ _ _ _ h => by cases d <;> exact h
 intro v6 v7 v8 v9 v10 v11 v12 v13 v14 v15 v16 v17 bad2 w2 h2
 have HK2:Hid (WrK w2 p ns):=Lib.hid ⟨⟨_,_,_,_,h2.1,h2.2.1⟩,HNS.out⟩
 have HF2:=Lib.hid h2.2.2
 have HPU:=Lib.hid (wput_lit w2 p w2.heap.size ns [x] HK2.out rfl (fun z hz => by rw [List.mem_singleton] at hz;rw [hz];exact HW.out) HSZ.out)
 clear h2
 go_wp2_with fail
 refine HPU.out.mono ?_
 rintro e w3 ⟨rfl,h3,hf3⟩
 go_wp2_with fail
 refine bodyPost_end (R:=WrEnd p (ns ++ [x]) W) (v:=.tuple #[]) (by simp [results,Tryz.f129]) rfl ⟨rfl,h3,HF2.out.trans hf3⟩
theorem bool_at {w:World} {A:Option Addr} {n:Nat} {xs:List Bool} (h:Reads w 1 A n (xs.map Value.bool)) {k:Nat} (hk:k < n):∃ ad b,A = some ad ∧ ad.block < w.heap.size ∧ xs[k]? = some b ∧ w.cell? (ad.add k) = some (.bool b):=by
 obtain ⟨ad,e,hb,hc⟩:=h.2 (by omega)
 have hl:xs.length = n:=by have:=h.1;simpa using this
 have hg:xs[k]? = some (xs[k]'(by omega)):=List.getElem?_eq_getElem (by omega)
 exact ⟨ad,_,e,hb,hg,hc k _ (by rw [List.getElem?_map,hg];rfl)⟩
theorem tf_wf (b:Bool):wfI (tf b):=by unfold wfI tf;cases b <;> decide
set_option maxRecDepth 100000 in
set_option maxHeartbeats 1600000 in
theorem wflag_any (w:World) (p:Nat) (ns:List Int) (l:List Bool) (e n c:Nat) (A:Option Addr) (hP:WrK w p ns) (hL:RdT w e 1 A n (l.map Value.bool)) (he:e ≠ 5 ∧ e ≠ 163) (hsz:ns.length + n ≤ 1000000):Calls Tryz.prog 127 #[.pointer (some ⟨p,0,none⟩),.slice A n c] w (WrEnd p (ns ++ l.map tf) w):=by
 have HP:=Lib.hid hP
 have HL:=Lib.hid hL
 have HE:=Lib.hid he
 have HSZ:=Lib.hid hsz
 have HN:Hid (l.length = n):=Lib.hid (by have:=hL.r.1;simpa using this)
 have hn:n ≤ 1000000:=by omega
 clear hP hL he hsz
 go_enter Tryz.func127,Tryz.ntmps127
 go_wp2
 go_loopw [9] (fun i W => ∃ k:Nat,k ≤ n ∧ i = .int .i64 k ∧ Hid (WrK W p (ns ++ (l.take k).map tf) ∧ Wf p w W)) (fun i _ => n - (intOf i).toNat)
 case atStart => exact ⟨0,Nat.zero_le _,rfl,Lib.hid ⟨by simpa using HP.out,Wf.refl _ HP.out.lt⟩⟩
 case round =>
  obtain ⟨k,hk,rfl,HI⟩:=hrel
  by_cases hkn:k < n
  ·have hkn':(k:Int) < n:=by omega
   have HLk:=Lib.hid (HL.out.wfk HI.out.2 HP.out HE.out)
   obtain ⟨ad,b,rfl,-,hb,e0⟩:=bool_at HLk.out.r hkn
   have HT:Hid (ns ++ (l.take (k + 1)).map tf = (ns ++ (l.take k).map tf) ++ [tf b]):=Lib.hid (by rw [take_snoc hb,List.map_append,List.append_assoc];rfl)
   have HLE:Hid ((ns ++ (l.take k).map tf).length + 1 ≤ 1000000):=Lib.hid (by
    rw [List.length_append,List.length_map,List.length_take]
    have:=HSZ.out
    omega)
   have HPU:=Lib.hid (wput_lit wr p wr.heap.size _ [tf b] HI.out.1 rfl (fun z hz => by rw [List.mem_singleton] at hz;rw [hz];exact tf_wf b) HLE.out)
   clear hb
   cases b with
   | true =>
    go_wp2_with fail
    refine HPU.out.mono ?_
    intro e w3 h3
    have hk3:=h3.k HI.out.1.w (fun z hz => by rw [List.mem_singleton] at hz;rw [hz];exact tf_wf _)
    obtain ⟨rfl,-,hf3⟩:=h3
    have HI3:Hid (WrK w3 p (ns ++ (l.take (k + 1)).map tf) ∧ Wf p w w3):=Lib.hid ⟨by rw [HT.out];exact hk3,HI.out.2.trans hf3⟩
    clear hk3 hf3
    go_wp2_with fail
    go_roundw
    case rel => exact ⟨k + 1,by omega,by go_num,HI3⟩
    case measure => simp [intOf];omega
   | false =>
    go_wp2_with fail
    refine HPU.out.mono ?_
    intro e w3 h3
    have hk3:=h3.k HI.out.1.w (fun z hz => by rw [List.mem_singleton] at hz;rw [hz];exact tf_wf _)
    obtain ⟨rfl,-,hf3⟩:=h3
    have HI3:Hid (WrK w3 p (ns ++ (l.take (k + 1)).map tf) ∧ Wf p w w3):=Lib.hid ⟨by rw [HT.out];exact hk3,HI.out.2.trans hf3⟩
    clear hk3 hf3
    go_wp2_with fail
    go_roundw
    case rel => exact ⟨k + 1,by omega,by go_num,HI3⟩
    case measure => simp [intOf];omega
  ·obtain rfl:k = n:=by omega
   go_wp2_with fail
   refine bodyPost_end (R:=WrEnd p (ns ++ l.map tf) w) (v:=.tuple #[]) (by simp [results,Tryz.f127]) rfl ⟨rfl,?_,HI.out.2⟩
   have h:=HI.out.1.h
   rw [List.take_of_length_le (by rw [HN.out];exact Nat.le_refl _)] at h
   exact h

theorem wflag_lit (W:World) (p gL:Nat) (ns:List Int) (l:List Bool) (hP:WrK W p ns) (hg:W.heap.size = gL) (hsz:ns.length + l.length ≤ 1000000) :
  Calls Tryz.prog 127 #[.pointer (some ⟨p,0,none⟩),.slice (some ⟨gL,0,none⟩) l.length l.length] (W.alloc (.cells (l.map Value.bool).toArray 4)) (WrEnd p (ns ++ l.map tf) W):=by
 have hb:Below W.heap.size W (W.alloc (.cells (l.map Value.bool).toArray 4)):=(Below.refl _ _).alloc (Nat.le_refl _) _
 have hk:=Blk.mk_ W 4 (l.map Value.bool).toArray _ hg
 exact (wflag_any _ p ns l 4 l.length l.length _ (hP.call hb) ⟨reads_block hk 1 l.length (by simp),fun _ j hj => by
  have:gL = j:=Option.some.inj hj
  subst this
  exact ⟨_,hk⟩⟩ (by decide) hsz).mono fun e w' h => ⟨h.1,h.2.1,(Wf.of_below hb hP.lt).trans h.2.2⟩
theorem wf_nat {n:Nat} (h:n ≤ 1000000):wfI (n:Int):=by unfold wfI;omega
theorem tfs_wf (l:List Bool):∀ z ∈ l.map tf,wfI z:=fun z hz => by
 obtain ⟨b,_,rfl⟩:=List.mem_map.1 hz
 exact tf_wf b
set_option maxRecDepth 100000 in
set_option maxHeartbeats 3200000 in
theorem wobjs_any (w:World) (p:Nat) (ns:List Int) (l:List Ob) (n c:Nat) (A:Option Addr) (hP:WrK w p ns) (hL:RdT w 46 12 A n (ocs l)) (hw:∀ o ∈ l,∀ x ∈ obN o,wfI x) (hsz:ns.length + (1 + 12 * n) ≤ 1000000):Calls Tryz.prog 126 #[.pointer (some ⟨p,0,none⟩),.slice A n c] w (WrEnd p (ns ++ obsN l) w):=by
 have HP:=Lib.hid hP
 have HL:=Lib.hid hL
 have HW:=Lib.hid hw
 have HSZ:=Lib.hid hsz
 have HN:=Lib.hid (rlen (enc:=Ob.cells) (fun _ => rfl) (by decide) hL.r)
 have hn:n ≤ 100000:=by omega
 have HS0:=Lib.hid (wsize_any w p ns (n:Int) 1000 hP (wf_nat (by omega)) (by omega))
 clear hP hL hw hsz
 go_enter Tryz.func126,Tryz.ntmps126
 go_wp2_with fail
 refine HS0.out.mono ?_
 intro e w2 h2
 have hk2:=h2.k HP.out.w (fun z hz => by rw [List.mem_singleton] at hz;rw [hz];exact wf_nat (by omega))
 obtain ⟨rfl,-,hf2⟩:=h2
 have HI2:Hid (WrK w2 p (ns ++ ((n:Int) :: (l.take 0).flatMap obN)) ∧ Wf p w w2):=Lib.hid ⟨by simpa using hk2,hf2⟩
 clear hk2 hf2
 go_wp2_with fail
 go_loopw [12] (fun i W => ∃ k:Nat,k ≤ n ∧ i = .int .i64 k ∧ Hid (WrK W p (ns ++ ((n:Int) :: (l.take k).flatMap obN)) ∧ Wf p w W)) (fun i _ => n - (intOf i).toNat)
 case atStart => exact ⟨0,Nat.zero_le _,rfl,HI2⟩
 case round =>
  obtain ⟨k,hk,rfl,HI⟩:=hrel
  clear HI2
  by_cases hkn:k < n
  ·have hkn':(k:Int) < n:=by omega
   obtain ⟨o,ho⟩:=get_of (l:=l) (k:=k) (by rw [HN.out];exact hkn)
   have HLk:=Lib.hid (HL.out.wfk HI.out.2 HP.out (by decide))
   obtain ⟨ad,rfl,-,c0,c1,c2,c3,c4,c5,c6,c7,c8,c9,c10,c11⟩:=obj_at HLk.out.r ho hkn
   have HO:=Lib.hid (HW.out o (List.mem_of_getElem? ho))
   have HT:Hid (ns ++ ((n:Int) :: (l.take (k + 1)).flatMap obN) = ((ns ++ ((n:Int) :: (l.take k).flatMap obN)) ++ [o.id,o.card,o.own,o.pow,o.tou,o.dam,o.cnt,o.pp,o.pt]) ++ [o.tap,o.sick,o.doom].map tf):=Lib.hid (by rw [take_snoc ho,List.flatMap_append];simp [obN])
   have HLE:Hid ((ns ++ ((n:Int) :: (l.take k).flatMap obN)).length + 12 ≤ 1000000):=Lib.hid (by
    have h1:=flatMap_len (enc:=fun o => (obN o).map (Value.int .i64)) (k:=12) (fun _ => rfl) (l.take k)
    have h2:((l.take k).flatMap obN).length = (l.take k).length * 12:=by
     have e:(l.take k).flatMap (fun o => (obN o).map (Value.int .i64)) = ((l.take k).flatMap obN).map (Value.int .i64):=by rw [List.map_flatMap]
     rw [e,List.length_map] at h1
     exact h1
    rw [List.length_append,List.length_cons,h2,List.length_take]
    have:=HSZ.out
    omega)
   obtain ⟨w7,hw7⟩:∃ w7,wr.alloc (.cells #[.int .i64 o.id,.int .i64 o.card,.int .i64 o.own,.int .i64 o.pow,.int .i64 o.tou,.int .i64 o.dam,.int .i64 o.cnt,.int .i64 o.pp,.int .i64 o.pt,.bool o.tap,.bool o.sick,.bool o.doom] 46) = w7:=⟨_,rfl⟩
   have hb7:Below wr.heap.size wr w7:=by rw [← hw7];exact (Below.refl _ _).alloc (Nat.le_refl _) _
   have hk7:Blk w7 wr.heap.size 46 #[.int .i64 o.id,.int .i64 o.card,.int .i64 o.own,.int .i64 o.pow,.int .i64 o.tou,.int .i64 o.dam,.int .i64 o.cnt,.int .i64 o.pp,.int .i64 o.pt,.bool o.tap,.bool o.sick,.bool o.doom]:=by rw [← hw7];exact Blk.mk_ _ _ _ _ rfl
   have HK7:=Lib.hid hk7
   have HWK7:=Lib.hid (HI.out.1.call hb7)
   have HF7:=Lib.hid (HI.out.2.then hb7)
   have d0:=(hk7.at_ 0).trans rfl
   have d1:=(hk7.at_ 1).trans rfl
   have d2:=(hk7.at_ 2).trans rfl
   have d3:=(hk7.at_ 3).trans rfl
   have d4:=(hk7.at_ 4).trans rfl
   have d5:=(hk7.at_ 5).trans rfl
   have d6:=(hk7.at_ 6).trans rfl
   have d7:=(hk7.at_ 7).trans rfl
   have d8:=(hk7.at_ 8).trans rfl
   have d9:=(hk7.at_ 9).trans rfl
   have d10:=(hk7.at_ 10).trans rfl
   have d11:=(hk7.at_ 11).trans rfl
   have HPU:=Lib.hid (wput_lit w7 p w7.heap.size _ [o.id,o.card,o.own,o.pow,o.tou,o.dam,o.cnt,o.pp,o.pt] HWK7.out rfl (fun z hz => HO.out z (by unfold obN;simp only [List.mem_cons,List.not_mem_nil,or_false] at hz ⊢;rcases hz with h | h | h | h | h | h | h | h | h <;> simp [h])) (by have:=HLE.out;simp only [List.length_cons,List.length_nil];omega))
   clear ho hk7 hb7 HI
   go_wp2_with fail
   refine HPU.out.mono ?_
   intro e w8 h8
   have hk8:=h8.k HWK7.out.w (fun z hz => HO.out z (by unfold obN;simp only [List.mem_cons,List.not_mem_nil,or_false] at hz ⊢;rcases hz with h | h | h | h | h | h | h | h | h <;> simp [h]))
   obtain ⟨rfl,-,hf8⟩:=h8
   have HWK8:=Lib.hid hk8
   have HF8:=Lib.hid (HF7.out.trans hf8)
   have hk8b:=HK7.out.wfk hf8 HWK7.out (by decide)
   have HPF:=Lib.hid (wflag_lit w8 p w8.heap.size _ [o.tap,o.sick,o.doom] HWK8.out rfl (by have:=HLE.out;simp only [List.length_append,List.length_cons,List.length_nil] at this ⊢;omega))
   clear d0 d1 d2 d3 d4 d5 d6 d7 d8 d9 d10 d11 c0 c1 c2 c3 c4 c5 c6 c7 c8 c9 c10 c11 hk8 hf8
   have d9:=(hk8b.at_ 9).trans rfl
   have d10:=(hk8b.at_ 10).trans rfl
   have d11:=(hk8b.at_ 11).trans rfl
   clear hk8b
   go_wp2_with fail
   refine HPF.out.mono ?_
   intro e w9 h9
   have hk9:=h9.k HWK8.out.w (tfs_wf _)
   obtain ⟨rfl,-,hf9⟩:=h9
   have HI9:Hid (WrK w9 p (ns ++ ((n:Int) :: (l.take (k + 1)).flatMap obN)) ∧ Wf p w w9):=Lib.hid ⟨by rw [HT.out];exact hk9,HF8.out.trans hf9⟩
   clear hk9 hf9 d9 d10 d11 hw7
   go_wp2_with fail
   go_roundw
   case rel => exact ⟨k + 1,by omega,by go_num,HI9⟩
   case measure => simp [intOf];omega
  ·have HKE:Hid (k = n):=Lib.hid (by omega)
   clear hk
   go_wp2_with fail
   refine bodyPost_end (R:=WrEnd p (ns ++ obsN l) w) (v:=.tuple #[]) (by simp [results,Tryz.f126]) rfl ⟨rfl,?_,HI.out.2⟩
   have h:=HI.out.1.h
   rw [List.take_of_length_le (by rw [HN.out,HKE.out];exact Nat.le_refl _),← HN.out] at h
   exact h
structure ItT (W:World) (A:Option Addr) (n:Nat) (l:List It) (ts:List Sl):Prop where
 row:RdT W 55 5 A n (itcs (l.zip ts))
 len:ts.length = l.length
 tg:∀ (i:Nat) (x:It) (t:Sl),l[i]? = some x → ts[i]? = some t → RdT W 124 2 t.A x.tgs.length (tcs x.tgs)
theorem ItT.wfk {W W':World} {p n:Nat} {A:Option Addr} {l:List It} {ts:List Sl} {ns:List Int} (h:ItT W A n l ts) (hw:Wf p W W') (hp:WrK W p ns):ItT W' A n l ts:=⟨h.row.wfk hw hp (by decide),h.len,fun i x t h1 h2 => (h.tg i x t h1 h2).wfk hw hp (by decide)⟩
theorem ItT.call {W W':World} {n:Nat} {A:Option Addr} {l:List It} {ts:List Sl} (h:ItT W A n l ts) (hb:Below W.heap.size W W'):ItT W' A n l ts:=⟨h.row.call hb,h.len,fun i x t h1 h2 => (h.tg i x t h1 h2).call hb⟩
theorem ItT.of_o {W:World} {B:Nat} {s:Sl} {l:List It} {ts:List Sl} (h:IsO W B s l ts):ItT W s.A l.length l ts:=⟨RdT.of_x h.row,h.len,fun i x t h1 h2 => RdT.of_x (h.tg i x t h1 h2)⟩
theorem itN_len (x:It):(itN x).length = 5 + 2 * x.tgs.length:=by
 unfold itN
 rw [List.length_append]
 have:∀ l:List Tg,(l.flatMap tgN).length = 2 * l.length:=fun l => by
  induction l with
  | nil => rfl
  | cons t l ih => rw [List.flatMap_cons,List.length_append,ih];simp [tgN];omega
 rw [this]
 simp
theorem itsN_len {l:List It} (h:∀ x ∈ l,x.tgs.length ≤ 4):(l.flatMap itN).length ≤ 13 * l.length:=by
 induction l with
 | nil => simp
 | cons x l ih =>
  rw [List.flatMap_cons,List.length_append,itN_len,List.length_cons]
  have h1:=h x (List.mem_cons_self ..)
  have h2:=ih (fun y hy => h y (List.mem_cons_of_mem _ hy))
  omega
set_option maxRecDepth 100000 in
set_option maxHeartbeats 3200000 in
theorem wits_any (w:World) (p:Nat) (ns:List Int) (l:List It) (ts:List Sl) (n c:Nat) (A:Option Addr) (hP:WrK w p ns) (hL:ItT w A n l ts) (hn1:l.length = n) (hw:∀ x ∈ l,∀ z ∈ itN x,wfI z) (h4:∀ x ∈ l,x.tgs.length ≤ 4) (hsz:ns.length + (1 + 13 * n) ≤ 1000000):Calls Tryz.prog 128 #[.pointer (some ⟨p,0,none⟩),.slice A n c] w (WrEnd p (ns ++ itsN l) w):=by
 have HP:=Lib.hid hP
 have HL:=Lib.hid hL
 have HW:=Lib.hid hw
 have H4:=Lib.hid h4
 have HSZ:=Lib.hid hsz
 have HN:=Lib.hid hn1
 have hn:n ≤ 100000:=by omega
 have HS0:=Lib.hid (wsize_any w p ns (n:Int) 1000 hP (wf_nat (by omega)) (by omega))
 clear hP hL hw hsz h4 hn1
 go_enter Tryz.func128,Tryz.ntmps128
 go_wp2_with fail
 refine HS0.out.mono ?_
 intro e w2 h2
 have hk2:=h2.k HP.out.w (fun z hz => by rw [List.mem_singleton] at hz;rw [hz];exact wf_nat (by omega))
 obtain ⟨rfl,-,hf2⟩:=h2
 have HI2:Hid (WrK w2 p (ns ++ ((n:Int) :: (l.take 0).flatMap itN)) ∧ Wf p w w2):=Lib.hid ⟨by simpa using hk2,hf2⟩
 clear hk2 hf2
 go_wp2_with fail
 go_loopw [14] (fun i W => ∃ k:Nat,k ≤ n ∧ i = .int .i64 k ∧ Hid (WrK W p (ns ++ ((n:Int) :: (l.take k).flatMap itN)) ∧ Wf p w W)) (fun i _ => n - (intOf i).toNat)
 case atStart => exact ⟨0,Nat.zero_le _,rfl,HI2⟩
 case round =>
  obtain ⟨k,hk,rfl,HI⟩:=hrel
  clear HI2
  by_cases hkn:k < n
  ·have hkn':(k:Int) < n:=by omega
   obtain ⟨x,hx⟩:=get_of (l:=l) (k:=k) (by rw [HN.out];exact hkn)
   obtain ⟨⟨TA,Tc⟩,ht⟩:=get_of (l:=ts) (k:=k) (by rw [HL.out.len,HN.out];exact hkn)
   have HLk:=Lib.hid (HL.out.wfk HI.out.2 HP.out)
   obtain ⟨ad,rfl,-,c0,c1,c2,c3,c4⟩:=item_at HLk.out.row.r (i:=k) (x:=x) (t:=⟨TA,Tc⟩) (by rw [List.getElem?_zip_eq_some];exact ⟨hx,ht⟩) hkn
   obtain ⟨nt,hnt⟩:∃ z,x.tgs.length = z:=⟨_,rfl⟩
   have HTG:=Lib.hid (HL.out.tg k x ⟨TA,Tc⟩ hx ht)
   have HX:=Lib.hid (HW.out x (List.mem_of_getElem? hx))
   have HX4:=Lib.hid (H4.out x (List.mem_of_getElem? hx))
   have hnt4:nt ≤ 4:=by rw [← hnt];exact HX4.out
   dsimp only at c4 HTG
   rw [hnt] at c4 HTG
   have HNT:=Lib.hid hnt
   have HT:Hid (ns ++ ((n:Int) :: (l.take (k + 1)).flatMap itN) = (((ns ++ ((n:Int) :: (l.take k).flatMap itN)) ++ [x.pl,x.id,x.card,x.trg]) ++ [(nt:Int)]) ++ x.tgs.flatMap tgN):=Lib.hid (by rw [take_snoc hx,List.flatMap_append];simp [itN,hnt])
   have HLE:Hid ((ns ++ ((n:Int) :: (l.take k).flatMap itN)).length + 13 ≤ 1000000):=Lib.hid (by
    have h1:=itsN_len (l:=l.take k) (fun y hy => H4.out y (List.mem_of_mem_take hy))
    rw [List.length_take] at h1
    rw [List.length_append,List.length_cons]
    have:=HSZ.out
    omega)
   obtain ⟨w7,hw7⟩:∃ w7,wr.alloc (.cells #[.int .i64 x.pl,.int .i64 x.id,.int .i64 x.card,.int .i64 x.trg,.slice TA nt Tc] 55) = w7:=⟨_,rfl⟩
   have hb7:Below wr.heap.size wr w7:=by rw [← hw7];exact (Below.refl _ _).alloc (Nat.le_refl _) _
   have hk7:Blk w7 wr.heap.size 55 #[.int .i64 x.pl,.int .i64 x.id,.int .i64 x.card,.int .i64 x.trg,.slice TA nt Tc]:=by rw [← hw7];exact Blk.mk_ _ _ _ _ rfl
   have HK7:=Lib.hid hk7
   have HWK7:=Lib.hid (HI.out.1.call hb7)
   have HF7:=Lib.hid (HI.out.2.then hb7)
   have d0:=(hk7.at_ 0).trans rfl
   have d1:=(hk7.at_ 1).trans rfl
   have d2:=(hk7.at_ 2).trans rfl
   have d3:=(hk7.at_ 3).trans rfl
   have hw4:∀ z ∈ [x.pl,x.id,x.card,x.trg],wfI z:=fun z hz => HX.out z (by unfold itN;exact List.mem_append_left _ (by simp only [List.mem_cons,List.not_mem_nil,or_false] at hz ⊢;rcases hz with h | h | h | h <;> simp [h]))
   have HPU:=Lib.hid (wput_lit w7 p w7.heap.size _ [x.pl,x.id,x.card,x.trg] HWK7.out rfl hw4 (by have:=HLE.out;simp only [List.length_cons,List.length_nil];omega))
   have HW4:=Lib.hid hw4
   clear hx ht hk7 hb7 HI hw4 hnt
   go_wp2_with fail
   refine HPU.out.mono ?_
   intro e w8 h8
   have hk8:=h8.k HWK7.out.w HW4.out
   obtain ⟨rfl,-,hf8⟩:=h8
   have HWK8:=Lib.hid hk8
   have HF8:=Lib.hid (HF7.out.trans hf8)
   have hk8b:=HK7.out.wfk hf8 HWK7.out (by decide)
   have HK8:=Lib.hid hk8b
   have HSI:=Lib.hid (wsize_any w8 p _ (nt:Int) 16 HWK8.out (wf_nat (by omega)) (by have:=HLE.out;simp only [List.length_append,List.length_cons,List.length_nil] at this ⊢;omega))
   clear d0 d1 d2 d3 c0 c1 c2 c3 c4 hk8 hf8
   have d4:=(hk8b.at_ 4).trans rfl
   clear hk8b
   go_wp2_with fail
   refine HSI.out.mono ?_
   intro e w9 h9
   have hk9:=h9.k HWK8.out.w (fun z hz => by rw [List.mem_singleton] at hz;rw [hz];exact wf_nat (by omega))
   obtain ⟨rfl,-,hf9⟩:=h9
   have HF9:=Lib.hid (HF8.out.trans hf9)
   have HK9:=Lib.hid (HK8.out.wfk hf9 HWK8.out (by decide))
   have HI9:Hid (WrK w9 p ((((ns ++ ((n:Int) :: (l.take k).flatMap itN)) ++ [x.pl,x.id,x.card,x.trg]) ++ [(nt:Int)]) ++ (x.tgs.take 0).flatMap tgN) ∧ Wf p w w9):=Lib.hid ⟨by simpa using hk9,HF9.out⟩
   clear hk9 hf9 d4
   have d4:=(HK9.out.at_ 4).trans rfl
   obtain ⟨ms,hms⟩:∃ z,((ns ++ ((n:Int) :: (l.take k).flatMap itN)) ++ [x.pl,x.id,x.card,x.trg]) ++ [(nt:Int)] = z:=⟨_,rfl⟩
   have HML:Hid (ms.length + 8 ≤ 1000000):=Lib.hid (by rw [← hms];have:=HLE.out;simp only [List.length_append,List.length_cons,List.length_nil] at this ⊢;omega)
   rw [hms] at HI9 HT
   clear hms
   go_wp2_with fail
   clear d4 hw7
   go_loopw [37] (fun i W => ∃ j:Nat,j ≤ nt ∧ i = .int .i64 j ∧ Hid (WrK W p (ms ++ (x.tgs.take j).flatMap tgN) ∧ Wf p w W)) (fun i _ => nt - (intOf i).toNat)
   case atStart => exact ⟨0,Nat.zero_le _,rfl,HI9⟩
   case round =>
    obtain ⟨j,hj,rfl,HJ⟩:=hrel
    clear HI9
    by_cases hjn:j < nt
    ·have hjn':(j:Int) < nt:=by omega
     obtain ⟨y,hy⟩:=get_of (l:=x.tgs) (k:=j) (by rw [HNT.out];exact hjn)
     have HTk:=Lib.hid (HTG.out.wfk HJ.out.2 HP.out (by decide))
     obtain ⟨ad2,rfl,-,g0,g1⟩:=tgt_at HTk.out.r hy hjn
     have HT2:Hid (ms ++ (x.tgs.take (j + 1)).flatMap tgN = (ms ++ (x.tgs.take j).flatMap tgN) ++ [y.id,y.pl]):=Lib.hid (by rw [take_snoc hy,List.flatMap_append];simp [tgN])
     have hw2:∀ z ∈ [y.id,y.pl],wfI z:=fun z hz => HX.out z (by unfold itN;exact List.mem_append_right _ (List.mem_flatMap.2 ⟨y,List.mem_of_getElem? hy,hz⟩))
     have HLE2:Hid ((ms ++ (x.tgs.take j).flatMap tgN).length + 2 ≤ 1000000):=Lib.hid (by
      have h1:((x.tgs.take j).flatMap tgN).length = 2 * (x.tgs.take j).length:=by
       have:∀ l:List Tg,(l.flatMap tgN).length = 2 * l.length:=fun l => by
        induction l with
        | nil => rfl
        | cons t l ih => rw [List.flatMap_cons,List.length_append,ih];simp [tgN];omega
       exact this _
      rw [List.length_append,h1,List.length_take]
      have:=HML.out
      omega)
     obtain ⟨wa,hwa⟩:∃ z,wr.alloc (.cells #[.int .i64 y.id,.int .i64 y.pl] 124) = z:=⟨_,rfl⟩
     have hba:Below wr.heap.size wr wa:=by rw [← hwa];exact (Below.refl _ _).alloc (Nat.le_refl _) _
     have hka:Blk wa wr.heap.size 124 #[.int .i64 y.id,.int .i64 y.pl]:=by rw [← hwa];exact Blk.mk_ _ _ _ _ rfl
     have HWKa:=Lib.hid (HJ.out.1.call hba)
     have HFa:=Lib.hid (HJ.out.2.then hba)
     have d0:=(hka.at_ 0).trans rfl
     have d1:=(hka.at_ 1).trans rfl
     have HPU2:=Lib.hid (wput_lit wa p wa.heap.size _ [y.id,y.pl] HWKa.out rfl hw2 HLE2.out)
     have HW2:=Lib.hid hw2
     clear hy hka hba HJ hw2
     go_wp2_with fail
     refine HPU2.out.mono ?_
     intro e wb hb
     have hkb:=hb.k HWKa.out.w HW2.out
     obtain ⟨rfl,-,hfb⟩:=hb
     have HIb:Hid (WrK wb p (ms ++ (x.tgs.take (j + 1)).flatMap tgN) ∧ Wf p w wb):=Lib.hid ⟨by rw [HT2.out];exact hkb,HFa.out.trans hfb⟩
     clear hkb hfb d0 d1 hwa g0 g1
     go_wp2_with fail
     go_roundw
     case rel => exact ⟨j + 1,by omega,by go_num,HIb⟩
     case measure => simp [intOf];omega
    ·have HJE:Hid (j = nt):=Lib.hid (by omega)
     have HIc:Hid (WrK wr p (ns ++ ((n:Int) :: (l.take (k + 1)).flatMap itN)) ∧ Wf p w wr):=Lib.hid ⟨by
      rw [HT.out]
      have h:=HJ.out.1
      rw [List.take_of_length_le (by rw [HNT.out,HJE.out];exact Nat.le_refl _)] at h
      exact h,HJ.out.2⟩
     clear hj HJ
     go_wp2_with fail
     go_roundw
     case rel => exact ⟨k + 1,by omega,by go_num,HIc⟩
     case measure => simp [intOf];omega
  ·have HKE:Hid (k = n):=Lib.hid (by omega)
   clear hk
   go_wp2_with fail
   refine bodyPost_end (R:=WrEnd p (ns ++ itsN l) w) (v:=.tuple #[]) (by simp [results,Tryz.f128]) rfl ⟨rfl,?_,HI.out.2⟩
   have h:=HI.out.1.h
   rw [List.take_of_length_le (by rw [HN.out,HKE.out];exact Nat.le_refl _),← HN.out] at h
   exact h
end Go.Proofs.YtagpphelgghbpaaGreat
