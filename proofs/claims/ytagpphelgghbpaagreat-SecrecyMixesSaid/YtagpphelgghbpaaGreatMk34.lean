/-
  Texts: Mxe, Shu.
-/
import Derived.Test.YtagpphelgghbpaaGreatMk24
import Derived.Test.YtagpphelgghbpaaGreatMk18
import Derived.Test.YtagpphelgghbpaaGreatMk11
set_option linter.unusedSimpArgs false
set_option linter.unusedVariables false
namespace Go.Proofs.YtagpphelgghbpaaGreat
open Go.RowKit

theorem own_obj {W:World} {B n c gB:Nat} {l:List Ob} (h:XOwns W B 46 12 (some ⟨gB,0,none⟩) n c (ocs l)) {i:Nat} {o:Ob} (hi:l[i]? = some o) {j:Nat} {u:Value} (hj:j < 12) (hu:o.cells[j]? = some u):W.cell? ⟨gB,i * 12 + j,none⟩ = some u:=by
 obtain ⟨g',e,-,-,h1,-⟩:=h.cell (j:=i * 12 + j) (u:=u) (by rw [ocs,flatMap_at (enc:=Ob.cells) (k:=12) (fun _ => rfl) hi hj];exact hu)
 injection e with e
 injection e with e
 subst e
 exact h1
theorem own_addr {W:World} {B n c:Nat} {A:Option Addr} {l:List Ob} (h:XOwns W B 46 12 A n c (ocs l)) {i:Nat} {o:Ob} (hi:l[i]? = some o):∃ gB,A = some ⟨gB,0,none⟩ ∧ B ≤ gB ∧ gB < W.heap.size:=by
 obtain ⟨g',e,h1,h2,-,-⟩:=h.cell (j:=i * 12 + 0) (u:=.int .i64 o.id) (by rw [ocs,flatMap_at (enc:=Ob.cells) (k:=12) (fun _ => rfl) hi (by decide)];rfl)
 exact ⟨g',e,h1,h2⟩
theorem cds_snoc (own:Int) (H:Int → Bool) {l:List Ob} {k:Nat} {o:Ob} (h:l[k]? = some o):cds own H (l.take (k + 1)) = if mine own H o then cds own H (l.take k) ++ [o.card] else cds own H (l.take k):=by
 unfold cds
 rw [take_snoc h,List.filter_append]
 cases hm:mine own H o <;> simp [hm]
theorem putC_snoc (own:Int) (H:Int → Bool) (o:Ob):∀ (l:List Ob) (cs:List Int),putC own H (l ++ [o]) cs = putC own H l cs ++ [if mine own H o then { o with card:=(cs.drop (cds own H l).length).headD 0 } else o]
 | [],cs => by
  simp only [List.nil_append,putC]
  split <;> simp [cds]
 | p :: l,cs => by
  rw [List.cons_append,putC,putC,cds_cons]
  split
  ·rename_i hp
   rw [putC_snoc own H o l cs.tail,List.cons_append]
   congr 3
   rw [List.length_cons]
   cases cs with
   | nil => simp
   | cons c cs => simp
  ·rw [putC_snoc own H o l cs,List.cons_append]
structure E1 (w:World) (l:List Ob) (own:Int) (H:Int → Bool) (gC k n c:Nat) (A:Option Addr) (W:World):Prop where
 X:XOwns W w.heap.size 3 1 A n c (ics (cds own H (l.take k)))
 C:Blk W gC 25 #[.slice A n c]
 F:OnlyF (fun j => j = gC) w W
set_option maxRecDepth 100000 in
set_option maxHeartbeats 3200000 in
theorem each1_any (w:World) (B no Oc:Nat) (OA:Option Addr) (l:List Ob) (own:Int) (gO gH gM nM gC:Nat) (f:Int → Option Bool) (H:Int → Bool) (hX:XOwns w B 46 12 OA no Oc (ocs l)) (hno:l.length = no) (hn:no ≤ 500)
  (hO:CellK w gO 0 (.int .i64 own)) (hH:CellK w gH 0 (.map (some gM))) (hM:MapB w gM nM f) (hC:Blk w gC 25 #[.slice none 0 0]) (hne:gO ≠ gC ∧ gH ≠ gC ∧ gM ≠ gC) (hw:∀ o ∈ l,wfI o.id) (hf:∀ o ∈ l,o.own = own → (f o.id).getD false = H o.id) :
  Calls Tryz.prog 27 #[.slice OA no Oc,.func (.func 26) #[] #[.pointer (some ⟨gO,0,none⟩),.pointer (some ⟨gH,0,none⟩)],.func (.func 28) #[] #[.pointer (some ⟨gC,0,none⟩)]] w
   fun e w' => e = .returned (.tuple #[]) ∧ ∃ A n c,E1 w l own H gC l.length n c A w':=by
 have HX:=Lib.hid hX
 have HNO:=Lib.hid hno
 have HR:=Lib.hid (And.intro hO (And.intro hH (And.intro hM (And.intro hne (And.intro hw hf)))))
 have HC:=Lib.hid hC
 have hCl:=hC.lt
 have HCL:=Lib.hid hCl
 have HE0:Hid (E1 w l own H gC 0 0 0 none w):=Lib.hid ⟨XOwns.nil_ _ _ _ _,hC,OnlyF.refl _⟩
 clear hX hno hO hH hM hC hne hw hf hCl
 go_enter Tryz.func27,Tryz.ntmps27
 go_wp2
 go_loopw [9] (fun i W => ∃ (k:Nat) (A:Option Addr) (n c:Nat),k ≤ no ∧ i = .int .i64 k ∧ Hid (E1 w l own H gC k n c A W)) (fun i _ => no - (intOf i).toNat)
 case atStart => exact ⟨0,none,0,0,Nat.zero_le _,rfl,HE0⟩
 case round =>
  obtain ⟨k,A,n,c,hk,rfl,HE⟩:=hrel
  clear HE0
  by_cases hkn:k < no
  ·have hkn':(k:Int) < no:=by omega
   obtain ⟨o,ho⟩:=get_of (l:=l) (k:=k) (by rw [HNO.out];exact hkn)
   obtain ⟨gB,hA,hBB,hBl⟩:=own_addr HX.out ho
   have hX0:=HX.out
   rw [hA] at hX0
   have hbc:gB ≠ gC:=fun e => by
    subst e
    exact hX0.apart_blk HC.out (by decide) rfl
   have hX9:=hX0.onlyF HE.out.F (fun i hi e => hbc ((Option.some.inj hi:gB = i).trans e))
   subst hA
   have c0:wr.cell? ⟨gB,k * 12,none⟩ = some (.int .i64 o.id):=own_obj hX9 ho (j:=0) (by decide) rfl
   have c1:wr.cell? ⟨gB,k * 12 + 1,none⟩ = some (.int .i64 o.card):=own_obj hX9 ho (j:=1) (by decide) rfl
   have c2:wr.cell? ⟨gB,k * 12 + 2,none⟩ = some (.int .i64 o.own):=own_obj hX9 ho (j:=2) (by decide) rfl
   have c3:wr.cell? ⟨gB,k * 12 + 3,none⟩ = some (.int .i64 o.pow):=own_obj hX9 ho (j:=3) (by decide) rfl
   have c4:wr.cell? ⟨gB,k * 12 + 4,none⟩ = some (.int .i64 o.tou):=own_obj hX9 ho (j:=4) (by decide) rfl
   have c5:wr.cell? ⟨gB,k * 12 + 5,none⟩ = some (.int .i64 o.dam):=own_obj hX9 ho (j:=5) (by decide) rfl
   have c6:wr.cell? ⟨gB,k * 12 + 6,none⟩ = some (.int .i64 o.cnt):=own_obj hX9 ho (j:=6) (by decide) rfl
   have c7:wr.cell? ⟨gB,k * 12 + 7,none⟩ = some (.int .i64 o.pp):=own_obj hX9 ho (j:=7) (by decide) rfl
   have c8:wr.cell? ⟨gB,k * 12 + 8,none⟩ = some (.int .i64 o.pt):=own_obj hX9 ho (j:=8) (by decide) rfl
   have c9:wr.cell? ⟨gB,k * 12 + 9,none⟩ = some (.bool o.tap):=own_obj hX9 ho (j:=9) (by decide) rfl
   have c10:wr.cell? ⟨gB,k * 12 + 10,none⟩ = some (.bool o.sick):=own_obj hX9 ho (j:=10) (by decide) rfl
   have c11:wr.cell? ⟨gB,k * 12 + 11,none⟩ = some (.bool o.doom):=own_obj hX9 ho (j:=11) (by decide) rfl
   have HCK:Hid (CellK wr gB (k * 12 + 1) (.int .i64 o.card)):=Lib.hid ⟨Nat.lt_of_lt_of_le hBl HE.out.F.size,c1⟩
   have hMI:=mine_any o own gO gH gM nM f H wr (HR.out.1.onlyF HE.out.F HR.out.2.2.2.1.1).c (HR.out.1.onlyF HE.out.F HR.out.2.2.2.1.1).lt (HR.out.2.1.onlyF HE.out.F HR.out.2.2.2.1.2.1).c (HR.out.2.1.onlyF HE.out.F HR.out.2.2.2.1.2.1).lt ⟨_,HR.out.2.2.1.choose_spec.onlyF HE.out.F HR.out.2.2.2.1.2.2⟩ (HR.out.2.2.2.2.1 o (List.mem_of_getElem? ho)) (HR.out.2.2.2.2.2 o (List.mem_of_getElem? ho))
   have HS:=Lib.hid (cds_snoc own H ho)
   have HNL:Hid (n ≤ 500):=Lib.hid (by
    have h1:=HE.out.X.len
    have h2:(ics (cds own H (l.take k))).length ≤ k:=by
     unfold ics cds
     rw [List.length_map,List.length_map]
     exact Nat.le_trans (List.length_filter_le _ _) (by rw [List.length_take];exact Nat.min_le_left _ _)
    omega)
   cases hm:mine own H o with
   | true =>
    rw [hm] at hMI
    have HMI:=Lib.hid hMI
    rw [hm,if_pos rfl] at HS
    clear hMI hm ho hBB hBl hX0 hbc hX9
    go_wp2_with fail
    refine HMI.out.mono ?_
    rintro e w2 ⟨rfl,hb2⟩
    have HCO:=Lib.hid (col_any w2 w.heap.size gC gB (k * 12) A n c (cds own H (l.take k)) o.card (HE.out.C.call hb2) (HE.out.X.below hb2) (Nat.le_trans HE.out.F.size hb2.size) (HCK.out.call hb2) (Nat.le_trans HNL.out (by decide)))
    have HF2:=Lib.hid (HE.out.F.then hb2)
    clear hb2 c0 c1 c2 c3 c4 c5 c6 c7 c8 c9 c10 c11
    go_wp2_with fail
    refine HCO.out.mono ?_
    rintro e w3 ⟨rfl,A3,cc3,hc3,hx3,hf3⟩
    have HE3:Hid (E1 w l own H gC (k + 1) (n + 1) cc3 A3 w3):=Lib.hid ⟨by rw [HS.out];exact hx3,hc3,HF2.out.trans hf3 (fun i h1 h2 => by rcases h1 with h1 | h1 <;> omega)⟩
    clear hc3 hx3 hf3
    go_wp2_with fail
    go_roundw
    case rel => exact ⟨k + 1,A3,n + 1,cc3,by omega,by go_num,HE3⟩
    case measure => simp [intOf];omega
   | false =>
    rw [hm] at hMI
    have HMI:=Lib.hid hMI
    rw [hm,if_neg (by decide)] at HS
    clear hMI hm ho hBB hBl hX0 hbc hX9
    go_wp2_with fail
    refine HMI.out.mono ?_
    rintro e w2 ⟨rfl,hb2⟩
    have HE3:Hid (E1 w l own H gC (k + 1) n c A w2):=Lib.hid ⟨by rw [HS.out];exact HE.out.X.below hb2,HE.out.C.call hb2,HE.out.F.then hb2⟩
    clear hb2 c0 c1 c2 c3 c4 c5 c6 c7 c8 c9 c10 c11
    go_wp2_with fail
    go_roundw
    case rel => exact ⟨k + 1,A,n,c,by omega,by go_num,HE3⟩
    case measure => simp [intOf];omega
  ·have HKE:Hid (k = no):=Lib.hid (by omega)
   clear hk
   go_wp2_with fail
   refine bodyPost_end (v:=.tuple #[]) (by simp [results,Tryz.f27]) rfl ⟨rfl,A,n,c,by rw [HNO.out,← HKE.out];exact HE.out⟩
theorem put_next (own:Int) (H:Int → Bool) {l:List Ob} {cs:List Int} {k:Nat} {o:Ob} (h:l[k]? = some o) (hm:mine own H o = true) {x:Int} (hx:cs[(cds own H (l.take k)).length]? = some x):(putC own H (l.take k) cs ++ l.drop k).set k { o with card:=x } = putC own H (l.take (k + 1)) cs ++ l.drop (k + 1):=by
 have hk:k < l.length:=(List.getElem?_eq_some_iff.1 h).1
 have hd:l.drop k = o :: l.drop (k + 1):=by
  rw [List.drop_eq_getElem_cons hk]
  congr 1
  exact (List.getElem?_eq_some_iff.1 h).2
 have hl:(putC own H (l.take k) cs).length = k:=by rw [putC_len,List.length_take];omega
 rw [take_snoc h,putC_snoc,hd,List.set_append_right _ _ (by omega),hl,Nat.sub_self,List.set_cons_zero,hm,if_pos rfl,List.append_assoc,List.cons_append,List.nil_append]
 congr 4
 have:=(List.getElem?_eq_some_iff.1 hx)
 obtain ⟨h1,h2⟩:=this
 rw [List.drop_eq_getElem_cons h1,List.headD_cons,h2]
theorem put_same (own:Int) (H:Int → Bool) {l:List Ob} {cs:List Int} {k:Nat} {o:Ob} (h:l[k]? = some o) (hm:mine own H o = false):putC own H (l.take k) cs ++ l.drop k = putC own H (l.take (k + 1)) cs ++ l.drop (k + 1):=by
 have hk:k < l.length:=(List.getElem?_eq_some_iff.1 h).1
 have hd:l.drop k = o :: l.drop (k + 1):=by
  rw [List.drop_eq_getElem_cons hk]
  congr 1
  exact (List.getElem?_eq_some_iff.1 h).2
 rw [take_snoc h,putC_snoc,hd,hm]
 simp
theorem put_here (own:Int) (H:Int → Bool) {l:List Ob} {cs:List Int} {k:Nat} {o:Ob} (h:l[k]? = some o):(putC own H (l.take k) cs ++ l.drop k)[k]? = some o:=by
 have hk:k < l.length:=(List.getElem?_eq_some_iff.1 h).1
 have hl:(putC own H (l.take k) cs).length = k:=by rw [putC_len,List.length_take];omega
 rw [List.getElem?_append_right (by omega),hl,Nat.sub_self,List.getElem?_drop,Nat.add_zero]
 exact h
theorem cds_lt (own:Int) (H:Int → Bool) {l:List Ob} {k:Nat} {o:Ob} (h:l[k]? = some o) (hm:mine own H o = true):(cds own H (l.take k)).length < (cds own H l).length:=by
 have h1:=cds_snoc own H h
 rw [hm,if_pos rfl] at h1
 have h2:l = l.take (k + 1) ++ l.drop (k + 1):=(List.take_append_drop _ _).symm
 have h3:cds own H l = cds own H (l.take (k + 1)) ++ cds own H (l.drop (k + 1)):=by
  conv => lhs;rw [h2]
  unfold cds
  rw [List.filter_append,List.map_append]
 rw [h3,h1,List.length_append,List.length_append,List.length_singleton]
 omega
structure E2 (w:World) (B:Nat) (b:Bd) (m:BdM) (own:Int) (H:Int → Bool) (gC gB gM g:Nat) (cs:List Int) (n c B':Nat) (LA:Option Addr) (f0:Int → Option Bool) (k q:Nat) (A9:Option Addr) (f':Int → Option Bool) (nM':Nat) (W:World):Prop where
 O:BdO W B { b with objs:=putC own H (b.objs.take k) cs ++ b.objs.drop k } m
 qe:q = (cds own H (b.objs.take k)).length
 C:Blk W gC 25 #[.slice A9 (n - q) (c - q)]
 a:q < n → A9 = some ⟨g,q,none⟩
 M:MapB W gM nM' f'
 f1:∀ (i:Nat) (o:Ob),k ≤ i → b.objs[i]? = some o → o.own = own → (f' o.id).getD false = H o.id
 f2:∀ o ∈ b.objs,o.own ≠ own → f' o.id = f0 o.id
 L:XOwns W B' 3 1 LA n c (ics cs)
 F:OnlyF (fun j => j = gC ∨ j = gB ∨ j = gM) w W
set_option maxRecDepth 100000 in
set_option maxHeartbeats 3200000 in
theorem each2_any (w:World) (B:Nat) (b:Bd) (m:BdM) (own:Int) (H:Int → Bool) (gO gH gM nM gC gB g:Nat) (f:Int → Option Bool) (cs:List Int) (n c B':Nat) (LA:Option Addr) (hB:BdO w B b m) (hn5:b.objs.length ≤ 500) (hgB:∀ A,m.O.A = some A → A.block = gB)
  (hO:CellK w gO 0 (.int .i64 own)) (hH:Blk w gH 69 #[.map (some gM)]) (hM:MapB w gM nM f) (hL:XOwns w B' 3 1 LA n c (ics cs)) (hC:Blk w gC 25 #[.slice LA n c]) (hcs:cs.length = (cds own H b.objs).length) (hg:∀ A,LA = some A → A.block = g)
  (hneL:0 < n → ¬ (g = gC ∨ g = gB ∨ g = gM)) (hne:¬ (gO = gC ∨ gO = gB ∨ gO = gM) ∧ ¬ (gH = gC ∨ gH = gB ∨ gH = gM) ∧ gC ≠ gM) (hlow:gH < B ∧ gM < B) (hw:∀ o ∈ b.objs,wfI o.id) (hinc:∀ (i j:Nat) (x y:Ob),i < j → b.objs[i]? = some x → b.objs[j]? = some y → x.id < y.id) (hf:∀ o ∈ b.objs,o.own = own → (f o.id).getD false = H o.id) :
  Calls Tryz.prog 27 #[m.O.v b.objs.length,.func (.func 26) #[] #[.pointer (some ⟨gO,0,none⟩),.pointer (some ⟨gH,0,none⟩)],.func (.func 30) #[] #[.pointer (some ⟨gC,0,none⟩),.pointer (some ⟨gH,0,none⟩)]] w
   fun e w' => e = .returned (.tuple #[]) ∧ ∃ q A9 f' nM',E2 w B b m own H gC gB gM g cs n c B' LA f b.objs.length q A9 f' nM' w':=by
 obtain ⟨⟨OA,Oc⟩,hmO⟩:∃ x,m.O = x:=⟨_,rfl⟩
 obtain ⟨no,hno⟩:∃ x,b.objs.length = x:=⟨_,rfl⟩
 have hnc:cs.length = n:=ilen hL.reads
 have hcap:=hL.capOk
 have HE0:Hid (E2 w B b m own H gC gB gM g cs n c B' LA f 0 0 LA f nM w):=Lib.hid (by
  refine ⟨?_,rfl,hC,fun h => ?_,hM,fun i o _ ho h => hf o (List.mem_of_getElem? ho) h,fun _ _ _ => rfl,hL,OnlyF.refl _⟩
  ·simpa [putC] using hB
  ·obtain ⟨g',e,_⟩:=hL.cell (j:=0) (u:=.int .i64 (ith cs 0)) (by rw [ics,List.getElem?_map,ith_get (by omega)];rfl)
   rw [e,← hg _ e])
 have HR:=Lib.hid (And.intro hO (And.intro hH (And.intro hne (And.intro hlow (And.intro hw (And.intro hinc (And.intro hneL (And.intro hg (And.intro hgB (And.intro hcs (And.intro hnc (And.intro hcap hn5))))))))))))
 have HNO:=Lib.hid hno
 have HMO:=Lib.hid hmO
 rw [hmO,hno]
 simp only [Sl.v]
 have hn5':no ≤ 500:=by omega
 clear hB hn5 hgB hO hH hM hL hC hcs hg hneL hne hlow hw hinc hf hnc hcap hno hmO
 go_enter Tryz.func27,Tryz.ntmps27
 go_wp2
 go_loopw [9] (fun i W => ∃ (k q:Nat) (A9:Option Addr) (f':Int → Option Bool) (nM':Nat),k ≤ no ∧ i = .int .i64 k ∧ Hid (E2 w B b m own H gC gB gM g cs n c B' LA f k q A9 f' nM' W)) (fun i _ => no - (intOf i).toNat)
 case atStart => exact ⟨0,0,LA,f,nM,Nat.zero_le _,rfl,HE0⟩
 case round =>
  obtain ⟨k,q,A9,f',nM',hk,rfl,HE⟩:=hrel
  clear HE0
  by_cases hkn:k < no
  ·have hkn':(k:Int) < no:=by omega
   obtain ⟨o,ho⟩:=get_of (l:=b.objs) (k:=k) (by rw [HNO.out];exact hkn)
   have HO:=Lib.hid ho
   have hX0:=HE.out.O.O
   have ho9:=put_here own H (cs:=cs) ho
   obtain ⟨gB',hA,hBB,hBl⟩:=own_addr hX0 ho9
   have hgg:gB' = gB:=HR.out.2.2.2.2.2.2.2.2.1 _ hA
   subst hgg
   have HA:=Lib.hid hA
   rw [hA] at hX0
   have hOA:OA = some ⟨gB',0,none⟩:=by rw [HMO.out] at hA;exact hA
   subst hOA
   have c0:wr.cell? ⟨gB',k * 12,none⟩ = some (.int .i64 o.id):=own_obj hX0 ho9 (j:=0) (by decide) rfl
   have c1:wr.cell? ⟨gB',k * 12 + 1,none⟩ = some (.int .i64 o.card):=own_obj hX0 ho9 (j:=1) (by decide) rfl
   have c2:wr.cell? ⟨gB',k * 12 + 2,none⟩ = some (.int .i64 o.own):=own_obj hX0 ho9 (j:=2) (by decide) rfl
   have c3:wr.cell? ⟨gB',k * 12 + 3,none⟩ = some (.int .i64 o.pow):=own_obj hX0 ho9 (j:=3) (by decide) rfl
   have c4:wr.cell? ⟨gB',k * 12 + 4,none⟩ = some (.int .i64 o.tou):=own_obj hX0 ho9 (j:=4) (by decide) rfl
   have c5:wr.cell? ⟨gB',k * 12 + 5,none⟩ = some (.int .i64 o.dam):=own_obj hX0 ho9 (j:=5) (by decide) rfl
   have c6:wr.cell? ⟨gB',k * 12 + 6,none⟩ = some (.int .i64 o.cnt):=own_obj hX0 ho9 (j:=6) (by decide) rfl
   have c7:wr.cell? ⟨gB',k * 12 + 7,none⟩ = some (.int .i64 o.pp):=own_obj hX0 ho9 (j:=7) (by decide) rfl
   have c8:wr.cell? ⟨gB',k * 12 + 8,none⟩ = some (.int .i64 o.pt):=own_obj hX0 ho9 (j:=8) (by decide) rfl
   have c9:wr.cell? ⟨gB',k * 12 + 9,none⟩ = some (.bool o.tap):=own_obj hX0 ho9 (j:=9) (by decide) rfl
   have c10:wr.cell? ⟨gB',k * 12 + 10,none⟩ = some (.bool o.sick):=own_obj hX0 ho9 (j:=10) (by decide) rfl
   have c11:wr.cell? ⟨gB',k * 12 + 11,none⟩ = some (.bool o.doom):=own_obj hX0 ho9 (j:=11) (by decide) rfl
   have hOk:=HR.out.1.onlyF HE.out.F HR.out.2.2.1.1
   have hHk:=HR.out.2.1.onlyF HE.out.F HR.out.2.2.1.2.1
   have hMI:=mine_any o own gO gH gM nM' f' H wr hOk.c hOk.lt ((hHk.at_ 0).trans rfl) hHk.lt HE.out.M (HR.out.2.2.2.2.1 o (List.mem_of_getElem? ho)) (HE.out.f1 k o (Nat.le_refl _) ho)
   have HHK:=Lib.hid hHk
   have HS:=Lib.hid (cds_snoc own H ho)
   cases hm:mine own H o with
   | true =>
    rw [hm] at hMI
    have HMI:=Lib.hid hMI
    rw [hm,if_pos rfl] at HS
    have hqn:q < n:=by
     have h1:=cds_lt own H ho hm
     have h2:=HE.out.qe
     have h3:=HR.out.2.2.2.2.2.2.2.2.2.1
     have h4:=HR.out.2.2.2.2.2.2.2.2.2.2.1
     omega
    have hA9:=HE.out.a hqn
    subst hA9
    obtain ⟨r,hr⟩:∃ r,n - q = r + 1:=⟨n - q - 1,by omega⟩
    have hC:=HE.out.C
    rw [hr] at hC
    have hcq:=HR.out.2.2.2.2.2.2.2.2.2.2.2.1
    obtain ⟨x,hx⟩:∃ x,cs[q]? = some x:=⟨_,ith_get (by have:=HR.out.2.2.2.2.2.2.2.2.2.2.1;omega)⟩
    obtain ⟨g',e9,-,hgl,hgc,-⟩:=HE.out.L.cell (j:=q) (u:=.int .i64 x) (by rw [ics,List.getElem?_map,hx];rfl)
    have hgg:g' = g:=HR.out.2.2.2.2.2.2.2.1 _ e9
    subst hgg
    have hneL:=HR.out.2.2.2.2.2.2.1 (by omega)
    have HPU:Hid (∀ w2,Below wr.heap.size wr w2 → _):=Lib.hid (fun w2 (hb:Below wr.heap.size wr w2) => put_any3 w2 B gC gB' g' gH gM nM' q r (c - q) k { b with objs:=putC own H (b.objs.take k) cs ++ b.objs.drop k } m o x f' (hC.call hb) (CellK.call ⟨hgl,hgc⟩ hb) (fun e => hneL (.inr (.inl e))) (by omega) (HE.out.O.below hb) HA.out ho9 (HHK.out.call hb) (HE.out.M.below hb) HR.out.2.2.2.1 HR.out.2.2.1.2.2 (HR.out.2.2.2.2.1 o (List.mem_of_getElem? ho)))
    have HX:=Lib.hid hx
    have HM:=Lib.hid hm
    have HQR:=Lib.hid (And.intro hr hqn)
    clear hMI hm ho hBB hBl hX0 ho9 hA hOk hHk hqn hr hC hcq hx e9 hgl hgc hneL
    go_wp2_with fail
    refine HMI.out.mono ?_
    rintro e w2 ⟨rfl,hb2⟩
    have HPU2:=Lib.hid (HPU.out w2 hb2)
    have HB2:=Lib.hid hb2
    clear hb2 c0 c1 c2 c3 c4 c5 c6 c7 c8 c9 c10 c11 HPU
    go_wp2_with fail
    refine HPU2.out.mono ?_
    rintro e w3 ⟨rfl,A10,nM3,ha3,hc3,ho3,hm3,hf3⟩
    have HE3:Hid (E2 w B b m own H gC gB' gM g' cs n c B' LA f (k + 1) (q + 1) A10 (fun y => if y = o.id then none else f' y) nM3 w3):=Lib.hid (by
     have hqr:=HQR.out
     have ho:=HO.out
     have hid:=HR.out.2.2.2.2.2.1
     refine ⟨?_,by rw [HS.out,List.length_append,← HE.out.qe];rfl,?_,fun h => ha3 (by omega),hm3,fun i o' hi ho' hown => ?_,fun o' ho' hown => ?_,?_,?_⟩
     ·have hx:=HX.out
      rw [HE.out.qe] at hx
      have h:=ho3
      try dsimp only at h
      rw [put_next own H ho HM.out hx] at h
      exact h
     ·rw [show n - (q + 1) = r by omega,show c - (q + 1) = c - q - 1 by omega]
      exact hc3
     ·have hne:o'.id ≠ o.id:=fun e => by
       have:=hid k i o o' (by omega) ho ho'
       omega
      try dsimp only
      rw [if_neg hne]
      exact HE.out.f1 i o' (by omega) ho' hown
     ·have hne:o'.id ≠ o.id:=fun e => by
       obtain ⟨i,hi⟩:=List.getElem?_of_mem ho'
       have hoo:o.own = own:=by
        have:=HM.out
        unfold mine at this
        simp at this
        exact this.1
       rcases Nat.lt_trichotomy i k with h | h | h
       ·have:=hid i k o' o h hi ho
        omega
       ·subst h
        rw [ho] at hi
        injection hi with hi
        subst hi
        exact hown hoo
       ·have:=hid k i o o' h ho hi
        omega
      try dsimp only
      rw [if_neg hne]
      exact HE.out.f2 o' ho' hown
     ·refine (HE.out.L.below HB2.out).onlyF hf3 (fun i hi => ?_)
      have hgi:i = g':=by
       cases hLA:LA with
       | none => rw [hLA] at hi;cases hi
       | some A =>
        have h1:=HR.out.2.2.2.2.2.2.2.1 A hLA
        rw [hLA] at hi
        rw [← h1]
        exact (Option.some.inj hi).symm
      rw [hgi]
      exact HR.out.2.2.2.2.2.2.1 (by omega)
     ·exact (HE.out.F.then HB2.out).trans hf3 (fun i h _ => h))
    clear ha3 hc3 ho3 hm3 hf3
    go_wp2_with fail
    go_roundw
    case rel => exact ⟨k + 1,q + 1,A10,_,nM3,by omega,by go_num,HE3⟩
    case measure => simp [intOf];omega
   | false =>
    rw [hm] at hMI
    have HMI:=Lib.hid hMI
    rw [hm,if_neg (by decide)] at HS
    have HM:=Lib.hid hm
    clear hMI hm ho hBB hBl hX0 ho9 hA hOk hHk
    go_wp2_with fail
    refine HMI.out.mono ?_
    rintro e w2 ⟨rfl,hb2⟩
    have HE3:Hid (E2 w B b m own H gC gB' gM g cs n c B' LA f (k + 1) q A9 f' nM' w2):=Lib.hid ⟨by rw [← put_same own H HO.out HM.out];exact HE.out.O.below hb2,by rw [HS.out];exact HE.out.qe,HE.out.C.call hb2,HE.out.a,HE.out.M.below hb2,fun i o' hi ho' hown => HE.out.f1 i o' (by omega) ho' hown,HE.out.f2,HE.out.L.below hb2,HE.out.F.then hb2⟩
    clear hb2 c0 c1 c2 c3 c4 c5 c6 c7 c8 c9 c10 c11
    go_wp2_with fail
    go_roundw
    case rel => exact ⟨k + 1,q,A9,f',nM',by omega,by go_num,HE3⟩
    case measure => simp [intOf];omega
  ·have HKE:Hid (k = no):=Lib.hid (by omega)
   clear hk
   go_wp2_with fail
   refine bodyPost_end (v:=.tuple #[]) (by simp [results,Tryz.f27]) rfl ⟨rfl,q,A9,f',nM',by have h:=HE.out;rw [HKE.out] at h;exact h⟩

theorem grow_far {a b c:World} {r:Option Nat} {g:Nat} (h:a.grownBy b r) (k:b.grownBy c (some g)) (hg:a.heap.size ≤ g):a.grownBy c r:=⟨k.os.trans h.os,k.tape.trans h.tape,k.output.trans h.output,Nat.le_trans h.size k.size,fun j hj hne => (k.block j (Nat.lt_of_lt_of_le hj h.size) (by intro e;injection e with e;omega)).trans (h.block j hj hne)⟩
theorem DwS.far {W W':World} {gd gu used g:Nat} {us:List Int} (h:DwS W gd gu us used) (hg:W.grownBy W' (some g)) (h1:gd ≠ g) (h2:gu ≠ g):DwS W' gd gu us used:=⟨h.D.grown hg (fun e => h1 (by injection e)),h.U.grown hg (fun e => h2 (by injection e))⟩
def ShEnd (W:World) (gd gu:Nat) (us:List Int) (used n:Nat) (l:List Int) (e:Ending) (w':World):Prop:=∃ A c,e = .returned (.tuple #[.slice A n c,.int .i64 0]) ∧ XOwns w' W.heap.size 3 1 A n c (ics (shuf us used l)) ∧ DwS w' gd gu us (used + (n - 1)) ∧ W.grownBy w' (some gd)
structure ShL (W0:World) (gd gu:Nat) (us:List Int) (n c g:Nat) (A:Option Addr) (used k:Nat) (l r:List Int) (u1:Nat) (W:World):Prop where
 X:XOwns W W0.heap.size 3 1 A n c (ics l)
 D:DwS W gd gu us used
 G:W0.grownBy W (some gd)
 e:shufL us (k - 1) used l = r
 u:used + (k - 1) = u1
 le:l.length = n
set_option maxRecDepth 100000 in
set_option maxHeartbeats 3200000 in
theorem shuffle_ok (W:World) (gd gu:Nat) (us:List Int) (used:Nat) (hD:DwS W gd gu us used) (hne:gd ≠ gu) (hn65:us.length ≤ 65536) (hw:∀ k,k < us.length → 0 ≤ ith us k ∧ ith us k ≤ 18446744073709551615) (A:Option Addr) (n c:Nat) (l:List Int) (hx:Reads W 1 A n (ics l)) (hA:A = none → c = 0) (hl5:n ≤ 500) (hleft:used + (n - 1) ≤ us.length) :
  Calls Tryz.prog 29 #[.pointer (some ⟨gd,0,none⟩),.slice A n c] W (ShEnd W gd gu us used n l):=by
 have HC:Hid (Calls Tryz.prog 64 #[.pointer (some ⟨gd,0,none⟩),.int .i64 ((n:Int) - 1),.int .i64 0] W fun e w' => e = .returned (.int .i64 0) ∧ Below W.heap.size W w'):=Lib.hid ((dcheck_any W gd gu us used ((n:Int) - 1) 0 hD (by omega) hn65).mono fun e w' h => ⟨by rw [h.1];unfold chkS;rw [if_neg (by simp),if_neg (by omega)],h.2⟩)
 have HK:Hid (∀ W',Below W.heap.size W W' → Calls Tryz.prog 61 #[.slice A n c] W' fun e w' => ∃ A' c',e = .returned (.slice A' n c') ∧ XOwns w' W'.heap.size 3 1 A' n c' (ics l) ∧ Below W'.heap.size W' w'):=Lib.hid fun W' hb => clone_ints A n c (ics l) W' (hx.below hb) (ics_one l) hA (by omega)
 have HD:=Lib.hid hD
 have HNE:=Lib.hid hne
 have HN65:=Lib.hid hn65
 have HW:=Lib.hid hw
 have HLE:=Lib.hid hleft
 have HLN:=Lib.hid (ilen hx)
 obtain ⟨r,hr⟩:∃ r,shuf us used l = r:=⟨_,rfl⟩
 obtain ⟨u1,hu1⟩:∃ r,used + (n - 1) = r:=⟨_,rfl⟩
 have HR:=Lib.hid (And.intro hr hu1)
 have h5:(n:Int) ≤ 500:=by omega
 have hwn:wrap64 ((n:Int) - 1) = (n:Int) - 1:=by unfold wrap64;omega
 unfold ShEnd
 rw [hr,hu1]
 clear hD hne hn65 hw hx hA hl5 hleft hr hu1
 go_enter Tryz.func29,Tryz.ntmps29
 go_wp2_with (first
  | (go_at_call 64;refine HC.out.mono ?_;rintro e w1 ⟨rfl,hb1⟩;have HB1:=Lib.hid hb1;clear hb1)
  | (go_at_call 61;refine (HK.out w1 HB1.out).mono ?_;rintro e w2 ⟨A2,c2,rfl,hx2,hb2⟩;have HF2:Hid (ShL W gd gu us n c2 0 A2 used n l r u1 w2):=Lib.hid ⟨hx2.more HB1.out.size,HD.out.below (HB1.out.trans (hb2.mono HB1.out.size)),grownBy_below_ (HB1.out.trans (hb2.mono HB1.out.size)),by rw [← HR.out.1,← HLN.out];rfl,HR.out.2,HLN.out⟩;clear hx2 hb2)
  | fail)
 go_loopw [9] (fun i W' => ∃ (k:Nat) (iv:Int) (used':Nat) (l':List Int),i = .int .i64 iv ∧ Hid (iv = (k:Int) - 1 ∧ k ≤ n ∧ ShL W gd gu us n c2 0 A2 used' k l' r u1 W')) (fun i _ => (intOf i).toNat)
 case atStart => exact ⟨n,_,used,l,rfl,Lib.hid ⟨by first | rfl | exact hwn,Nat.le_refl _,HF2.out⟩⟩
 case round =>
  obtain ⟨k,iv,used',l',rfl,HF⟩:=hrel
  clear HF2 HC HK
  by_cases hk:0 < iv
  ·obtain ⟨q,hq⟩:∃ q:Nat,iv = (q:Int):=⟨iv.toNat,by omega⟩
   subst hq
   have hkq:k = q + 1:=by have:=HF.out.1;omega
   subst hkq
   have hqn:q + 1 ≤ n:=HF.out.2.1
   have hwq:wrap64 ((q:Int) + 1) = (q:Int) + 1:=by unfold wrap64;omega
   have hwq2:wrap64 ((q:Int) - 1) = (q:Int) - 1:=by unfold wrap64;omega
   have hus:used' < us.length:=by have h1:=HF.out.2.2.u;have h2:=HR.out.2;have h3:=HLE.out;omega
   obtain ⟨rj,hrj⟩:∃ x,ith us used' % ((q:Int) + 1) = x:=⟨_,rfl⟩
   have hj0:0 ≤ rj ∧ rj < (q:Int) + 1:=by rw [← hrj];exact ⟨Int.emod_nonneg _ (by omega),Int.emod_lt_of_pos _ (by omega)⟩
   obtain ⟨j,rfl⟩:∃ j:Nat,rj = (j:Int):=⟨rj.toNat,by omega⟩
   have HCH:Hid (Calls Tryz.prog 65 #[.pointer (some ⟨gd,0,none⟩),.int .i64 ((q:Int) + 1)] wr fun e w' => e = .returned (.int .i64 (j:Int)) ∧ DwS w' gd gu us (used' + 1) ∧ wr.grownBy w' (some gd)):=Lib.hid (by
    have h:=dchoose_any wr gd gu us used' ((q:Int) + 1) HF.out.2.2.D HNE.out hus HN65.out (by omega) (HW.out used' hus)
    rw [hrj] at h
    exact h)
   have HJ:=Lib.hid hrj
   have HJL:Hid (j < q + 1 ∧ q + 1 ≤ n):=Lib.hid (by omega)
   clear hus hrj hj0 hqn
   obtain ⟨g,hg⟩:∃ g,A2 = some ⟨g,0,none⟩:=by
    obtain ⟨g,e,_⟩:=HF.out.2.2.X.cell (j:=0) (u:=.int .i64 (ith l' 0)) (by rw [ics,List.getElem?_map,ith_get (by have:=HF.out.2.2.le;have:=HJL.out;omega)];rfl)
    exact ⟨g,e⟩
   subst hg
   go_wp2_with (first
    | (go_at_call 65;refine HCH.out.mono ?_;rintro e w3 ⟨rfl,hd3,hg3⟩;have hgl:=HF.out.2.2.X.lt g rfl;have HF3:Hid (XOwns w3 W.heap.size 3 1 (some ⟨g,0,none⟩) n c2 (ics l') ∧ DwS w3 gd gu us (used' + 1) ∧ W.grownBy w3 (some gd)):=Lib.hid ⟨HF.out.2.2.X.grown hg3 (.inr (fun e => by have e':g = gd:=(by injection e);have:=HD.out.D.lt;omega)),hd3,only_trans_ HF.out.2.2.G hg3⟩;clear hd3 hg3 hgl)
    | fail)
   refine sh_swap w3 W.heap.size g n c2 l' q j HF3.out.1 (by have:=HJL.out;omega) (by have:=HJL.out;omega) (by omega) _ _ _ _ _ _ _ _ _ _ _ _ _ _ _ _ _ _ _ _ _ _ _ _ _ _ _ _ _ _ _ _ _ _ _ _ _ _ _ _ _ _ _ _ _ _ _ _ _ ?_ ?_
   ·exact fun d _ _ _ _ h => by cases d <;> exact h
   intro v36 v37 v38 v39 v40 v41 v42 v43 v44 v45 v46 v47 v48 v49 W9 h9
   have HF9:Hid (ShL W gd gu us n c2 0 (some ⟨g,0,none⟩) (used' + 1) q (swp l' q j) r u1 W9):=Lib.hid (by
    have hgl:=HF3.out.1.lt g rfl
    have hdl:=HD.out.D.lt
    have hul:=HD.out.U.lt
    have hq1:1 ≤ q:=by omega
    have he:=HF.out.2.2.e
    obtain ⟨p,rfl⟩:∃ p,q = p + 1:=⟨q - 1,by omega⟩
    refine ⟨h9.1,HF3.out.2.1.far h9.2 (by omega) (by omega),grow_far HF3.out.2.2 h9.2 hgl.1,?_,by have:=HF.out.2.2.u;omega,by rw [swp_len];exact HF.out.2.2.le⟩
    rw [← he]
    show _ = shufL us (p + 1 + 1 - 1) used' l'
    rw [show p + 1 + 1 - 1 = p + 1 by omega,shufL,show p + 1 - 1 = p by omega]
    have hj:=HJ.out
    rw [show (((p + 1:Nat):Int) + 1) = (p:Int) + 2 by omega] at hj
    rw [hj]
    rfl)
   clear h9
   go_wp2_with fail
   go_roundw
   case rel => exact ⟨q,(q:Int) - 1,used' + 1,swp l' q j,by first | rfl | rw [hwq2],Lib.hid ⟨rfl,by have:=HJL.out;omega,HF9.out⟩⟩
   case measure => simp [intOf,hwq2];omega
  ·have hk0:decide (0 < iv) = false:=by simpa using hk
   go_wp2_with fail
   go_ret2
   have h:=HF.out.2.2
   have hk1:k - 1 = 0:=by have:=HF.out.1;omega
   refine ⟨A2,c2,rfl,?_,?_,h.G⟩
   ·have he:=h.e
    rw [hk1] at he
    rw [← he]
    exact h.X
   ·have hu:=h.u
    rw [hk1] at hu
    rw [← hu]
    exact h.D
set_option maxHeartbeats 1600000 in
theorem shuffle_end (W:World) (gd gu:Nat) (us:List Int) (used:Nat) (hD:DwS W gd gu us used) (hu:used ≤ us.length) (hn65:us.length ≤ 65536) (A:Option Addr) (n c:Nat) (hl5:n ≤ 500) (hleft:us.length - used + 1 < n) :
  Calls Tryz.prog 29 #[.pointer (some ⟨gd,0,none⟩),.slice A n c] W fun e w' => e = .returned (.tuple #[.slice none 0 0,.int .i64 16]) ∧ Below W.heap.size W w':=by
 have HC:Hid (Calls Tryz.prog 64 #[.pointer (some ⟨gd,0,none⟩),.int .i64 ((n:Int) - 1),.int .i64 0] W fun e w' => e = .returned (.int .i64 16) ∧ Below W.heap.size W w'):=Lib.hid ((dcheck_any W gd gu us used ((n:Int) - 1) 0 hD hu hn65).mono fun e w' h => ⟨by rw [h.1];unfold chkS;rw [if_neg (by simp),if_pos (by omega)],h.2⟩)
 have h5:(n:Int) ≤ 500:=by omega
 have hwn:wrap64 ((n:Int) - 1) = (n:Int) - 1:=by unfold wrap64;omega
 clear hD hu hn65 hl5 hleft
 go_enter Tryz.func29,Tryz.ntmps29
 go_wp2_with (first
  | (go_at_call 64;refine HC.out.mono ?_;rintro e w1 ⟨rfl,hb1⟩)
  | fail)
 go_ret2
 exact ⟨rfl,hb1⟩
end Go.Proofs.YtagpphelgghbpaaGreat
