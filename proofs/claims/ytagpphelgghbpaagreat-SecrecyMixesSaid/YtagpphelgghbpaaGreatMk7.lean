/-
  Texts: Pla.
-/
import Derived.Test.YtagpphelgghbpaaGreatMk6
set_option linter.unusedSimpArgs false
set_option linter.unusedVariables false
namespace Go.Proofs.YtagpphelgghbpaaGreat
open Go.RowKit

def BoolEnd (P:Prop) (w:World) (e:Ending) (w':World):Prop:=∃ v:Bool,e = .returned (.bool v) ∧ (v = true ↔ P) ∧ Below w.heap.size w w'
theorem zone_cell {w:World} {b:Bd} {m:BdM} (h:BdR w b m) {p k:Nat} (hp:p < 2) (hk:k < 4):∃ s:Sl,(b.cells m)[1 + 14 * p + (5 + k)]? = some (.slice s.A (zoneL b (4 * p + k)).length s.c) ∧ LsR w s (zoneL b (4 * p + k)):=by
 rcases (show p = 0 ∨ p = 1 by omega) with rfl | rfl <;> rcases (show k = 0 ∨ k = 1 ∨ k = 2 ∨ k = 3 by omega) with rfl | rfl | rfl | rfl
 ·exact ⟨m.m0.L,rfl,h.s0.L⟩
 ·exact ⟨m.m0.H,rfl,h.s0.H⟩
 ·exact ⟨m.m0.F,rfl,h.s0.F⟩
 ·exact ⟨m.m0.G,rfl,h.s0.G⟩
 ·exact ⟨m.m1.L,rfl,h.s1.L⟩
 ·exact ⟨m.m1.H,rfl,h.s1.H⟩
 ·exact ⟨m.m1.F,rfl,h.s1.F⟩
 ·exact ⟨m.m1.G,rfl,h.s1.G⟩
theorem ptr_at (g o:Nat) {k:Nat} (hk:k < 4) (w:World):(Instr.index 111 (.agg #[.pointer (some ⟨g,o + 5,none⟩),.pointer (some ⟨g,o + 6,none⟩),.pointer (some ⟨g,o + 7,none⟩),.pointer (some ⟨g,o + 8,none⟩)]) (.int .i64 k)).run Tryz.prog w = .ok (.pointer (some ⟨g,o + (5 + k),none⟩)) w:=by
 rcases (show k = 0 ∨ k = 1 ∨ k = 2 ∨ k = 3 by omega) with rfl | rfl | rfl | rfl <;> simp [Instr.index,run_underlying Tryz.underlying111,asIntOf,go_sem]
structure PlS (w:World) (b:Bd) (m:BdM) (gB gM gC:Nat) (L:List (Int × Int)) (W:World):Prop where
 bel:Below w.heap.size w W
 box:Blk W gB 33 (b.cells m).toArray
 cel:Blk W gC 52 #[.map (some gM)]
 map:MapN W gM L.length (ofL L)
 nd:(L.map Prod.fst).Nodup
 ne:gB ≠ gM ∧ gC ≠ gM ∧ w.heap.size ≤ gM
section
variable {w W W':World} {b:Bd} {m:BdM} {gB gM gC:Nat} {L:List (Int × Int)}
theorem PlS.below (h:PlS w b m gB gM gC L W) (hb:Below W.heap.size W W'):PlS w b m gB gM gC L W' :=
 ⟨below_call h.bel hb h.bel.size,h.box.call hb,h.cel.call hb,h.map.below hb,h.nd,h.ne⟩
theorem PlS.put (h:PlS w b m gB gM gC L W) {x p:Int} (hx:x ∉ L.map Prod.fst) {n:Nat} {f:Int → Option Int} (hn:n = L.length + 1) (hf:f = ofL (L ++ [(x,p)])) (hm:MapN W' gM n f) (hg:W.grownBy W' (some gM)):PlS w b m gB gM gC (L ++ [(x,p)]) W' :=
 ⟨h.bel.grown hg (by have:=h.bel.size;omega) (fun k hk => by injection hk with hk;have:=h.ne.2.2;omega),h.box.grown hg (fun e => h.ne.1 (by injection e)),h.cel.grown hg (fun e => h.ne.2.1 (by injection e)),
  by subst hn hf;simpa using hm,by
   rw [List.map_append,List.nodup_append]
   refine ⟨h.nd,by simp,fun a ha c hc e => ?_⟩
   simp at hc
   rw [e,hc] at ha
   exact hx ha,h.ne⟩
end
theorem PlS.keep {gK:Nat} {w W W':World} {b:Bd} {m:BdM} {gB gM gC:Nat} {L:List (Int × Int)} (h:PlS w b m gB gM gC L W) (hg:W.grownBy W' (some gK)) (h1:gK ≠ gB) (h2:gK ≠ gM) (h3:gK ≠ gC) (h4:w.heap.size ≤ gK):PlS w b m gB gM gC L W' :=
 ⟨h.bel.grown hg h.bel.size (fun k hk => by injection hk with hk;omega),h.box.grown hg (fun e => h1 (by injection e with e;exact e.symm)),h.cel.grown hg (fun e => h3 (by injection e with e;exact e.symm)),h.map.kept hg (fun e => h2 (by injection e with e;exact e.symm)),h.nd,h.ne⟩
def stkF (l:List It):List It:=l.filter fun x => decide (x.trg < 0)
def stkQ (l:List It):List (Int × Int):=(stkF l).map fun x => (x.id,x.pl)
def stkC (l:List It):List (Int × Int):=(stkF l).map fun x => (x.id,x.card)
theorem stkF_snoc (l:List It) (x:It):stkF (l ++ [x]) = stkF l ++ if x.trg < 0 then [x] else []:=by
 unfold stkF
 rw [List.filter_append]
 congr 1
 by_cases h:x.trg < 0
 ·simp [h]
 ·simp [h]
theorem stk_ids (l:List It):(stkC l).map Prod.fst = (stkQ l).map Prod.fst:=by
 unfold stkC stkQ
 rw [List.map_map,List.map_map]
 rfl
theorem stk_pre (b:Bd) (k:Nat):∃ r,b.plc = (zoneD b 8 ++ stkQ (b.stk.take k)) ++ r:=by
 rw [plc_zones]
 refine ⟨stkQ (b.stk.drop k),?_⟩
 rw [List.append_assoc]
 congr 1
 unfold stkQ stkF onStk
 rw [← List.map_append,← List.filter_append,List.take_append_drop]
def okA (b:Bd) (o:Ob):Prop:=obOk o = true ∧ (o.id,o.own) ∈ b.plc ∧ ∀ x ∈ onStk b,x.id = o.id → x.card = o.card
theorem inc_of:∀ {l:List Ob},(∀ (q:Nat) (o1 o2:Ob),l[q]? = some o1 → l[q + 1]? = some o2 → o1.id < o2.id) → incB l = true
 | [],_ => rfl
 | [x],_ => rfl
 | x :: y :: l,h => by
  simp only [incB,Bool.and_eq_true,decide_eq_true_eq]
  exact ⟨h 0 x y rfl rfl,inc_of fun q o1 o2 h1 h2 => h (q + 1) o1 o2 h1 h2⟩
theorem inc_at:∀ {l:List Ob},incB l = true → ∀ {q:Nat} {o1 o2:Ob},l[q]? = some o1 → l[q + 1]? = some o2 → o1.id < o2.id
 | [],_,q,o1,o2,h1,_ => by simp at h1
 | [x],_,q,o1,o2,_,h2 => by simp at h2
 | x :: y :: l,h,0,o1,o2,h1,h2 => by
  simp only [incB,Bool.and_eq_true,decide_eq_true_eq] at h
  simp at h1 h2
  subst h1 h2
  exact h.1
 | x :: y :: l,h,q + 1,o1,o2,h1,h2 => by
  simp only [incB,Bool.and_eq_true,decide_eq_true_eq] at h
  exact inc_at h.2 (by simpa using h1) (by simpa using h2)
section
variable {L:List (Int × Int)} {id own:Int}
theorem own_none (h:(ofL L id).isSome = false) (hm:(id,own) ∈ L):False:=by
 rw [ofL_isSome,decide_eq_false_iff_not] at h
 exact h (List.mem_map.2 ⟨_,hm,rfl⟩)
theorem own_in (hn:(L.map Prod.fst).Nodup) (hs:(ofL L id).isSome = true) (hy:(ofL L id).getD 0 = own):(id,own) ∈ L:=by
 obtain ⟨c,hc⟩:=Option.isSome_iff_exists.1 hs
 rw [hc] at hy
 rw [← hy]
 exact (ofL_get hn).1 hc
theorem own_not (hn:(L.map Prod.fst).Nodup) (hy:(ofL L id).getD 0 ≠ own):(id,own) ∉ L:=fun hm => hy (by rw [(ofL_get hn).2 hm];rfl)
end
section
variable {b:Bd} {id card:Int}
theorem stk_mem {x:It} (hx:x ∈ onStk b):(x.id,x.card) ∈ stkC b.stk:=List.mem_map.2 ⟨x,hx,rfl⟩
theorem stk_nodup (hn:(b.plc.map Prod.fst).Nodup):((stkC b.stk).map Prod.fst).Nodup:=by
 rw [stk_ids]
 rw [plc_zones,List.map_append] at hn
 exact (List.nodup_append.1 hn).2.1
theorem card_none (h:(ofL (stkC b.stk) id).isSome = false):∀ x ∈ onStk b,x.id = id → x.card = card:=by
 intro x hx he
 exact (own_none h (he ▸ stk_mem hx)).elim
theorem card_some (hn:(b.plc.map Prod.fst).Nodup) (hs:(ofL (stkC b.stk) id).isSome = true) (hy:(ofL (stkC b.stk) id).getD 0 = card):∀ x ∈ onStk b,x.id = id → x.card = card:=by
 intro x hx he
 have h1:=(ofL_get (stk_nodup hn)).2 (stk_mem hx)
 rw [he] at h1
 rw [h1] at hy
 exact hy
theorem card_not (hn:(b.plc.map Prod.fst).Nodup) (hs:(ofL (stkC b.stk) id).isSome = true) (hy:(ofL (stkC b.stk) id).getD 0 ≠ card):¬ ∀ x ∈ onStk b,x.id = id → x.card = card:=by
 intro h
 obtain ⟨c,hc⟩:=Option.isSome_iff_exists.1 hs
 have hm:=(ofL_get (stk_nodup hn)).1 hc
 obtain ⟨x,hx,he⟩:=List.mem_map.1 hm
 have e1:x.id = id:=congrArg Prod.fst he
 have e2:x.card = c:=congrArg Prod.snd he
 rw [hc] at hy
 exact hy (by rw [← h x hx e1,e2];rfl)
end
set_option maxRecDepth 100000 in
set_option maxHeartbeats 3200000 in
theorem placed_any (b:Bd) (m:BdM) (w:World) (h:BdR w b m) (hz:b.plc.length < 9223372036854775807) :
  Calls Tryz.prog 48 #[.agg (b.cells m).toArray] w (BoolEnd (plcP b) w):=by
 have HR:=Lib.hid h
 have HZC:=Lib.hid (fun (p k:Nat) (hp:p < 2) (hk:k < 4) => zone_cell h hp hk)
 have HZ:=Lib.hid hz
 clear h hz
 obtain ⟨cs,hcs⟩:∃ cs,(b.cells m).toArray = cs:=⟨_,rfl⟩
 have HCS:=Lib.hid hcs
 rw [hcs]
 clear hcs
 have hmm:=@run_makeMap Tryz.prog
 go_enter Tryz.func48,Tryz.ntmps48
 go_wp2
 have HP0:Hid (PlS w b m w.heap.size (w.heap.size + 1) (w.heap.size + 1 + 1) (zoneD b (4 * 0)) (((w.alloc (.cells cs 33)).alloc (.map #[] 0)).alloc (.cells #[.map (some (w.heap.size + 1))] 52))):=Lib.hid (by
  have e1:(w.alloc (.cells cs 33)).heap.size = w.heap.size + 1:=by simp
  have e2:((w.alloc (.cells cs 33)).alloc (.map #[] 0)).heap.size = w.heap.size + 1 + 1:=by simp
  have hm:=MapN.make (w.alloc (.cells cs 33))
  rw [e1] at hm
  refine ⟨by (focus (repeat' (first | (with_reducible exact Below.refl _ _) | (with_reducible assumption) | (with_reducible refine Below.alloc ?_ ?_ _) | (with_reducible refine below_drewN ?_ _) | (with_reducible refine Below.drew ?_) | (with_reducible refine Below.setCell ?_ ?_ _) | omega | (simp;done) | (simp;omega)))),?_,Blk.mk_ _ _ _ _ e2,hm.below ((Below.refl _ _).alloc (Nat.le_refl _) _),List.nodup_nil,by omega,by omega,by omega⟩
  rw [HCS.out]
  exact ((Blk.mk_ w 33 cs _ rfl).alloc _).alloc _)
 obtain ⟨gB,hgB⟩:∃ g,w.heap.size = g:=⟨_,rfl⟩
 have HGB:=Lib.hid hgB
 rw [hgB] at HP0 ⊢
 clear hgB hmm
 go_loopw [21] (fun i W => ∃ p:Nat,p ≤ 2 ∧ i = .int .i64 p ∧ Hid (PlS w b m gB (gB + 1) (gB + 1 + 1) (zoneD b (4 * p)) W)) (fun i _ => 2 - (intOf i).toNat)
 case atStart => exact ⟨0,Nat.zero_le _,rfl,HP0⟩
 case round =>
  obtain ⟨p,hp,rfl,HP⟩:=hrel
  clear HP0
  by_cases hp2:p < 2
  ·have hp2':(p:Int) < 2:=by omega
   go_wp2_with fail
   refine (lists_any gB (1 + p * 14) _).mono ?_
   rintro e w1 ⟨rfl,hb1⟩
   have HP1:Hid (PlS w b m gB (gB + 1) (gB + 1 + 1) (zoneD b (4 * p + 0)) w1):=Lib.hid (HP.out.below hb1)
   obtain ⟨o,ho⟩:∃ o,1 + p * 14 = o:=⟨_,rfl⟩
   rw [ho]
   have HO:=Lib.hid ho
   clear hb1 ho HP
   go_wp2
   go_loopw [28] (fun i W => ∃ k:Nat,k ≤ 4 ∧ i = .int .i64 k ∧ Hid (PlS w b m gB (gB + 1) (gB + 1 + 1) (zoneD b (4 * p + k)) W)) (fun i _ => 4 - (intOf i).toNat)
   case atStart => exact ⟨0,Nat.zero_le _,rfl,HP1⟩
   case round =>
    clear HP1
    obtain ⟨k,hk,rfl,HP⟩:=hrel
    by_cases hk4:k < 4
    ·have hk4':(k:Int) < 4:=by omega
     have hix:=ptr_at gB o hk4
     obtain ⟨⟨sA,sc⟩,hsc,hls⟩:=HZC.out p k hp2 hk4
     have hcell:wr.cell? ⟨gB,o + (5 + k),none⟩ = some (.slice sA (zoneL b (4 * p + k)).length sc):=by
      rw [HP.out.box.at_,← HO.out,← hsc]
      simp [Nat.mul_comm]
     obtain ⟨z,hzz⟩:∃ z,4 * p + k = z:=⟨_,rfl⟩
     have HZZ:Hid (z / 4 = p ∧ z < 8 ∧ 4 * p + k = z):=Lib.hid (by omega)
     rw [hzz] at hcell hls HP
     clear hzz hsc
     obtain ⟨l,hl⟩:∃ l,zoneL b z = l:=⟨_,rfl⟩
     rw [hl] at hcell hls
     have HLL:=Lib.hid hl
     obtain ⟨n,hn⟩:∃ n,l.length = n:=⟨_,rfl⟩
     rw [hn] at hcell
     have HLN:=Lib.hid hn
     have HLS:=Lib.hid hls
     have hnc:n ≤ 9223372036854775807:=by have:=hls.ok;unfold Sl.ok at this;simp only at this;omega
     have HP1:Hid (PlS w b m gB (gB + 1) (gB + 1 + 1) (zoneD b z ++ (zoneQ b z).take 0) wr):=Lib.hid (by rw [List.take_zero,List.append_nil];exact HP.out)
     clear hl hn hls
     go_wp2
     clear hix hcell HP
     generalize hwr:wr = wM at *
     clear hwr
     go_loopw [35] (fun i W => ∃ j:Nat,j ≤ n ∧ i = .int .i64 j ∧ Hid (PlS w b m gB (gB + 1) (gB + 1 + 1) (zoneD b z ++ (zoneQ b z).take j) W)) (fun i _ => n - (intOf i).toNat)
     case atStart => exact ⟨0,Nat.zero_le _,rfl,HP1⟩
     case round =>
      clear HP1
      obtain ⟨j,hj,rfl,HP⟩:=hrel
      by_cases hjn:j < n
      ·have hjn':(j:Int) < n:=by omega
       have hrow:=HLS.out.row.below HP.out.bel
       rw [HLN.out] at hrow
       obtain ⟨ad,hA,hadl,c0⟩:=int_at hrow hjn
       simp only at hA
       subst hA
       have hget:=ith_get (xs:=l) (k:=j) (by rw [HLN.out];exact hjn)
       have hwf:=HLS.out.wf _ (ith_mem (xs:=l) (k:=j) (by rw [HLN.out];exact hjn))
       generalize ith l j = x at *
       have HTK:=Lib.hid (zone_take (b:=b) (z:=z) (j:=j) (x:=x) (by rw [HLL.out];exact hget))
       rw [HZZ.out.1] at HTK
       obtain ⟨r,hr⟩:=zone_pre (b:=b) (z:=z) (j:=j + 1) HZZ.out.2.1
       obtain ⟨L,hL⟩:∃ L,zoneD b z ++ (zoneQ b z).take j = L:=⟨_,rfl⟩
       have HL2:Hid (zoneD b z ++ (zoneQ b z).take (j + 1) = L ++ [(x,(p:Int))]):=Lib.hid (by rw [HTK.out,← List.append_assoc,hL])
       rw [HL2.out] at hr
       have hlen:L.length < maxLen:=by
        have h1:=congrArg List.length hr
        have h2:=HZ.out
        simp only [List.length_append,List.length_cons,List.length_nil] at h1
        unfold maxLen
        omega
       rw [hL] at HP
       have HRR:=Lib.hid hr
       have hcc:wr.cell? ⟨gB + 1 + 1,0,none⟩ = some (.map (some (gB + 1))):=(HP.out.cel.at_ 0).trans rfl
       have HPA:=Lib.hid (put_any (gB + 1 + 1) (gB + 1) L.length (ofL L) x p wr hcc HP.out.map hwf (by unfold wfI;omega) hlen)
       clear hrow hget hwf hr hL hlen hcc
       go_wp2_with fail
       refine HPA.out.mono ?_
       rw [ofL_isSome]
       rintro e w2 ⟨rfl,hm2,hg2⟩
       by_cases hx:x ∈ L.map Prod.fst
       ·have HBAD:Hid (¬ plcP b):=Lib.hid (fun hp => dup_bad hx HRR.out hp.1)
        have HB2:=Lib.hid (HP.out.bel.grown hg2 (by have:=HP.out.bel.size;exact this) (fun q hq => by injection hq with hq;have:=HP.out.ne.2.2;omega))
        rw [decide_eq_true hx]
        clear hx hm2 hg2
        go_wp2
        go_ret
        exact ⟨false,rfl,⟨fun h => (by cases h),fun h => absurd h HBAD.out⟩,HB2.out⟩
       ·rw [decide_eq_false hx] at hm2 ⊢
        have HP2:=Lib.hid (HP.out.put hx rfl (ofL_snoc hx) hm2 hg2)
        clear hx hm2 hg2
        go_wp2
        go_roundw
        case rel => exact ⟨j + 1,hjn,by go_num,by rw [HL2.out];exact HP2⟩
        case measure => simp [intOf];omega
      ·obtain rfl:j = n:=by omega
       have HFL:Hid (zoneD b z ++ (zoneQ b z).take j = zoneD b (4 * p + (k + 1))):=Lib.hid (by
        rw [List.take_of_length_le (by unfold zoneQ;rw [List.length_map,HLL.out,HLN.out];exact Nat.le_refl _),show 4 * p + (k + 1) = z + 1 by have:=HZZ.out;omega,zoneD_succ])
       rw [HFL.out] at HP
       go_wp2
       go_roundw
       case rel => exact ⟨k + 1,hk4,by go_num,HP⟩
       case measure => simp [intOf];omega
    ·obtain rfl:k = 4:=by omega
     go_wp2
     go_roundw
     case rel => exact ⟨p + 1,hp2,by go_num,HP⟩
     case measure => simp [intOf];omega
  ·have HPE:Hid (p = 2):=Lib.hid (by omega)
   have hp2f:decide ((p:Int) < 2) = false:=decide_eq_false (by omega)
   clear hp2 hp
   have HP8:Hid (PlS w b m gB (gB + 1) (gB + 1 + 1) (zoneD b 8 ++ stkQ (b.stk.take 0)) (wr.alloc (.map #[] 0))):=Lib.hid (by
    have e:zoneD b 8 ++ stkQ (b.stk.take 0) = zoneD b (4 * p):=by rw [HPE.out];simp [stkQ,stkF]
    rw [e]
    exact HP.out.below ((Below.refl _ _).alloc (Nat.le_refl _) _))
   have HC8:Hid (MapN (wr.alloc (.map #[] 0)) wr.heap.size (stkC (b.stk.take 0)).length (ofL (stkC (b.stk.take 0)))):=Lib.hid (by
    have e:stkC (b.stk.take 0) = []:=by simp [stkC,stkF]
    rw [e]
    exact MapN.make wr)
   have hmm:=@run_makeMap Tryz.prog
   have HKN:Hid (wr.heap.size ≠ gB ∧ wr.heap.size ≠ gB + 1 ∧ wr.heap.size ≠ gB + 1 + 1 ∧ w.heap.size ≤ wr.heap.size):=Lib.hid (by
    have h1:=HP.out.box.lt
    have h2:=HP.out.map.lt
    have h3:=HP.out.cel.lt
    have h4:=HP.out.bel.size
    omega)
   obtain ⟨⟨SA,Sc⟩,hS⟩:∃ s,m.S = s:=⟨_,rfl⟩
   obtain ⟨ns,hns⟩:∃ n,b.stk.length = n:=⟨_,rfl⟩
   have HNS:=Lib.hid hns
   have HSS:=Lib.hid hS
   have hS0:(wr.alloc (.map #[] 0)).cell? ⟨gB,29,none⟩ = some (.slice SA ns Sc):=by
    rw [HP8.out.box.at_,← hns]
    show some (m.S.v b.stk.length) = _
    rw [hS]
    rfl
   have hsc:ns ≤ 9223372036854775807:=by
    have:=HR.out.S.ok
    unfold Sl.ok at this
    omega
   obtain ⟨gK,hgK⟩:∃ g,wr.heap.size = g:=⟨_,rfl⟩
   rw [hgK] at HC8 HKN
   clear HP hS hns
   go_wp2
   generalize wr.alloc (.map #[] 0) = wS at *
   clear hmm hS0 hgK
   go_loopw [51] (fun i W => ∃ k:Nat,k ≤ ns ∧ i = .int .i64 k ∧ Hid (PlS w b m gB (gB + 1) (gB + 1 + 1) (zoneD b 8 ++ stkQ (b.stk.take k)) W) ∧ Hid (MapN W gK (stkC (b.stk.take k)).length (ofL (stkC (b.stk.take k))))) (fun i _ => ns - (intOf i).toNat)
   case atStart => exact ⟨0,Nat.zero_le _,rfl,HP8,HC8⟩
   case round =>
    clear HP8 HC8
    obtain ⟨k,hk,rfl,HP,HC⟩:=hrel
    by_cases hkn:k < ns
    ·have hkn':(k:Int) < ns:=by omega
     obtain ⟨x,hx⟩:=get_of (l:=b.stk) (k:=k) (by rw [HNS.out];exact hkn)
     obtain ⟨tt,hzp,-,-,-⟩:=HR.out.S.at_ hx
     have hrow:=HR.out.S.row.below HP.out.bel
     rw [HNS.out,HSS.out] at hrow
     obtain ⟨ad,hA,hadl,c0,c1,c2,c3,c4⟩:=item_at hrow hzp hkn
     simp only at hA
     subst hA
     have HXW:=Lib.hid (HR.out.Sw x (List.mem_of_getElem? hx))
     have HTK:=Lib.hid (take_snoc hx)
     obtain ⟨xp,xi,xc,xt,xs⟩:=x
     obtain ⟨tA,tc⟩:=tt
     simp only at c0 c1 c2 c3 c4
     obtain ⟨mm,hmm⟩:∃ n,xs.length = n:=⟨_,rfl⟩
     rw [hmm] at c4
     have HSF:=Lib.hid (stkF_snoc (b.stk.take k) ⟨xp,xi,xc,xt,xs⟩)
     simp only at HSF
     have hal:Below wr.heap.size wr (wr.alloc (.cells #[.int .i64 xp,.int .i64 xi,.int .i64 xc,.int .i64 xt,.slice tA mm tc] 55)):=(Below.refl _ _).alloc (Nat.le_refl _) _
     have HP1:=Lib.hid (HP.out.below hal)
     have HC1:=Lib.hid (HC.out.below hal)
     have HNEX:Hid (wr.heap.size ≠ gB + 1 ∧ wr.heap.size ≠ gK):=Lib.hid (by
      have h1:=HP.out.map.lt
      have h2:=HC.out.lt
      omega)
     clear hx hzp hrow hmm hal
     by_cases ht:xt < 0
     ·rw [if_pos ht] at HSF
      have HQ2:Hid (stkQ (b.stk.take (k + 1)) = stkQ (b.stk.take k) ++ [(xi,xp)]):=Lib.hid (by rw [HTK.out];unfold stkQ;rw [HSF.out];simp)
      have HQ3:Hid (stkC (b.stk.take (k + 1)) = stkC (b.stk.take k) ++ [(xi,xc)]):=Lib.hid (by rw [HTK.out];unfold stkC;rw [HSF.out];simp)
      obtain ⟨r,hr⟩:=stk_pre b (k + 1)
      obtain ⟨L,hL⟩:∃ L,zoneD b 8 ++ stkQ (b.stk.take k) = L:=⟨_,rfl⟩
      obtain ⟨C,hC⟩:∃ C,stkC (b.stk.take k) = C:=⟨_,rfl⟩
      have HSUB:Hid (∀ y,y ∈ C.map Prod.fst → y ∈ L.map Prod.fst):=Lib.hid (fun y hy => by
       rw [← hC,stk_ids] at hy
       rw [← hL,List.map_append]
       exact List.mem_append_right _ hy)
      have HL2:Hid (zoneD b 8 ++ stkQ (b.stk.take (k + 1)) = L ++ [(xi,xp)]):=Lib.hid (by rw [HQ2.out,← List.append_assoc,hL])
      rw [HL2.out] at hr
      rw [hC] at HQ3
      have hlen:L.length < maxLen:=by
       have h1:=congrArg List.length hr
       have h2:=HZ.out
       simp only [List.length_append,List.length_cons,List.length_nil] at h1
       unfold maxLen
       omega
      have hlenC:C.length < maxLen:=by
       have h1:C.length ≤ L.length:=by
        have h2:=congrArg List.length (stk_ids (b.stk.take k))
        simp only [List.length_map] at h2
        rw [← hC,← hL,List.length_append,h2]
        omega
       omega
      rw [hL] at HP1
      rw [hC] at HC1
      have HRR:=Lib.hid hr
      have HLC:=Lib.hid hlenC
      have HLL:=Lib.hid hlen
      clear hr hL hC hlen hlenC HP HC
      obtain ⟨w5,hw5⟩:∃ w5,wr.alloc (.cells #[.int .i64 xp,.int .i64 xi,.int .i64 xc,.int .i64 xt,.slice tA mm tc] 55) = w5:=⟨_,rfl⟩
      have HX5:Hid (Blk w5 wr.heap.size 55 #[.int .i64 xp,.int .i64 xi,.int .i64 xc,.int .i64 xt,.slice tA mm tc]):=Lib.hid (by rw [← hw5];exact Blk.mk_ wr _ _ _ rfl)
      rw [hw5] at HP1 HC1
      have hcc:w5.cell? ⟨gB + 1 + 1,0,none⟩ = some (.map (some (gB + 1))):=(HP1.out.cel.at_ 0).trans rfl
      have HPA:=Lib.hid (put_any (gB + 1 + 1) (gB + 1) L.length (ofL L) xi xp w5 hcc HP1.out.map HXW.out.2.1 HXW.out.1 HLL.out)
      clear hcc
      have x0:w5.cell? ⟨wr.heap.size,0,none⟩ = some (.int .i64 xp):=(HX5.out.at_ 0).trans rfl
      have x1:w5.cell? ⟨wr.heap.size,1,none⟩ = some (.int .i64 xi):=(HX5.out.at_ 1).trans rfl
      have x3:w5.cell? ⟨wr.heap.size,3,none⟩ = some (.int .i64 xt):=(HX5.out.at_ 3).trans rfl
      have hx5:=HX5.out.lt
      go_wp2_with fail
      refine HPA.out.mono ?_
      rw [ofL_isSome]
      rintro e w6 ⟨rfl,hm6,hg6⟩
      by_cases hx:xi ∈ L.map Prod.fst
      ·have HBAD:Hid (¬ plcP b):=Lib.hid (fun hp => dup_bad hx HRR.out hp.1)
       have HB2:=Lib.hid (HP1.out.bel.grown hg6 HP1.out.bel.size (fun q hq => by injection hq with hq;have:=HP1.out.ne.2.2;omega))
       rw [decide_eq_true hx]
       clear hx hm6 hg6
       go_wp2
       go_ret
       exact ⟨false,rfl,⟨fun h => (by cases h),fun h => absurd h HBAD.out⟩,HB2.out⟩
      ·rw [decide_eq_false hx] at hm6 ⊢
       have HP6:=Lib.hid (HP1.out.put hx rfl (ofL_snoc hx) hm6 hg6)
       have HC6:=Lib.hid (HC1.out.kept hg6 (fun e => HKN.out.2.1 (by injection e)))
       have HX6:=Lib.hid (HX5.out.grown hg6 (fun e => HNEX.out.1 (by injection e)))
       have hxC:xi ∉ C.map Prod.fst:=fun h => hx (HSUB.out xi h)
       obtain ⟨w7,hrun7,hm7,hg7⟩:=HC6.out.put HXW.out.2.1 HXW.out.2.2.1 HLC.out
       rw [ofL_isSome,decide_eq_false hxC,ofL_snoc hxC] at hm7
       have HC7:=Lib.hid hm7
       have HP7:=Lib.hid (HP6.out.keep hg7 HKN.out.1 HKN.out.2.1 HKN.out.2.2.1 HKN.out.2.2.2)
       have x1':w6.cell? ⟨wr.heap.size,1,none⟩ = some (.int .i64 xi):=(HX6.out.at_ 1).trans rfl
       have x2':w6.cell? ⟨wr.heap.size,2,none⟩ = some (.int .i64 xc):=(HX6.out.at_ 2).trans rfl
       have hx6:=HX6.out.lt
       clear hx hxC hm6 hg6 hm7 hg7
       go_wp2
       go_roundw
       case rel => exact ⟨k + 1,hkn,by go_num,by rw [HL2.out];exact HP7,by rw [HQ3.out];simpa using HC7⟩
       case measure => simp [intOf];omega
     ·rw [if_neg ht,List.append_nil] at HSF
      have HQ2:Hid (stkQ (b.stk.take (k + 1)) = stkQ (b.stk.take k)):=Lib.hid (by rw [HTK.out];unfold stkQ;rw [HSF.out])
      have HQ3:Hid (stkC (b.stk.take (k + 1)) = stkC (b.stk.take k)):=Lib.hid (by rw [HTK.out];unfold stkC;rw [HSF.out])
      have ht':decide (xt < 0) = false:=decide_eq_false ht
      clear ht
      go_wp2
      go_roundw
      case rel => exact ⟨k + 1,hkn,by go_num,by rw [HQ2.out];exact HP1,by rw [HQ3.out];exact HC1⟩
      case measure => simp [intOf];omega
    ·skip
     have HKE:Hid (k = ns):=Lib.hid (by omega)
     have hkf:decide ((k:Int) < ns) = false:=decide_eq_false (by omega)
     have HPL:Hid (zoneD b 8 ++ stkQ (b.stk.take k) = b.plc):=Lib.hid (by rw [List.take_of_length_le (by rw [HNS.out,HKE.out];exact Nat.le_refl _)];exact (plc_zones b).symm)
     have HCL:Hid (stkC (b.stk.take k) = stkC b.stk):=Lib.hid (by rw [List.take_of_length_le (by rw [HNS.out,HKE.out];exact Nat.le_refl _)])
     rw [HPL.out] at HP
     rw [HCL.out] at HC
     obtain ⟨⟨OA,Oc⟩,hO⟩:∃ s,m.O = s:=⟨_,rfl⟩
     obtain ⟨no,hno⟩:∃ n,b.objs.length = n:=⟨_,rfl⟩
     have HNO:=Lib.hid hno
     have HOO:=Lib.hid hO
     have hO0:wr.cell? ⟨gB,0,none⟩ = some (.slice OA no Oc):=by
      rw [HP.out.box.at_,← hno]
      show some (m.O.v b.objs.length) = _
      rw [hO]
      rfl
     have hoc:no ≤ 9223372036854775807:=by
      have:=HR.out.Oo
      unfold Sl.ok at this
      omega
     clear hO hno hk
     go_wp2
     clear hO0
     generalize hwO:wr = wO at *
     clear hwO
     go_loopw [74] (fun i W => ∃ j:Nat,j ≤ no ∧ i = .int .i64 j ∧ Hid (∀ q o,q < j → b.objs[q]? = some o → okA b o) ∧ Hid (∀ q o1 o2,q + 1 < j → b.objs[q]? = some o1 → b.objs[q + 1]? = some o2 → o1.id < o2.id) ∧ Hid (PlS w b m gB (gB + 1) (gB + 1 + 1) b.plc W) ∧ Hid (MapN W gK (stkC b.stk).length (ofL (stkC b.stk)))) (fun i _ => no - (intOf i).toNat)
     case atStart => exact ⟨0,Nat.zero_le _,rfl,Lib.hid (fun q o h => absurd h (by omega)),Lib.hid (fun q o1 o2 h => absurd h (by omega)),HP,HC⟩
     case round =>
      clear HP HC
      obtain ⟨j,hj,rfl,HE,HI,HP,HC⟩:=hrel
      by_cases hjn:j < no
      ·have hjn':(j:Int) < no:=by omega
       obtain ⟨o,ho⟩:=get_of (l:=b.objs) (k:=j) (by rw [HNO.out];exact hjn)
       have hrow:=HR.out.O.below HP.out.bel
       rw [HNO.out,HOO.out] at hrow
       obtain ⟨ad,hA,hadl,c0,c1,c2,c3,c4,c5,c6,c7,c8,c9,c10,c11⟩:=obj_at hrow ho hjn
       simp only at hA
       subst hA
       have HGET:=Lib.hid ho
       have HMEM:=Lib.hid (List.mem_of_getElem? ho)
       have hwf:=HR.out.Ow o (List.mem_of_getElem? ho)
       obtain ⟨v,hv⟩:∃ v,obOk o = v:=⟨_,rfl⟩
       have HOB0:=Lib.hid (fun W => obj_any o W)
       rw [hv] at HOB0
       have HVV:=Lib.hid hv
       clear hv ho
       have HPV:Hid (∀ i,j = i + 1 → ∃ o',b.objs[i]? = some o' ∧ wr.cell? (ad.add (i * 12)) = some (.int .i64 o'.id)):=Lib.hid (fun i hi => by
        obtain ⟨o',ho'⟩:=get_of (l:=b.objs) (k:=i) (by rw [HNO.out];omega)
        obtain ⟨ad',hA',_,d0,_⟩:=obj_at hrow ho' (by omega)
        simp only at hA'
        injection hA' with hA'
        subst hA'
        exact ⟨o',ho',d0⟩)
       clear hrow
       obtain ⟨id,hid⟩:∃ x,o.id = x:=⟨_,rfl⟩
       obtain ⟨card,hcard⟩:∃ x,o.card = x:=⟨_,rfl⟩
       obtain ⟨own,hown⟩:∃ x,o.own = x:=⟨_,rfl⟩
       have HOB1:Hid (∀ W,Calls Tryz.prog 82 #[.agg #[.int .i64 id,.int .i64 card,.int .i64 own,.int .i64 o.pow,.int .i64 o.tou,.int .i64 o.dam,.int .i64 o.cnt,.int .i64 o.pp,.int .i64 o.pt,.bool o.tap,.bool o.sick,.bool o.doom]] W fun e w' => e = .returned (.bool v) ∧ Below W.heap.size W w'):=Lib.hid (fun W => by
        rw [← hid,← hcard,← hown]
        exact HOB0.out W)
       have HOID:Hid (o.id = id ∧ o.card = card ∧ o.own = own):=Lib.hid ⟨hid,hcard,hown⟩
       obtain ⟨w1,w2,w3⟩:=hwf
       rw [hid] at c0 w1
       rw [hcard] at c1 w2
       rw [hown] at c2 w3
       generalize o.pow = q3 at *
       generalize o.tou = q4 at *
       generalize o.dam = q5 at *
       generalize o.cnt = q6 at *
       generalize o.pp = q7 at *
       generalize o.pt = q8 at *
       generalize o.tap = q9 at *
       generalize o.sick = q10 at *
       generalize o.doom = q11 at *
       obtain ⟨w5,hw5⟩:∃ w5,wr.alloc (.cells #[.int .i64 id,.int .i64 card,.int .i64 own,.int .i64 q3,.int .i64 q4,.int .i64 q5,.int .i64 q6,.int .i64 q7,.int .i64 q8,.bool q9,.bool q10,.bool q11] 46) = w5:=⟨_,rfl⟩
       obtain ⟨gO,hgO⟩:∃ g,wr.heap.size = g:=⟨_,rfl⟩
       have HX5:Hid (Blk w5 gO 46 #[.int .i64 id,.int .i64 card,.int .i64 own,.int .i64 q3,.int .i64 q4,.int .i64 q5,.int .i64 q6,.int .i64 q7,.int .i64 q8,.bool q9,.bool q10,.bool q11]):=Lib.hid (by rw [← hw5];exact Blk.mk_ wr _ _ _ hgO)
       have hal:Below wr.heap.size wr w5:=by rw [← hw5];exact (Below.refl _ _).alloc (Nat.le_refl _) _
       have HP5:=Lib.hid (HP.out.below hal)
       have HC5:=Lib.hid (HC.out.below hal)
       have HPV5:Hid (∀ i,j = i + 1 → ∃ o',b.objs[i]? = some o' ∧ w5.cell? (ad.add (i * 12)) = some (.int .i64 o'.id)):=Lib.hid (fun i hi => by
        obtain ⟨o',h1,h2⟩:=HPV.out i hi
        exact ⟨o',h1,(hal.cell (by rw [block_of_add];exact hadl)).trans h2⟩)
       have hadl5:ad.block < w5.heap.size:=Nat.lt_of_lt_of_le hadl hal.size
       have hO5:∀ s:Later w5.heap.size w5,s.W.cell? ⟨gB,0,none⟩ = some (.slice (some ad) no Oc):=fun s => by
        rw [(HP5.out.box.below s.h HP5.out.box.lt).at_,← HNO.out]
        show some (m.O.v b.objs.length) = _
        rw [HOO.out]
        rfl
       obtain ⟨y1v,hY1⟩:∃ y,(ofL b.plc id).getD 0 = y:=⟨_,rfl⟩
       obtain ⟨y2v,hY2⟩:∃ y,(ofL (stkC b.stk) id).getD 0 = y:=⟨_,rfl⟩
       have hl1:=HP5.out.map.look w1
       have hl2:=HC5.out.look w1
       rw [hY1] at hl1
       rw [hY2] at hl2
       have HY1:=Lib.hid hY1
       have HY2:=Lib.hid hY2
       have hcc:w5.cell? ⟨gB + 1 + 1,0,none⟩ = some (.map (some (gB + 1))):=(HP5.out.cel.at_ 0).trans rfl
       have x0:w5.cell? ⟨gO,0,none⟩ = some (.int .i64 id):=(HX5.out.at_ 0).trans rfl
       have hx5:=HX5.out.lt
       have HOB:Hid (∀ s:Later w5.heap.size w5,Calls Tryz.prog 82 #[.agg #[.int .i64 id,.int .i64 card,.int .i64 own,.int .i64 q3,.int .i64 q4,.int .i64 q5,.int .i64 q6,.int .i64 q7,.int .i64 q8,.bool q9,.bool q10,.bool q11]] s.W fun e w' => e = .returned (.bool v) ∧ Below s.W.heap.size s.W w'):=Lib.hid (fun s => HOB1.out s.W)
       have y0:∀ s:Later w5.heap.size w5,s.W.cell? ⟨gO,0,none⟩ = some (.int .i64 id):=fun s => ((HX5.out.below s.h HX5.out.lt).at_ 0).trans rfl
       have y1:∀ s:Later w5.heap.size w5,s.W.cell? ⟨gO,1,none⟩ = some (.int .i64 card):=fun s => ((HX5.out.below s.h HX5.out.lt).at_ 1).trans rfl
       have y2:∀ s:Later w5.heap.size w5,s.W.cell? ⟨gO,2,none⟩ = some (.int .i64 own):=fun s => ((HX5.out.below s.h HX5.out.lt).at_ 2).trans rfl
       have y3:∀ s:Later w5.heap.size w5,s.W.cell? ⟨gO,3,none⟩ = some (.int .i64 q3):=fun s => ((HX5.out.below s.h HX5.out.lt).at_ 3).trans rfl
       have y4:∀ s:Later w5.heap.size w5,s.W.cell? ⟨gO,4,none⟩ = some (.int .i64 q4):=fun s => ((HX5.out.below s.h HX5.out.lt).at_ 4).trans rfl
       have y5:∀ s:Later w5.heap.size w5,s.W.cell? ⟨gO,5,none⟩ = some (.int .i64 q5):=fun s => ((HX5.out.below s.h HX5.out.lt).at_ 5).trans rfl
       have y6:∀ s:Later w5.heap.size w5,s.W.cell? ⟨gO,6,none⟩ = some (.int .i64 q6):=fun s => ((HX5.out.below s.h HX5.out.lt).at_ 6).trans rfl
       have y7:∀ s:Later w5.heap.size w5,s.W.cell? ⟨gO,7,none⟩ = some (.int .i64 q7):=fun s => ((HX5.out.below s.h HX5.out.lt).at_ 7).trans rfl
       have y8:∀ s:Later w5.heap.size w5,s.W.cell? ⟨gO,8,none⟩ = some (.int .i64 q8):=fun s => ((HX5.out.below s.h HX5.out.lt).at_ 8).trans rfl
       have y9:∀ s:Later w5.heap.size w5,s.W.cell? ⟨gO,9,none⟩ = some (.bool q9):=fun s => ((HX5.out.below s.h HX5.out.lt).at_ 9).trans rfl
       have y10:∀ s:Later w5.heap.size w5,s.W.cell? ⟨gO,10,none⟩ = some (.bool q10):=fun s => ((HX5.out.below s.h HX5.out.lt).at_ 10).trans rfl
       have y11:∀ s:Later w5.heap.size w5,s.W.cell? ⟨gO,11,none⟩ = some (.bool q11):=fun s => ((HX5.out.below s.h HX5.out.lt).at_ 11).trans rfl
       have HOKP:Hid (plcP b → obOk o = true ∧ (id,own) ∈ b.plc ∧ ∀ x ∈ onStk b,x.id = id → x.card = card):=Lib.hid (fun hp => by
        have h:=hp.2.1 o HMEM.out
        rw [hid,hcard,hown] at h
        exact h)
       have HOKQ:Hid (obOk o = true → (id,own) ∈ b.plc → (∀ x ∈ onStk b,x.id = id → x.card = card) → okA b o):=Lib.hid (fun h1 h2 h3 => by
        unfold okA
        rw [hid,hcard,hown]
        exact ⟨h1,h2,h3⟩)
       clear hid hcard hown w2 w3 hal hY1 hY2 HPV HOB0 HOB1 HP HC
       cases v with
       | false =>
        have HBAD:Hid (¬ plcP b):=Lib.hid (fun hp => by have:=(hp.2.1 o HMEM.out).1;rw [HVV.out] at this;cases this)
        go_wp2
        refine wp_region_later (B:=w5.heap.size) (w0:=w5) (Below.refl _ _) (by kernel_rfl) (by kernel_rfl) ?_
        repeat (go_big_quiet_step ((go_at_call 82;with_reducible exact Calls.later (Nat.le_refl _) (HOB.out _))))
        refine wpQuiet_nil ?_
        intro _ hw'
        obtain ⟨s,hw2⟩:=hw'
        subst hw2
        obtain ⟨w7,hb7⟩:=s
        have HB7:=Lib.hid (below_call HP5.out.bel hb7 HP5.out.bel.size)
        have HP7:=Lib.hid (HP5.out.below hb7)
        have HC7:=Lib.hid (HC5.out.below hb7)
        clear y0 y1 y2 y3 y4 y5 y6 y7 y8 y9 y10 y11
        go_wp2
        go_ret
        exact ⟨false,rfl,⟨fun h => (by cases h),fun h => absurd h HBAD.out⟩,HB7.out⟩
       | true =>
        have HVO:=HVV
        by_cases hj0:j = 0
        ·have hjf:((0:Int) < (j:Int)) = False:=eq_false (by omega)
         have hjd:decide ((0:Int) < (j:Int)) = false:=decide_eq_false (by omega)
         have hjf2:(0 < j) = False:=eq_false (by omega)
         have hjd2:decide (0 < j) = false:=decide_eq_false (by omega)
         have HIN:Hid (∀ q o1 o2,q + 1 = j → b.objs[q]? = some o1 → b.objs[q + 1]? = some o2 → o1.id < o2.id):=Lib.hid (fun q o1 o2 h => by omega)
         clear hj0
         cases hs1:(ofL b.plc id).isSome with
         | false =>
          rw [hs1] at hl1
          have HNS:=Lib.hid hs1
          clear hs1
          have HBAD:Hid (¬ plcP b):=Lib.hid (fun hp => own_none HNS.out (HOKP.out hp).2.1)
          go_wp2
          refine wp_region_later (B:=w5.heap.size) (w0:=w5) (Below.refl _ _) (by kernel_rfl) (by kernel_rfl) ?_
          repeat (go_big_quiet_step ((go_at_call 82;with_reducible exact Calls.later (Nat.le_refl _) (HOB.out _))))
          refine wpQuiet_nil ?_
          intro _ hw'
          obtain ⟨s,hw2⟩:=hw'
          subst hw2
          obtain ⟨w7,hb7⟩:=s
          have HB7:=Lib.hid (below_call HP5.out.bel hb7 HP5.out.bel.size)
          have HP7:=Lib.hid (HP5.out.below hb7)
          have HC7:=Lib.hid (HC5.out.below hb7)
          clear y0 y1 y2 y3 y4 y5 y6 y7 y8 y9 y10 y11
          go_wp2
          go_ret
          exact ⟨false,rfl,⟨fun h => (by cases h),fun h => absurd h HBAD.out⟩,HB7.out⟩
         | true =>
          rw [hs1] at hl1
          by_cases hy:y1v = own
          ·have hyb:(y1v != own) = false:=by simp [hy]
           have HOW:Hid ((id,own) ∈ b.plc):=Lib.hid (own_in HP5.out.nd hs1 (HY1.out.trans hy))
           clear hy hs1
           cases hs2:(ofL (stkC b.stk) id).isSome with
           | false =>
            rw [hs2] at hl2
            have HCD:Hid (∀ x ∈ onStk b,x.id = id → x.card = card):=Lib.hid (card_none hs2)
            clear hs2
            have HOKA:Hid (okA b o):=Lib.hid (HOKQ.out HVO.out HOW.out HCD.out)
            go_wp2
            refine wp_region_later (B:=w5.heap.size) (w0:=w5) (Below.refl _ _) (by kernel_rfl) (by kernel_rfl) ?_
            repeat (go_big_quiet_step ((go_at_call 82;with_reducible exact Calls.later (Nat.le_refl _) (HOB.out _))))
            refine wpQuiet_nil ?_
            intro _ hw'
            obtain ⟨s,hw2⟩:=hw'
            subst hw2
            obtain ⟨w7,hb7⟩:=s
            have HB7:=Lib.hid (below_call HP5.out.bel hb7 HP5.out.bel.size)
            have HP7:=Lib.hid (HP5.out.below hb7)
            have HC7:=Lib.hid (HC5.out.below hb7)
            clear y0 y1 y2 y3 y4 y5 y6 y7 y8 y9 y10 y11
            go_wp2
            go_roundw
            case rel => exact ⟨j + 1,hjn,by go_num,Lib.hid (fun q o' hq hg => by
             rcases Nat.lt_or_ge q j with g | g
             ·exact HE.out q o' g hg
             ·obtain rfl:q = j:=by omega
              rw [HGET.out] at hg
              rw [← Option.some.inj hg]
              exact HOKA.out),Lib.hid (fun q o1 o2 hq h1 h2 => by
             rcases Nat.lt_or_ge (q + 1) j with g | g
             ·exact HI.out q o1 o2 g h1 h2
             ·exact HIN.out q o1 o2 (by omega) h1 h2),HP7,HC7⟩
            case measure => simp [intOf];omega
           | true =>
            rw [hs2] at hl2
            by_cases hz:y2v = card
            ·have hzb:(y2v != card) = false:=by simp [hz]
             have HCD:Hid (∀ x ∈ onStk b,x.id = id → x.card = card):=Lib.hid (card_some HP5.out.nd hs2 (HY2.out.trans hz))
             clear hz hs2
             have HOKA:Hid (okA b o):=Lib.hid (HOKQ.out HVO.out HOW.out HCD.out)
             go_wp2
             refine wp_region_later (B:=w5.heap.size) (w0:=w5) (Below.refl _ _) (by kernel_rfl) (by kernel_rfl) ?_
             repeat (go_big_quiet_step ((go_at_call 82;with_reducible exact Calls.later (Nat.le_refl _) (HOB.out _))))
             refine wpQuiet_nil ?_
             intro _ hw'
             obtain ⟨s,hw2⟩:=hw'
             subst hw2
             obtain ⟨w7,hb7⟩:=s
             have HB7:=Lib.hid (below_call HP5.out.bel hb7 HP5.out.bel.size)
             have HP7:=Lib.hid (HP5.out.below hb7)
             have HC7:=Lib.hid (HC5.out.below hb7)
             clear y0 y1 y2 y3 y4 y5 y6 y7 y8 y9 y10 y11
             go_wp2
             go_roundw
             case rel => exact ⟨j + 1,hjn,by go_num,Lib.hid (fun q o' hq hg => by
              rcases Nat.lt_or_ge q j with g | g
              ·exact HE.out q o' g hg
              ·obtain rfl:q = j:=by omega
               rw [HGET.out] at hg
               rw [← Option.some.inj hg]
               exact HOKA.out),Lib.hid (fun q o1 o2 hq h1 h2 => by
              rcases Nat.lt_or_ge (q + 1) j with g | g
              ·exact HI.out q o1 o2 g h1 h2
              ·exact HIN.out q o1 o2 (by omega) h1 h2),HP7,HC7⟩
             case measure => simp [intOf];omega
            ·have hzb:(y2v != card) = true:=by simp [hz]
             have HCN:Hid (¬ ∀ x ∈ onStk b,x.id = id → x.card = card):=Lib.hid (card_not HP5.out.nd hs2 (fun e => hz (HY2.out.symm.trans e)))
             clear hz hs2
             have HBAD:Hid (¬ plcP b):=Lib.hid (fun hp => HCN.out (HOKP.out hp).2.2)
             go_wp2
             refine wp_region_later (B:=w5.heap.size) (w0:=w5) (Below.refl _ _) (by kernel_rfl) (by kernel_rfl) ?_
             repeat (go_big_quiet_step ((go_at_call 82;with_reducible exact Calls.later (Nat.le_refl _) (HOB.out _))))
             refine wpQuiet_nil ?_
             intro _ hw'
             obtain ⟨s,hw2⟩:=hw'
             subst hw2
             obtain ⟨w7,hb7⟩:=s
             have HB7:=Lib.hid (below_call HP5.out.bel hb7 HP5.out.bel.size)
             have HP7:=Lib.hid (HP5.out.below hb7)
             have HC7:=Lib.hid (HC5.out.below hb7)
             clear y0 y1 y2 y3 y4 y5 y6 y7 y8 y9 y10 y11
             go_wp2
             go_ret
             exact ⟨false,rfl,⟨fun h => (by cases h),fun h => absurd h HBAD.out⟩,HB7.out⟩
          ·have hyb:(y1v != own) = true:=by simp [hy]
           have HON:Hid ((id,own) ∉ b.plc):=Lib.hid (own_not HP5.out.nd (fun e => hy (HY1.out.symm.trans e)))
           clear hy hs1
           have HBAD:Hid (¬ plcP b):=Lib.hid (fun hp => HON.out (HOKP.out hp).2.1)
           go_wp2
           refine wp_region_later (B:=w5.heap.size) (w0:=w5) (Below.refl _ _) (by kernel_rfl) (by kernel_rfl) ?_
           repeat (go_big_quiet_step ((go_at_call 82;with_reducible exact Calls.later (Nat.le_refl _) (HOB.out _))))
           refine wpQuiet_nil ?_
           intro _ hw'
           obtain ⟨s,hw2⟩:=hw'
           subst hw2
           obtain ⟨w7,hb7⟩:=s
           have HB7:=Lib.hid (below_call HP5.out.bel hb7 HP5.out.bel.size)
           have HP7:=Lib.hid (HP5.out.below hb7)
           have HC7:=Lib.hid (HC5.out.below hb7)
           clear y0 y1 y2 y3 y4 y5 y6 y7 y8 y9 y10 y11
           go_wp2
           go_ret
           exact ⟨false,rfl,⟨fun h => (by cases h),fun h => absurd h HBAD.out⟩,HB7.out⟩
        ·obtain ⟨i,hi⟩:∃ i,j = i + 1:=⟨j - 1,by omega⟩
         obtain ⟨o',ho',d0⟩:=HPV5.out i hi
         have hjf:((0:Int) < (j:Int)) = True:=eq_true (by omega)
         have hjf2:(0 < j) = True:=eq_true (by omega)
         have hjd2:decide (0 < j) = true:=decide_eq_true (by omega)
         have hji:IntKind.i64.wrap ((j:Int) - 1) = (i:Int):=by rw [show (j:Int) - 1 = i by omega];exact IntWalk.i64_in _ (by omega)
         have hi1:(i:Int) < no:=by omega
         have hi0:(0:Int) ≤ i:=by omega
         have HJI:=Lib.hid hi
         have HPO:=Lib.hid ho'
         obtain ⟨pid,hpid⟩:∃ x,o'.id = x:=⟨_,rfl⟩
         rw [hpid] at d0
         have HPI:=Lib.hid hpid
         have yp:∀ s:Later w5.heap.size w5,s.W.cell? (ad.add (i * 12)) = some (.int .i64 pid):=fun s => (s.h.cell (by rw [block_of_add];exact hadl5)).trans d0
         clear hi hj0 d0 ho' hpid
         by_cases hle:id ≤ pid
         ·have hled:decide (id ≤ pid) = true:=decide_eq_true hle
          have HLE:=Lib.hid hle
          have HBAD:Hid (¬ plcP b):=Lib.hid (fun hp => by have:=inc_at hp.2.2.1 HPO.out (by rw [← HJI.out];exact HGET.out);rw [HPI.out,HOID.out.1] at this;have:=HLE.out;omega)
          go_wp2
          refine wp_region_later (B:=w5.heap.size) (w0:=w5) (Below.refl _ _) (by kernel_rfl) (by kernel_rfl) ?_
          repeat (go_big_quiet_step ((go_at_call 82;with_reducible exact Calls.later (Nat.le_refl _) (HOB.out _))))
          refine wpQuiet_nil ?_
          intro _ hw'
          obtain ⟨s,hw2⟩:=hw'
          subst hw2
          obtain ⟨w7,hb7⟩:=s
          have HB7:=Lib.hid (below_call HP5.out.bel hb7 HP5.out.bel.size)
          have HP7:=Lib.hid (HP5.out.below hb7)
          have HC7:=Lib.hid (HC5.out.below hb7)
          clear y0 y1 y2 y3 y4 y5 y6 y7 y8 y9 y10 y11 yp
          go_wp2
          go_ret
          exact ⟨false,rfl,⟨fun h => (by cases h),fun h => absurd h HBAD.out⟩,HB7.out⟩
         ·have hled:decide (id ≤ pid) = false:=decide_eq_false hle
          have hlef:(id ≤ pid) = False:=eq_false hle
          have HIN:Hid (∀ q o1 o2,q + 1 = j → b.objs[q]? = some o1 → b.objs[q + 1]? = some o2 → o1.id < o2.id):=Lib.hid (fun q o1 o2 hq g1 g2 => by
           have hqi:q = i:=by have:=HJI.out;omega
           subst hqi
           rw [HPO.out] at g1
           rw [hq,HGET.out] at g2
           rw [← Option.some.inj g1,← Option.some.inj g2,HPI.out,HOID.out.1]
           omega)
          clear hle
          cases hs1:(ofL b.plc id).isSome with
          | false =>
           rw [hs1] at hl1
           have HNS:=Lib.hid hs1
           clear hs1
           have HBAD:Hid (¬ plcP b):=Lib.hid (fun hp => own_none HNS.out (HOKP.out hp).2.1)
           go_wp2
           refine wp_region_later (B:=w5.heap.size) (w0:=w5) (Below.refl _ _) (by kernel_rfl) (by kernel_rfl) ?_
           repeat (go_big_quiet_step ((go_at_call 82;with_reducible exact Calls.later (Nat.le_refl _) (HOB.out _))))
           refine wpQuiet_nil ?_
           intro _ hw'
           obtain ⟨s,hw2⟩:=hw'
           subst hw2
           obtain ⟨w7,hb7⟩:=s
           have HB7:=Lib.hid (below_call HP5.out.bel hb7 HP5.out.bel.size)
           have HP7:=Lib.hid (HP5.out.below hb7)
           have HC7:=Lib.hid (HC5.out.below hb7)
           clear y0 y1 y2 y3 y4 y5 y6 y7 y8 y9 y10 y11 yp
           go_wp2
           go_ret
           exact ⟨false,rfl,⟨fun h => (by cases h),fun h => absurd h HBAD.out⟩,HB7.out⟩
          | true =>
           rw [hs1] at hl1
           by_cases hy:y1v = own
           ·have hyb:(y1v != own) = false:=by simp [hy]
            have HOW:Hid ((id,own) ∈ b.plc):=Lib.hid (own_in HP5.out.nd hs1 (HY1.out.trans hy))
            clear hy hs1
            cases hs2:(ofL (stkC b.stk) id).isSome with
            | false =>
             rw [hs2] at hl2
             have HCD:Hid (∀ x ∈ onStk b,x.id = id → x.card = card):=Lib.hid (card_none hs2)
             clear hs2
             have HOKA:Hid (okA b o):=Lib.hid (HOKQ.out HVO.out HOW.out HCD.out)
             go_wp2
             refine wp_region_later (B:=w5.heap.size) (w0:=w5) (Below.refl _ _) (by kernel_rfl) (by kernel_rfl) ?_
             repeat (go_big_quiet_step ((go_at_call 82;with_reducible exact Calls.later (Nat.le_refl _) (HOB.out _))))
             refine wpQuiet_nil ?_
             intro _ hw'
             obtain ⟨s,hw2⟩:=hw'
             subst hw2
             obtain ⟨w7,hb7⟩:=s
             have HB7:=Lib.hid (below_call HP5.out.bel hb7 HP5.out.bel.size)
             have HP7:=Lib.hid (HP5.out.below hb7)
             have HC7:=Lib.hid (HC5.out.below hb7)
             clear y0 y1 y2 y3 y4 y5 y6 y7 y8 y9 y10 y11 yp
             go_wp2
             go_roundw
             case rel => exact ⟨j + 1,hjn,by go_num,Lib.hid (fun q o' hq hg => by
              rcases Nat.lt_or_ge q j with g | g
              ·exact HE.out q o' g hg
              ·obtain rfl:q = j:=by omega
               rw [HGET.out] at hg
               rw [← Option.some.inj hg]
               exact HOKA.out),Lib.hid (fun q o1 o2 hq h1 h2 => by
              rcases Nat.lt_or_ge (q + 1) j with g | g
              ·exact HI.out q o1 o2 g h1 h2
              ·exact HIN.out q o1 o2 (by omega) h1 h2),HP7,HC7⟩
             case measure => simp [intOf];omega
            | true =>
             rw [hs2] at hl2
             by_cases hz:y2v = card
             ·have hzb:(y2v != card) = false:=by simp [hz]
              have HCD:Hid (∀ x ∈ onStk b,x.id = id → x.card = card):=Lib.hid (card_some HP5.out.nd hs2 (HY2.out.trans hz))
              clear hz hs2
              have HOKA:Hid (okA b o):=Lib.hid (HOKQ.out HVO.out HOW.out HCD.out)
              go_wp2
              refine wp_region_later (B:=w5.heap.size) (w0:=w5) (Below.refl _ _) (by kernel_rfl) (by kernel_rfl) ?_
              repeat (go_big_quiet_step ((go_at_call 82;with_reducible exact Calls.later (Nat.le_refl _) (HOB.out _))))
              refine wpQuiet_nil ?_
              intro _ hw'
              obtain ⟨s,hw2⟩:=hw'
              subst hw2
              obtain ⟨w7,hb7⟩:=s
              have HB7:=Lib.hid (below_call HP5.out.bel hb7 HP5.out.bel.size)
              have HP7:=Lib.hid (HP5.out.below hb7)
              have HC7:=Lib.hid (HC5.out.below hb7)
              clear y0 y1 y2 y3 y4 y5 y6 y7 y8 y9 y10 y11 yp
              go_wp2
              go_roundw
              case rel => exact ⟨j + 1,hjn,by go_num,Lib.hid (fun q o' hq hg => by
               rcases Nat.lt_or_ge q j with g | g
               ·exact HE.out q o' g hg
               ·obtain rfl:q = j:=by omega
                rw [HGET.out] at hg
                rw [← Option.some.inj hg]
                exact HOKA.out),Lib.hid (fun q o1 o2 hq h1 h2 => by
               rcases Nat.lt_or_ge (q + 1) j with g | g
               ·exact HI.out q o1 o2 g h1 h2
               ·exact HIN.out q o1 o2 (by omega) h1 h2),HP7,HC7⟩
              case measure => simp [intOf];omega
             ·have hzb:(y2v != card) = true:=by simp [hz]
              have HCN:Hid (¬ ∀ x ∈ onStk b,x.id = id → x.card = card):=Lib.hid (card_not HP5.out.nd hs2 (fun e => hz (HY2.out.symm.trans e)))
              clear hz hs2
              have HBAD:Hid (¬ plcP b):=Lib.hid (fun hp => HCN.out (HOKP.out hp).2.2)
              go_wp2
              refine wp_region_later (B:=w5.heap.size) (w0:=w5) (Below.refl _ _) (by kernel_rfl) (by kernel_rfl) ?_
              repeat (go_big_quiet_step ((go_at_call 82;with_reducible exact Calls.later (Nat.le_refl _) (HOB.out _))))
              refine wpQuiet_nil ?_
              intro _ hw'
              obtain ⟨s,hw2⟩:=hw'
              subst hw2
              obtain ⟨w7,hb7⟩:=s
              have HB7:=Lib.hid (below_call HP5.out.bel hb7 HP5.out.bel.size)
              have HP7:=Lib.hid (HP5.out.below hb7)
              have HC7:=Lib.hid (HC5.out.below hb7)
              clear y0 y1 y2 y3 y4 y5 y6 y7 y8 y9 y10 y11 yp
              go_wp2
              go_ret
              exact ⟨false,rfl,⟨fun h => (by cases h),fun h => absurd h HBAD.out⟩,HB7.out⟩
           ·have hyb:(y1v != own) = true:=by simp [hy]
            have HON:Hid ((id,own) ∉ b.plc):=Lib.hid (own_not HP5.out.nd (fun e => hy (HY1.out.symm.trans e)))
            clear hy hs1
            have HBAD:Hid (¬ plcP b):=Lib.hid (fun hp => HON.out (HOKP.out hp).2.1)
            go_wp2
            refine wp_region_later (B:=w5.heap.size) (w0:=w5) (Below.refl _ _) (by kernel_rfl) (by kernel_rfl) ?_
            repeat (go_big_quiet_step ((go_at_call 82;with_reducible exact Calls.later (Nat.le_refl _) (HOB.out _))))
            refine wpQuiet_nil ?_
            intro _ hw'
            obtain ⟨s,hw2⟩:=hw'
            subst hw2
            obtain ⟨w7,hb7⟩:=s
            have HB7:=Lib.hid (below_call HP5.out.bel hb7 HP5.out.bel.size)
            have HP7:=Lib.hid (HP5.out.below hb7)
            have HC7:=Lib.hid (HC5.out.below hb7)
            clear y0 y1 y2 y3 y4 y5 y6 y7 y8 y9 y10 y11 yp
            go_wp2
            go_ret
            exact ⟨false,rfl,⟨fun h => (by cases h),fun h => absurd h HBAD.out⟩,HB7.out⟩
      ·have HJE:Hid (j = no):=Lib.hid (by omega)
       have hjf:decide ((j:Int) < no) = false:=decide_eq_false (by omega)
       have hO5:wr.cell? ⟨gB,0,none⟩ = some (.slice OA no Oc):=by
        rw [HP.out.box.at_,← HNO.out]
        show some (m.O.v b.objs.length) = _
        rw [HOO.out]
        rfl
       have hcc:wr.cell? ⟨gB + 1 + 1,0,none⟩ = some (.map (some (gB + 1))):=(HP.out.cel.at_ 0).trans rfl
       have hln:=fun ty => HP.out.map.len ty
       have HFIN:Hid ((((b.plc.length:Int) == (no:Int)) = true) ↔ plcP b):=Lib.hid (by
        rw [beq_iff_eq]
        have h1:∀ o ∈ b.objs,okA b o:=fun o ho => by
         obtain ⟨q,hq,he⟩:=List.getElem_of_mem ho
         exact HE.out q o (by rw [HNO.out,← HJE.out] at hq;exact hq) (by rw [List.getElem?_eq_getElem hq,he])
        have h2:incB b.objs = true:=inc_of (fun q o1 o2 g1 g2 => HI.out q o1 o2 (by
         rcases Nat.lt_or_ge (q + 1) b.objs.length with g | g
         ·rw [HNO.out,← HJE.out] at g;exact g
         ·rw [List.getElem?_eq_none g] at g2;cases g2) g1 g2)
        unfold plcP
        constructor
        ·intro he
         exact ⟨HP.out.nd,h1,h2,by rw [HNO.out];omega⟩
        ·rintro ⟨_,_,_,he⟩
         rw [HNO.out] at he
         omega)
       have HB:=Lib.hid HP.out.bel
       generalize b.plc.length = np at *
       clear hj
       go_wp2
       go_ret
       exact ⟨_,rfl,HFIN.out,HB.out⟩
end Go.Proofs.YtagpphelgghbpaaGreat
