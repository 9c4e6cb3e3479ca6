/-
  Texts: Fig.
-/
import Derived.Test.YtagpphelgghbpaaGreatMk8
set_option linter.unusedSimpArgs false
set_option linter.unusedVariables false
namespace Go.Proofs.YtagpphelgghbpaaGreat
open Go.RowKit

theorem len_sub {α:Type} [DecidableEq α] {l m:List α} (h:l.Nodup) (hs:∀ x ∈ l,x ∈ m):l.length ≤ m.length:=by
 rcases Nat.lt_or_ge m.length l.length with h1 | h1
 ·have:=(perm_of_sub h hs (by omega)).length_eq
  omega
 ·exact h1
theorem fld_len {b:Bd} (h:plcP b) (p:Int):(b.fld p).length ≤ b.objs.length:=by
 have h1:=len_sub (fld_nodup h.1 p) (m:=b.plc.map Prod.fst) (fun x hx => by
  unfold Bd.fld at hx
  unfold Bd.plc Se.ids
  split at hx <;> simp [hx])
 rw [List.length_map,h.2.2.2] at h1
 exact h1
theorem below_drew_ {B:Nat} {a w:World} (h:Below B a w) (k:Nat):Below B a (w.drewN k):=⟨h.os,h.tape,h.output,h.size,h.block⟩
structure FgS (w:World) (b:Bd) (gB gM:Nat) (cs:Array Value) (A:List Int) (B:List Bk) (f:Int → Option Bool) (n:Nat) (W:World):Prop where
 bel:Below w.heap.size w W
 box:Blk W gB 33 cs
 map:MapB W gM n f
 seen:seenP A B f
 nd:A.Nodup
 own:∀ x ∈ A,x ∈ b.fld b.actv
 na:(B.map Bk.a).Nodup
 nb:(B.map Bk.b).Nodup
 bl:∀ y ∈ B,y.a ∈ A ∧ y.b ∈ b.fld (1 - b.actv)
 ne:gB ≠ gM ∧ w.heap.size ≤ gM
theorem FgS.below {w W W':World} {b:Bd} {gB gM n:Nat} {cs:Array Value} {A:List Int} {B:List Bk} {f:Int → Option Bool} (h:FgS w b gB gM cs A B f n W) (hb:Below W.heap.size W W'):FgS w b gB gM cs A B f n W' :=
 ⟨below_call h.bel hb h.bel.size,h.box.call hb,h.map.below hb,h.seen,h.nd,h.own,h.na,h.nb,h.bl,h.ne⟩
set_option maxRecDepth 100000 in
set_option maxHeartbeats 3200000 in
theorem fights_any (b:Bd) (m:BdM) (w:World) (h:BdR w b m) (hp:plcP b) (hob:b.objs.length ≤ 500) (ha:b.actv = 0 ∨ b.actv = 1) :
  Calls Tryz.prog 49 #[.agg (b.cells m).toArray] w (BoolEnd (figP b) w):=by
 have HR:=Lib.hid h
 have HPL:=Lib.hid hp
 have HLE:=Lib.hid (fun p => Nat.le_trans (fld_len hp p) hob)
 clear hp hob
 obtain ⟨⟨TA,Tc⟩,hT⟩:∃ s,m.AT = s:=⟨_,rfl⟩
 obtain ⟨⟨KA,Kc⟩,hK⟩:∃ s,m.BK = s:=⟨_,rfl⟩
 obtain ⟨nt,hnt⟩:∃ n,b.att.length = n:=⟨_,rfl⟩
 obtain ⟨nk,hnk⟩:∃ n,b.blk.length = n:=⟨_,rfl⟩
 have HNT:=Lib.hid hnt
 have HNK:=Lib.hid hnk
 have hat:=h.AT
 rw [hT] at hat
 have HAT:=Lib.hid hat
 have hbk:=h.BK
 rw [hK,hnk] at hbk
 have HBK:=Lib.hid hbk
 have hto:=hat.ok
 have hko:=h.Bo
 rw [hK] at hko
 unfold Sl.ok at hto hko
 simp only at hto hko
 rw [hnt] at hto
 rw [hnk] at hko
 have hnt9:nt ≤ 9223372036854775807:=by omega
 have hnk9:nk ≤ 9223372036854775807:=by omega
 obtain ⟨cs,hcs⟩:∃ cs,(b.cells m).toArray = cs:=⟨_,rfl⟩
 rw [hcs]
 have hbox:=Blk.mk_ w 33 cs _ rfl
 have hB0:Below w.heap.size w (w.alloc (.cells cs 33)):=(Below.refl _ _).alloc (Nat.le_refl _) _
 have hatc:cs[31]? = some (.slice TA nt Tc):=by
  rw [← hcs]
  show some (m.AT.v b.att.length) = _
  rw [hT,hnt]
  rfl
 have hbkc:cs[32]? = some (.slice KA nk Kc):=by
  rw [← hcs]
  show some (m.BK.v b.blk.length) = _
  rw [hK,hnk]
  rfl
 have HATC:=Lib.hid hatc
 have HBKC:=Lib.hid hbkc
 clear hat hbk hto hko hnt hnk hT hK hatc hbkc
 rcases ha with ha | ha
 ·have HFO:Hid (b.fld b.actv = b.s0.fld):=Lib.hid (by rw [ha];rfl)
  have HFX:Hid (b.fld (1 - b.actv) = b.s1.fld):=Lib.hid (by rw [ha];rfl)
  have hlo:=h.s0.F
  have hlx:=h.s1.F
  obtain ⟨⟨OA,Oc⟩,hO⟩:∃ s,m.m0.F = s:=⟨_,rfl⟩
  obtain ⟨⟨XA,Xc⟩,hX⟩:∃ s,m.m1.F = s:=⟨_,rfl⟩
  obtain ⟨LO,hLO⟩:∃ l,b.s0.fld = l:=⟨_,rfl⟩
  obtain ⟨LX,hLX⟩:∃ l,b.s1.fld = l:=⟨_,rfl⟩
  rw [hO,hLO] at hlo
  rw [hX,hLX] at hlx
  rw [hLO] at HFO
  rw [hLX] at HFX
  obtain ⟨no,hno⟩:∃ n,LO.length = n:=⟨_,rfl⟩
  obtain ⟨nx,hnx⟩:∃ n,LX.length = n:=⟨_,rfl⟩
  have hlo1:=hlo.row
  have hlx1:=hlx.row
  simp only at hlo1 hlx1
  rw [hno] at hlo1
  rw [hnx] at hlx1
  have HLO:=Lib.hid hlo1
  have HLX:=Lib.hid hlx1
  have hno9:no ≤ 9223372036854775807:=by have:=hlo.ok;unfold Sl.ok at this;simp only at this;omega
  have hnx9:nx ≤ 9223372036854775807:=by have:=hlx.ok;unfold Sl.ok at this;simp only at this;omega
  have o0:(w.alloc (.cells cs 33)).cell? ⟨w.heap.size,34,none⟩ = some (.int .i64 0):=by
   rw [hbox.at_,← hcs,← ha]
   rfl
  have o1:(w.alloc (.cells cs 33)).cell? ⟨w.heap.size,8,none⟩ = some (.slice OA no Oc):=by
   rw [hbox.at_,← hcs]
   show some (m.m0.F.v b.s0.fld.length) = _
   rw [hO,hLO,hno]
   rfl
  have o2:(w.alloc (.cells cs 33)).cell? ⟨w.heap.size,22,none⟩ = some (.slice XA nx Xc):=by
   rw [hbox.at_,← hcs]
   show some (m.m1.F.v b.s1.fld.length) = _
   rw [hX,hLX,hnx]
   rfl
  have hmm:=@run_makeMap Tryz.prog
  have HBOX:=Lib.hid hbox
  have HB0:=Lib.hid hB0
  have HCS:=Lib.hid hcs
  clear hlo hlx hlo1 hlx1 hO hX hLO hLX hno hnx hbox hB0 hcs h
  go_enter Tryz.func49,Tryz.ntmps49
  go_wp2
  go_quiet (fail)
  clear o0 o1 o2
  have HB1:=Lib.hid (below_call HB0.out (below_drew_ (Below.refl _ _) nq) HB0.out.size)
  have HX1:=Lib.hid (HBOX.out.drewN nq)
  have hsz:w.heap.size < ((w.alloc (.cells cs 33)).drewN nq).heap.size:=HX1.out.lt
  generalize (w.alloc (.cells cs 33)).drewN nq = w1 at *
  have at1:(w1.alloc (.map #[] 0)).cell? ⟨w.heap.size,31,none⟩ = some (.slice TA nt Tc):=((HX1.out.alloc (.map #[] 0)).at_ 31).trans HATC.out
  have HF0:Hid (FgS w b w.heap.size w1.heap.size cs (b.att.take 0) [] (fun _ => none) 0 (w1.alloc (.map #[] 0))):=Lib.hid
   ⟨HB1.out.alloc HB1.out.size _,HX1.out.alloc _,MapB.make w1,seen_nil,List.nodup_nil,(fun x hx => by simp at hx),List.nodup_nil,List.nodup_nil,(fun y hy => by cases hy),by omega,HB1.out.size⟩
  obtain ⟨gM,hgM⟩:∃ g,w1.heap.size = g:=⟨_,rfl⟩
  rw [hgM] at HF0
  go_wp2
  clear hgM hmm at1 hsz
  generalize w1.alloc (.map #[] 0) = w2 at *
  go_loopw [27] (fun i W => ∃ (k n:Nat) (f:Int → Option Bool),k ≤ nt ∧ i = .int .i64 k ∧ n ≤ k ∧ Hid (FgS w b w.heap.size gM cs (b.att.take k) [] f n W)) (fun i _ => nt - (intOf i).toNat)
  case atStart => exact ⟨0,0,_,Nat.zero_le _,rfl,Nat.le_refl _,HF0⟩
  case round =>
   clear HF0
   obtain ⟨k,n,f,hk,rfl,hnk2,HF⟩:=hrel
   by_cases hkn:k < nt
   ·have hkn':(k:Int) < nt:=by omega
    have hrow:=HAT.out.row.below HF.out.bel
    simp only [HNT.out] at hrow
    obtain ⟨ad,rfl,hadl,c0⟩:=int_at hrow hkn
    have hget:=ith_get (xs:=b.att) (k:=k) (by rw [HNT.out];exact hkn)
    have hwf:=HAT.out.wf _ (List.mem_of_getElem? hget)
    generalize ith b.att k = x at *
    have HGET:=Lib.hid hget
    have HWF:=Lib.hid hwf
    have HTK:=Lib.hid (take_snoc hget)
    have hl1:=HF.out.map.get hwf
    obtain ⟨s1,hs1⟩:∃ s,(f x).getD false = s:=⟨_,rfl⟩
    rw [hs1] at hl1
    have HCO:=Lib.hid (con_any OA no Oc LO x wr (HLO.out.below HF.out.bel) hno9)
    clear hrow hget hwf
    cases s1 with
    | true =>
     have HBAD:Hid (¬ figP b):=Lib.hid (fun hf => by
      have h1:=(HF.out.seen x).1 hs1
      simp at h1
      have h2:b.att = b.att.take (k + 1) ++ b.att.drop (k + 1):=(List.take_append_drop _ _).symm
      have h3:=hf.1
      rw [h2,HTK.out] at h3
      have h4:=(List.nodup_append.1 h3).1
      exact (List.nodup_append.1 h4).2.2 x h1 x (by simp) rfl)
     clear hs1
     go_wp2
     go_ret
     exact ⟨false,rfl,⟨fun h => (by cases h),fun h => absurd h HBAD.out⟩,HF.out.bel⟩
    | false =>
     have HNIN:Hid (x ∉ b.att.take k):=Lib.hid (fun hx => by
      have:=(HF.out.seen x).2 (.inl ⟨hx,by simp⟩)
      rw [hs1] at this
      cases this)
     clear hs1
     go_wp2_with fail
     refine HCO.out.mono ?_
     rintro e w3 ⟨rfl,hb3⟩
     have HF3:=Lib.hid (HF.out.below hb3)
     by_cases hin:x ∈ LO
     ·rw [decide_eq_true hin]
      obtain ⟨w4,hrun,hm4,hg4⟩:=HF3.out.map.put (v:=true) HWF.out (by unfold maxLen;omega)
      have HF4:Hid (FgS w b w.heap.size gM cs (b.att.take (k + 1)) [] (putF f x true) (if (f x).isSome then n else n + 1) w4):=Lib.hid (by
       rw [HTK.out]
       refine ⟨HF3.out.bel.grown hg4 HF3.out.bel.size (fun q hq => by injection hq with hq;have:=HF3.out.ne.2;omega),HF3.out.box.grown hg4 (fun e => HF3.out.ne.1 (by injection e)),hm4,seen_att HF3.out.seen x,?_,?_,HF3.out.na,HF3.out.nb,(fun y hy => by cases hy),HF3.out.ne⟩
       ·rw [List.nodup_append]
        refine ⟨HF3.out.nd,by simp,fun a ha c hc e => ?_⟩
        simp at hc
        rw [e,hc] at ha
        exact HNIN.out ha
       ·intro y hy
        rcases List.mem_append.1 hy with hy | hy
        ·exact HF3.out.own y hy
        ·rw [List.mem_singleton] at hy
         rw [hy,HFO.out]
         exact hin)
      have hn2:(if (f x).isSome then n else n + 1) ≤ k + 1:=by split <;> omega
      generalize (if (f x).isSome then n else n + 1) = n2 at *
      clear hin hm4 hg4 hl1
      go_wp2
      go_roundw
      case rel => exact ⟨k + 1,n2,_,hkn,by go_num,hn2,HF4⟩
      case measure => simp [intOf];omega
     ·have HBAD:Hid (¬ figP b):=Lib.hid (fun hf => hin (by
       have:=hf.2.1 x (List.mem_of_getElem? HGET.out)
       rwa [HFO.out] at this))
      rw [decide_eq_false hin]
      clear hin hl1
      go_wp2
      go_ret
      exact ⟨false,rfl,⟨fun h => (by cases h),fun h => absurd h HBAD.out⟩,HF3.out.bel⟩
   ·have HKE:Hid (k = nt):=Lib.hid (by omega)
    have HFA:Hid (FgS w b w.heap.size gM cs b.att (b.blk.take 0) f n wr):=Lib.hid (by
     have h:=HF.out
     rw [List.take_of_length_le (by rw [HNT.out,HKE.out];exact Nat.le_refl _)] at h
     exact h)
    have hn5:n ≤ 500:=by
     have h1:=len_sub HFA.out.nd HFA.out.own
     have h2:=HLE.out b.actv
     have h3:=HNT.out
     have h4:=HKE.out
     omega
    have bk1:wr.cell? ⟨w.heap.size,32,none⟩ = some (.slice KA nk Kc):=(HF.out.box.at_ 32).trans HBKC.out
    clear hk hnk2 HF
    go_wp2
    clear bk1
    go_loopw [46] (fun i W => ∃ (j n:Nat) (f:Int → Option Bool),j ≤ nk ∧ i = .int .i64 j ∧ n ≤ 500 + 2 * j ∧ Hid (FgS w b w.heap.size gM cs b.att (b.blk.take j) f n W)) (fun i _ => nk - (intOf i).toNat)
    case atStart => exact ⟨0,n,f,Nat.zero_le _,rfl,hn5,HFA⟩
    case round =>
     clear HFA hn5
     obtain ⟨j,n,f,hj,rfl,hnj,HF⟩:=hrel
     by_cases hjn:j < nk
     ·have hjn':(j:Int) < nk:=by omega
      have hj5:j ≤ 500:=by
       have h1:=len_sub HF.out.nd HF.out.own
       have h2:=HLE.out b.actv
       have h3:=len_sub HF.out.na (m:=b.att) (fun x hx => by
        obtain ⟨y,hy,rfl⟩:=List.mem_map.1 hx
        exact (HF.out.bl y hy).1)
       rw [List.length_map,List.length_take,HNK.out] at h3
       omega
      obtain ⟨x,hx⟩:=get_of (l:=b.blk) (k:=j) (by rw [HNK.out];exact hjn)
      obtain ⟨ad,rfl,hadl,c0,c1⟩:=blk_at (HBK.out.below HF.out.bel) hx hjn
      have hwf:=HR.out.Bw x (List.mem_of_getElem? hx)
      have HGET:=Lib.hid hx
      have HMEM:=Lib.hid (List.mem_of_getElem? hx)
      have HTK:=Lib.hid (take_snoc hx)
      obtain ⟨xb,xa⟩:=x
      simp only at c0 c1 hwf
      have HWA:=Lib.hid hwf.1
      have HWB:=Lib.hid hwf.2
      obtain ⟨w5,hw5⟩:∃ w5,wr.alloc (.cells #[.int .i64 xb,.int .i64 xa] 84) = w5:=⟨_,rfl⟩
      obtain ⟨gX,hgX⟩:∃ g,wr.heap.size = g:=⟨_,rfl⟩
      have hal:Below wr.heap.size wr w5:=by rw [← hw5];exact (Below.refl _ _).alloc (Nat.le_refl _) _
      have HF5:=Lib.hid (HF.out.below hal)
      have HX5:Hid (Blk w5 gX 84 #[.int .i64 xb,.int .i64 xa]):=Lib.hid (by rw [← hw5];exact Blk.mk_ wr _ _ _ hgX)
      have HNX:Hid (gX ≠ gM):=Lib.hid (by have:=HF.out.map.lt;omega)
      obtain ⟨nb,hnb⟩:∃ z,IntKind.i64.wrap (-xb) = z:=⟨_,rfl⟩
      have hwnb:wfI nb:=by
       rw [← hnb]
       unfold wfI
       rw [IntKind.wrap_i64]
       omega
      have x0:w5.cell? ⟨gX,0,none⟩ = some (.int .i64 xb):=(HX5.out.at_ 0).trans rfl
      have x1:w5.cell? ⟨gX,1,none⟩ = some (.int .i64 xa):=(HX5.out.at_ 1).trans rfl
      have hx5:=HX5.out.lt
      have hl1:=HF5.out.map.get hwf.1
      have hl2:=HF5.out.map.get hwnb
      clear hwnb
      obtain ⟨s1,hs1⟩:∃ s,(f xa).getD false = s:=⟨_,rfl⟩
      obtain ⟨s2,hs2⟩:∃ s,(f nb).getD false = s:=⟨_,rfl⟩
      rw [hs1] at hl1
      rw [hs2] at hl2
      have HS1:=Lib.hid hs1
      have HS2:=Lib.hid hs2
      have HNB:=Lib.hid hnb
      have HC1:=Lib.hid (con_any TA nt Tc b.att xa w5 (by have:=HAT.out.row.below HF5.out.bel;simp only [HNT.out] at this;exact this) hnt9)
      clear hs1 hs2 hx hwf HF hal
      have HSUB:Hid (figP b → ∀ y ∈ b.blk.take j,y.a ≠ xa ∧ y.b ≠ xb):=Lib.hid (fun hf y hy => by
       have h2:b.blk = b.blk.take (j + 1) ++ b.blk.drop (j + 1):=(List.take_append_drop _ _).symm
       have h3:=hf.2.2.1
       have h4:=hf.2.2.2.1
       rw [h2,HTK.out,List.map_append,List.map_append] at h3 h4
       have h5:=(List.nodup_append.1 (List.nodup_append.1 h3).1).2.2
       have h6:=(List.nodup_append.1 (List.nodup_append.1 h4).1).2.2
       exact ⟨h5 y.a (List.mem_map.2 ⟨y,hy,rfl⟩) xa (by simp),h6 y.b (List.mem_map.2 ⟨y,hy,rfl⟩) xb (by simp)⟩)
      have HPA:Hid (∀ x ∈ b.att,0 < x):=Lib.hid (fun x hx => fld_pos HPL.out _ (HF5.out.own x hx))
      have HPB:Hid (∀ y ∈ b.blk.take j,0 < y.b):=Lib.hid (fun y hy => fld_pos HPL.out _ (HF5.out.bl y hy).2)
      have HNW:Hid (0 < xb → nb = -xb):=Lib.hid (fun hp => by
       have:=HNB.out
       rw [← this,IntKind.wrap_i64]
       have:=HWB.out
       unfold wfI at this
       omega)
      cases s1 with
      | false =>
       have HBAD:Hid (¬ figP b):=Lib.hid (fun hf => by
        have h1:=(hf.2.2.2.2 _ HMEM.out).1
        have h2:=(HF5.out.seen xa).2 (.inl ⟨h1,fun hm => by
         obtain ⟨y,hy,he⟩:=List.mem_map.1 hm
         exact (HSUB.out hf y hy).1 he⟩)
        rw [HS1.out] at h2
        cases h2)
       clear hl2
       go_wp2
       go_ret
       exact ⟨false,rfl,⟨fun h => (by cases h),fun h => absurd h HBAD.out⟩,HF5.out.bel⟩
      | true =>
       cases s2 with
       | true =>
        have HBAD:Hid (¬ figP b):=Lib.hid (fun hf => by
         have h1:=fld_pos HPL.out _ (hf.2.2.2.2 _ HMEM.out).2
         simp only at h1
         rcases (HF5.out.seen nb).1 HS2.out with h2 | ⟨y,hy,he⟩
         ·have h3:=HPA.out _ h2.1
          have h4:=HNW.out h1
          omega
         ·have h4:=HNW.out h1
          exact (HSUB.out hf y hy).2 (by omega))
        go_wp2
        go_ret
        exact ⟨false,rfl,⟨fun h => (by cases h),fun h => absurd h HBAD.out⟩,HF5.out.bel⟩
       | false =>
        have at5:w5.cell? ⟨w.heap.size,31,none⟩ = some (.slice TA nt Tc):=(HF5.out.box.at_ 31).trans HATC.out
        go_wp2_with fail
        refine HC1.out.mono ?_
        rintro e w6 ⟨rfl,hb6⟩
        have HF6:=Lib.hid (HF5.out.below hb6)
        have HX6:=Lib.hid (HX5.out.call hb6)
        clear hl1 hl2 x0 x1 at5 hx5 hw5 hadl c0 c1 HF5 HX5 HC1 hgX
        by_cases hin:xa ∈ b.att
        ·rw [decide_eq_true hin]
         have x6:w6.cell? ⟨gX,0,none⟩ = some (.int .i64 xb):=(HX6.out.at_ 0).trans rfl
         have HC2:=Lib.hid (con_any XA nx Xc LX xb w6 (HLX.out.below HF6.out.bel) hnx9)
         have HIA:=Lib.hid hin
         clear hin
         go_wp2_with fail
         refine HC2.out.mono ?_
         rintro e w7 ⟨rfl,hb7⟩
         have HF7:=Lib.hid (HF6.out.below hb7)
         have HX7:=Lib.hid (HX6.out.call hb7)
         clear x6 HF6 HX6 HC2
         by_cases hin:xb ∈ LX
         ·rw [decide_eq_true hin]
          have HIB:=Lib.hid hin
          clear hin
          go_wp2_with fail
          have HPXB:=Lib.hid (fld_pos HPL.out (1 - b.actv) (i:=xb) (by rw [HFX.out];exact HIB.out))
          have HNBX:=Lib.hid (HNW.out HPXB.out)
          have hwnb:wfI nb:=by
           rw [← HNB.out]
           unfold wfI
           rw [IntKind.wrap_i64]
           omega
          have HF8:=Lib.hid (HF7.out.below (Below.refl _ _).drew)
          have HX8:=Lib.hid (HX7.out.drew)
          obtain ⟨w9,hrun1,hm9,hg9⟩:=HF8.out.map.put (v:=false) HWA.out (by unfold maxLen;omega)
          have HF9:Hid (MapB w9 gM (if (f xa).isSome then n else n + 1) (putF f xa false) ∧ Below w.heap.size w w9 ∧ Blk w9 w.heap.size 33 cs ∧ Blk w9 gX 84 #[.int .i64 xb,.int .i64 xa]):=Lib.hid
           ⟨hm9,HF8.out.bel.grown hg9 HF8.out.bel.size (fun q hq => by injection hq with hq;have:=HF8.out.ne.2;omega),HF8.out.box.grown hg9 (fun e => HF8.out.ne.1 (by injection e)),HX8.out.grown hg9 (fun e => HNX.out (by injection e))⟩
          have hn2:(if (f xa).isSome then n else n + 1) ≤ 500 + 2 * j + 1:=by split <;> omega
          generalize (if (f xa).isSome then n else n + 1) = n2 at *
          obtain ⟨w10,hrun2,hm10,hg10⟩:=HF9.out.1.put (v:=true) hwnb (by unfold maxLen;omega)
          have hn3:(if (putF f xa false nb).isSome then n2 else n2 + 1) ≤ 500 + 2 * (j + 1):=by split <;> omega
          generalize (if (putF f xa false nb).isSome then n2 else n2 + 1) = n3 at *
          have HF10:Hid (FgS w b w.heap.size gM cs b.att (b.blk.take (j + 1)) (putF (putF f xa false) nb true) n3 w10):=Lib.hid (by
           rw [HTK.out]
           refine ⟨HF9.out.2.1.grown hg10 HF9.out.2.1.size (fun q hq => by injection hq with hq;have:=HF8.out.ne.2;omega),HF9.out.2.2.1.grown hg10 (fun e => HF8.out.ne.1 (by injection e)),hm10,?_,HF8.out.nd,HF8.out.own,?_,?_,?_,HF8.out.ne⟩
           ·rw [HNBX.out]
            exact seen_blk HF8.out.seen HPA.out HPB.out HPXB.out (HPA.out _ HIA.out)
           ·rw [List.map_append,List.nodup_append]
            refine ⟨HF8.out.na,by simp,fun a ha c hc e => ?_⟩
            simp at hc
            rw [e,hc] at ha
            rcases (HF8.out.seen xa).1 HS1.out with h1 | ⟨y,hy,he⟩
            ·exact h1.2 ha
            ·have h2:=HPB.out y hy
             have h3:=HPA.out _ HIA.out
             omega
           ·rw [List.map_append,List.nodup_append]
            refine ⟨HF8.out.nb,by simp,fun a ha c hc e => ?_⟩
            simp at hc
            rw [e,hc] at ha
            obtain ⟨y,hy,he⟩:=List.mem_map.1 ha
            have h1:=(HF8.out.seen nb).2 (.inr ⟨y,hy,by rw [HNBX.out,he]⟩)
            rw [HS2.out] at h1
            cases h1
           ·intro y hy
            rcases List.mem_append.1 hy with hy | hy
            ·exact HF8.out.bl y hy
            ·rw [List.mem_singleton] at hy
             rw [hy]
             exact ⟨HIA.out,by rw [HFX.out];exact HIB.out⟩)
          have HXS9:=Lib.hid (HF9.out.2.2.2)
          have HXS10:=Lib.hid (HF9.out.2.2.2.grown hg10 (fun e => HNX.out (by injection e)))
          clear hm9 hg9 hm10 hg10 hwnb HF9 HNBX HPXB
          have hNE:Nonempty (In (fun W => Blk W gX 84 #[.int .i64 xb,.int .i64 xa])):=⟨⟨_,HX8.out⟩⟩
          have z0:∀ s:In (fun W => Blk W gX 84 #[.int .i64 xb,.int .i64 xa]),s.W.cell? ⟨gX,0,none⟩ = some (.int .i64 xb):=fun s => (s.h.at_ 0).trans rfl
          have z1:∀ s:In (fun W => Blk W gX 84 #[.int .i64 xb,.int .i64 xa]),s.W.cell? ⟨gX,1,none⟩ = some (.int .i64 xa):=fun s => (s.h.at_ 1).trans rfl
          refine wp_region_sched (fun w' => ∃ s:In (fun W => Blk W gX 84 #[.int .i64 xb,.int .i64 xa]),w' = s.W) [0,1,2,3,4,5,6] (.one 7 [] (.one 8 [] .done)) (by kernel_rfl) (by kernel_rfl) (fun d _ _ _ _ h => by cases d <;> exact h) ⟨⟨_,HX8.out⟩,rfl⟩ ?_
          simp only [opsAt,List.getElem?_toArray,List.getElem?_cons_succ,List.getElem?_cons_zero]
          repeat (go_big_quiet_step (fail))
          refine wpQuiet_nil ?_
          (refine eff_lit rfl rfl (fun K hK => ?_))
          go_big_op
          refine hK _ _ ⟨⟨_,HXS9.out⟩,rfl⟩ ?_
          clear hK K z0 z1 hNE
          simp only [opsAt,List.getElem?_toArray,List.getElem?_cons_succ,List.getElem?_cons_zero]
          refine wpQuiet_nil ?_
          (refine eff_lit rfl rfl (fun K hK => ?_))
          go_big_op
          refine hK _ _ ⟨⟨_,HXS10.out⟩,rfl⟩ ?_
          clear hK K hrun1 hrun2
          simp only [opsAt,List.getElem?_toArray,List.getElem?_cons_succ,List.getElem?_cons_zero]
          refine wpQuiet_nil ?_
          refine effs_done ?_
          go_wp2
          go_roundw
          case rel => exact ⟨j + 1,n3,_,hjn,by go_num,hn3,HF10⟩
          case measure => simp [intOf];omega
         ·have HBAD:Hid (¬ figP b):=Lib.hid (fun hf => hin (by
           have:=(hf.2.2.2.2 _ HMEM.out).2
           rwa [HFX.out] at this))
          rw [decide_eq_false hin]
          clear hin
          go_wp2
          go_ret
          exact ⟨false,rfl,⟨fun h => (by cases h),fun h => absurd h HBAD.out⟩,HF7.out.bel⟩
        ·have HBAD:Hid (¬ figP b):=Lib.hid (fun hf => hin (hf.2.2.2.2 _ HMEM.out).1)
         rw [decide_eq_false hin]
         clear hin
         go_wp2
         go_ret
         exact ⟨false,rfl,⟨fun h => (by cases h),fun h => absurd h HBAD.out⟩,HF6.out.bel⟩
     ·have HJE:Hid (j = nk):=Lib.hid (by omega)
      have HFIG:Hid (figP b):=Lib.hid (by
       have h:=HF.out
       rw [List.take_of_length_le (by rw [HNK.out,HJE.out];exact Nat.le_refl _)] at h
       exact ⟨h.nd,h.own,h.na,h.nb,h.bl⟩)
      have HB:=Lib.hid HF.out.bel
      clear hj
      go_wp2
      go_ret
      exact ⟨true,rfl,⟨fun _ => HFIG.out,fun _ => rfl⟩,HB.out⟩
 ·have HFO:Hid (b.fld b.actv = b.s1.fld):=Lib.hid (by rw [ha];rfl)
  have HFX:Hid (b.fld (1 - b.actv) = b.s0.fld):=Lib.hid (by rw [ha];rfl)
  have hlo:=h.s1.F
  have hlx:=h.s0.F
  obtain ⟨⟨OA,Oc⟩,hO⟩:∃ s,m.m1.F = s:=⟨_,rfl⟩
  obtain ⟨⟨XA,Xc⟩,hX⟩:∃ s,m.m0.F = s:=⟨_,rfl⟩
  obtain ⟨LO,hLO⟩:∃ l,b.s1.fld = l:=⟨_,rfl⟩
  obtain ⟨LX,hLX⟩:∃ l,b.s0.fld = l:=⟨_,rfl⟩
  rw [hO,hLO] at hlo
  rw [hX,hLX] at hlx
  rw [hLO] at HFO
  rw [hLX] at HFX
  obtain ⟨no,hno⟩:∃ n,LO.length = n:=⟨_,rfl⟩
  obtain ⟨nx,hnx⟩:∃ n,LX.length = n:=⟨_,rfl⟩
  have hlo1:=hlo.row
  have hlx1:=hlx.row
  simp only at hlo1 hlx1
  rw [hno] at hlo1
  rw [hnx] at hlx1
  have HLO:=Lib.hid hlo1
  have HLX:=Lib.hid hlx1
  have hno9:no ≤ 9223372036854775807:=by have:=hlo.ok;unfold Sl.ok at this;simp only at this;omega
  have hnx9:nx ≤ 9223372036854775807:=by have:=hlx.ok;unfold Sl.ok at this;simp only at this;omega
  have o0:(w.alloc (.cells cs 33)).cell? ⟨w.heap.size,34,none⟩ = some (.int .i64 1):=by
   rw [hbox.at_,← hcs,← ha]
   rfl
  have o1:(w.alloc (.cells cs 33)).cell? ⟨w.heap.size,22,none⟩ = some (.slice OA no Oc):=by
   rw [hbox.at_,← hcs]
   show some (m.m1.F.v b.s1.fld.length) = _
   rw [hO,hLO,hno]
   rfl
  have o2:(w.alloc (.cells cs 33)).cell? ⟨w.heap.size,8,none⟩ = some (.slice XA nx Xc):=by
   rw [hbox.at_,← hcs]
   show some (m.m0.F.v b.s0.fld.length) = _
   rw [hX,hLX,hnx]
   rfl
  have hmm:=@run_makeMap Tryz.prog
  have HBOX:=Lib.hid hbox
  have HB0:=Lib.hid hB0
  have HCS:=Lib.hid hcs
  clear hlo hlx hlo1 hlx1 hO hX hLO hLX hno hnx hbox hB0 hcs h
  go_enter Tryz.func49,Tryz.ntmps49
  go_wp2
  go_quiet (fail)
  clear o0 o1 o2
  have HB1:=Lib.hid (below_call HB0.out (below_drew_ (Below.refl _ _) nq) HB0.out.size)
  have HX1:=Lib.hid (HBOX.out.drewN nq)
  have hsz:w.heap.size < ((w.alloc (.cells cs 33)).drewN nq).heap.size:=HX1.out.lt
  generalize (w.alloc (.cells cs 33)).drewN nq = w1 at *
  have at1:(w1.alloc (.map #[] 0)).cell? ⟨w.heap.size,31,none⟩ = some (.slice TA nt Tc):=((HX1.out.alloc (.map #[] 0)).at_ 31).trans HATC.out
  have HF0:Hid (FgS w b w.heap.size w1.heap.size cs (b.att.take 0) [] (fun _ => none) 0 (w1.alloc (.map #[] 0))):=Lib.hid
   ⟨HB1.out.alloc HB1.out.size _,HX1.out.alloc _,MapB.make w1,seen_nil,List.nodup_nil,(fun x hx => by simp at hx),List.nodup_nil,List.nodup_nil,(fun y hy => by cases hy),by omega,HB1.out.size⟩
  obtain ⟨gM,hgM⟩:∃ g,w1.heap.size = g:=⟨_,rfl⟩
  rw [hgM] at HF0
  go_wp2
  clear hgM hmm at1 hsz
  generalize w1.alloc (.map #[] 0) = w2 at *
  go_loopw [27] (fun i W => ∃ (k n:Nat) (f:Int → Option Bool),k ≤ nt ∧ i = .int .i64 k ∧ n ≤ k ∧ Hid (FgS w b w.heap.size gM cs (b.att.take k) [] f n W)) (fun i _ => nt - (intOf i).toNat)
  case atStart => exact ⟨0,0,_,Nat.zero_le _,rfl,Nat.le_refl _,HF0⟩
  case round =>
   clear HF0
   obtain ⟨k,n,f,hk,rfl,hnk2,HF⟩:=hrel
   by_cases hkn:k < nt
   ·have hkn':(k:Int) < nt:=by omega
    have hrow:=HAT.out.row.below HF.out.bel
    simp only [HNT.out] at hrow
    obtain ⟨ad,rfl,hadl,c0⟩:=int_at hrow hkn
    have hget:=ith_get (xs:=b.att) (k:=k) (by rw [HNT.out];exact hkn)
    have hwf:=HAT.out.wf _ (List.mem_of_getElem? hget)
    generalize ith b.att k = x at *
    have HGET:=Lib.hid hget
    have HWF:=Lib.hid hwf
    have HTK:=Lib.hid (take_snoc hget)
    have hl1:=HF.out.map.get hwf
    obtain ⟨s1,hs1⟩:∃ s,(f x).getD false = s:=⟨_,rfl⟩
    rw [hs1] at hl1
    have HCO:=Lib.hid (con_any OA no Oc LO x wr (HLO.out.below HF.out.bel) hno9)
    clear hrow hget hwf
    cases s1 with
    | true =>
     have HBAD:Hid (¬ figP b):=Lib.hid (fun hf => by
      have h1:=(HF.out.seen x).1 hs1
      simp at h1
      have h2:b.att = b.att.take (k + 1) ++ b.att.drop (k + 1):=(List.take_append_drop _ _).symm
      have h3:=hf.1
      rw [h2,HTK.out] at h3
      have h4:=(List.nodup_append.1 h3).1
      exact (List.nodup_append.1 h4).2.2 x h1 x (by simp) rfl)
     clear hs1
     go_wp2
     go_ret
     exact ⟨false,rfl,⟨fun h => (by cases h),fun h => absurd h HBAD.out⟩,HF.out.bel⟩
    | false =>
     have HNIN:Hid (x ∉ b.att.take k):=Lib.hid (fun hx => by
      have:=(HF.out.seen x).2 (.inl ⟨hx,by simp⟩)
      rw [hs1] at this
      cases this)
     clear hs1
     go_wp2_with fail
     refine HCO.out.mono ?_
     rintro e w3 ⟨rfl,hb3⟩
     have HF3:=Lib.hid (HF.out.below hb3)
     by_cases hin:x ∈ LO
     ·rw [decide_eq_true hin]
      obtain ⟨w4,hrun,hm4,hg4⟩:=HF3.out.map.put (v:=true) HWF.out (by unfold maxLen;omega)
      have HF4:Hid (FgS w b w.heap.size gM cs (b.att.take (k + 1)) [] (putF f x true) (if (f x).isSome then n else n + 1) w4):=Lib.hid (by
       rw [HTK.out]
       refine ⟨HF3.out.bel.grown hg4 HF3.out.bel.size (fun q hq => by injection hq with hq;have:=HF3.out.ne.2;omega),HF3.out.box.grown hg4 (fun e => HF3.out.ne.1 (by injection e)),hm4,seen_att HF3.out.seen x,?_,?_,HF3.out.na,HF3.out.nb,(fun y hy => by cases hy),HF3.out.ne⟩
       ·rw [List.nodup_append]
        refine ⟨HF3.out.nd,by simp,fun a ha c hc e => ?_⟩
        simp at hc
        rw [e,hc] at ha
        exact HNIN.out ha
       ·intro y hy
        rcases List.mem_append.1 hy with hy | hy
        ·exact HF3.out.own y hy
        ·rw [List.mem_singleton] at hy
         rw [hy,HFO.out]
         exact hin)
      have hn2:(if (f x).isSome then n else n + 1) ≤ k + 1:=by split <;> omega
      generalize (if (f x).isSome then n else n + 1) = n2 at *
      clear hin hm4 hg4 hl1
      go_wp2
      go_roundw
      case rel => exact ⟨k + 1,n2,_,hkn,by go_num,hn2,HF4⟩
      case measure => simp [intOf];omega
     ·have HBAD:Hid (¬ figP b):=Lib.hid (fun hf => hin (by
       have:=hf.2.1 x (List.mem_of_getElem? HGET.out)
       rwa [HFO.out] at this))
      rw [decide_eq_false hin]
      clear hin hl1
      go_wp2
      go_ret
      exact ⟨false,rfl,⟨fun h => (by cases h),fun h => absurd h HBAD.out⟩,HF3.out.bel⟩
   ·have HKE:Hid (k = nt):=Lib.hid (by omega)
    have HFA:Hid (FgS w b w.heap.size gM cs b.att (b.blk.take 0) f n wr):=Lib.hid (by
     have h:=HF.out
     rw [List.take_of_length_le (by rw [HNT.out,HKE.out];exact Nat.le_refl _)] at h
     exact h)
    have hn5:n ≤ 500:=by
     have h1:=len_sub HFA.out.nd HFA.out.own
     have h2:=HLE.out b.actv
     have h3:=HNT.out
     have h4:=HKE.out
     omega
    have bk1:wr.cell? ⟨w.heap.size,32,none⟩ = some (.slice KA nk Kc):=(HF.out.box.at_ 32).trans HBKC.out
    clear hk hnk2 HF
    go_wp2
    clear bk1
    go_loopw [46] (fun i W => ∃ (j n:Nat) (f:Int → Option Bool),j ≤ nk ∧ i = .int .i64 j ∧ n ≤ 500 + 2 * j ∧ Hid (FgS w b w.heap.size gM cs b.att (b.blk.take j) f n W)) (fun i _ => nk - (intOf i).toNat)
    case atStart => exact ⟨0,n,f,Nat.zero_le _,rfl,hn5,HFA⟩
    case round =>
     clear HFA hn5
     obtain ⟨j,n,f,hj,rfl,hnj,HF⟩:=hrel
     by_cases hjn:j < nk
     ·have hjn':(j:Int) < nk:=by omega
      have hj5:j ≤ 500:=by
       have h1:=len_sub HF.out.nd HF.out.own
       have h2:=HLE.out b.actv
       have h3:=len_sub HF.out.na (m:=b.att) (fun x hx => by
        obtain ⟨y,hy,rfl⟩:=List.mem_map.1 hx
        exact (HF.out.bl y hy).1)
       rw [List.length_map,List.length_take,HNK.out] at h3
       omega
      obtain ⟨x,hx⟩:=get_of (l:=b.blk) (k:=j) (by rw [HNK.out];exact hjn)
      obtain ⟨ad,rfl,hadl,c0,c1⟩:=blk_at (HBK.out.below HF.out.bel) hx hjn
      have hwf:=HR.out.Bw x (List.mem_of_getElem? hx)
      have HGET:=Lib.hid hx
      have HMEM:=Lib.hid (List.mem_of_getElem? hx)
      have HTK:=Lib.hid (take_snoc hx)
      obtain ⟨xb,xa⟩:=x
      simp only at c0 c1 hwf
      have HWA:=Lib.hid hwf.1
      have HWB:=Lib.hid hwf.2
      obtain ⟨w5,hw5⟩:∃ w5,wr.alloc (.cells #[.int .i64 xb,.int .i64 xa] 84) = w5:=⟨_,rfl⟩
      obtain ⟨gX,hgX⟩:∃ g,wr.heap.size = g:=⟨_,rfl⟩
      have hal:Below wr.heap.size wr w5:=by rw [← hw5];exact (Below.refl _ _).alloc (Nat.le_refl _) _
      have HF5:=Lib.hid (HF.out.below hal)
      have HX5:Hid (Blk w5 gX 84 #[.int .i64 xb,.int .i64 xa]):=Lib.hid (by rw [← hw5];exact Blk.mk_ wr _ _ _ hgX)
      have HNX:Hid (gX ≠ gM):=Lib.hid (by have:=HF.out.map.lt;omega)
      obtain ⟨nb,hnb⟩:∃ z,IntKind.i64.wrap (-xb) = z:=⟨_,rfl⟩
      have hwnb:wfI nb:=by
       rw [← hnb]
       unfold wfI
       rw [IntKind.wrap_i64]
       omega
      have x0:w5.cell? ⟨gX,0,none⟩ = some (.int .i64 xb):=(HX5.out.at_ 0).trans rfl
      have x1:w5.cell? ⟨gX,1,none⟩ = some (.int .i64 xa):=(HX5.out.at_ 1).trans rfl
      have hx5:=HX5.out.lt
      have hl1:=HF5.out.map.get hwf.1
      have hl2:=HF5.out.map.get hwnb
      clear hwnb
      obtain ⟨s1,hs1⟩:∃ s,(f xa).getD false = s:=⟨_,rfl⟩
      obtain ⟨s2,hs2⟩:∃ s,(f nb).getD false = s:=⟨_,rfl⟩
      rw [hs1] at hl1
      rw [hs2] at hl2
      have HS1:=Lib.hid hs1
      have HS2:=Lib.hid hs2
      have HNB:=Lib.hid hnb
      have HC1:=Lib.hid (con_any TA nt Tc b.att xa w5 (by have:=HAT.out.row.below HF5.out.bel;simp only [HNT.out] at this;exact this) hnt9)
      clear hs1 hs2 hx hwf HF hal
      have HSUB:Hid (figP b → ∀ y ∈ b.blk.take j,y.a ≠ xa ∧ y.b ≠ xb):=Lib.hid (fun hf y hy => by
       have h2:b.blk = b.blk.take (j + 1) ++ b.blk.drop (j + 1):=(List.take_append_drop _ _).symm
       have h3:=hf.2.2.1
       have h4:=hf.2.2.2.1
       rw [h2,HTK.out,List.map_append,List.map_append] at h3 h4
       have h5:=(List.nodup_append.1 (List.nodup_append.1 h3).1).2.2
       have h6:=(List.nodup_append.1 (List.nodup_append.1 h4).1).2.2
       exact ⟨h5 y.a (List.mem_map.2 ⟨y,hy,rfl⟩) xa (by simp),h6 y.b (List.mem_map.2 ⟨y,hy,rfl⟩) xb (by simp)⟩)
      have HPA:Hid (∀ x ∈ b.att,0 < x):=Lib.hid (fun x hx => fld_pos HPL.out _ (HF5.out.own x hx))
      have HPB:Hid (∀ y ∈ b.blk.take j,0 < y.b):=Lib.hid (fun y hy => fld_pos HPL.out _ (HF5.out.bl y hy).2)
      have HNW:Hid (0 < xb → nb = -xb):=Lib.hid (fun hp => by
       have:=HNB.out
       rw [← this,IntKind.wrap_i64]
       have:=HWB.out
       unfold wfI at this
       omega)
      cases s1 with
      | false =>
       have HBAD:Hid (¬ figP b):=Lib.hid (fun hf => by
        have h1:=(hf.2.2.2.2 _ HMEM.out).1
        have h2:=(HF5.out.seen xa).2 (.inl ⟨h1,fun hm => by
         obtain ⟨y,hy,he⟩:=List.mem_map.1 hm
         exact (HSUB.out hf y hy).1 he⟩)
        rw [HS1.out] at h2
        cases h2)
       clear hl2
       go_wp2
       go_ret
       exact ⟨false,rfl,⟨fun h => (by cases h),fun h => absurd h HBAD.out⟩,HF5.out.bel⟩
      | true =>
       cases s2 with
       | true =>
        have HBAD:Hid (¬ figP b):=Lib.hid (fun hf => by
         have h1:=fld_pos HPL.out _ (hf.2.2.2.2 _ HMEM.out).2
         simp only at h1
         rcases (HF5.out.seen nb).1 HS2.out with h2 | ⟨y,hy,he⟩
         ·have h3:=HPA.out _ h2.1
          have h4:=HNW.out h1
          omega
         ·have h4:=HNW.out h1
          exact (HSUB.out hf y hy).2 (by omega))
        go_wp2
        go_ret
        exact ⟨false,rfl,⟨fun h => (by cases h),fun h => absurd h HBAD.out⟩,HF5.out.bel⟩
       | false =>
        have at5:w5.cell? ⟨w.heap.size,31,none⟩ = some (.slice TA nt Tc):=(HF5.out.box.at_ 31).trans HATC.out
        go_wp2_with fail
        refine HC1.out.mono ?_
        rintro e w6 ⟨rfl,hb6⟩
        have HF6:=Lib.hid (HF5.out.below hb6)
        have HX6:=Lib.hid (HX5.out.call hb6)
        clear hl1 hl2 x0 x1 at5 hx5 hw5 hadl c0 c1 HF5 HX5 HC1 hgX
        by_cases hin:xa ∈ b.att
        ·rw [decide_eq_true hin]
         have x6:w6.cell? ⟨gX,0,none⟩ = some (.int .i64 xb):=(HX6.out.at_ 0).trans rfl
         have HC2:=Lib.hid (con_any XA nx Xc LX xb w6 (HLX.out.below HF6.out.bel) hnx9)
         have HIA:=Lib.hid hin
         clear hin
         go_wp2_with fail
         refine HC2.out.mono ?_
         rintro e w7 ⟨rfl,hb7⟩
         have HF7:=Lib.hid (HF6.out.below hb7)
         have HX7:=Lib.hid (HX6.out.call hb7)
         clear x6 HF6 HX6 HC2
         by_cases hin:xb ∈ LX
         ·rw [decide_eq_true hin]
          have HIB:=Lib.hid hin
          clear hin
          go_wp2_with fail
          have HPXB:=Lib.hid (fld_pos HPL.out (1 - b.actv) (i:=xb) (by rw [HFX.out];exact HIB.out))
          have HNBX:=Lib.hid (HNW.out HPXB.out)
          have hwnb:wfI nb:=by
           rw [← HNB.out]
           unfold wfI
           rw [IntKind.wrap_i64]
           omega
          have HF8:=Lib.hid (HF7.out.below (Below.refl _ _).drew)
          have HX8:=Lib.hid (HX7.out.drew)
          obtain ⟨w9,hrun1,hm9,hg9⟩:=HF8.out.map.put (v:=false) HWA.out (by unfold maxLen;omega)
          have HF9:Hid (MapB w9 gM (if (f xa).isSome then n else n + 1) (putF f xa false) ∧ Below w.heap.size w w9 ∧ Blk w9 w.heap.size 33 cs ∧ Blk w9 gX 84 #[.int .i64 xb,.int .i64 xa]):=Lib.hid
           ⟨hm9,HF8.out.bel.grown hg9 HF8.out.bel.size (fun q hq => by injection hq with hq;have:=HF8.out.ne.2;omega),HF8.out.box.grown hg9 (fun e => HF8.out.ne.1 (by injection e)),HX8.out.grown hg9 (fun e => HNX.out (by injection e))⟩
          have hn2:(if (f xa).isSome then n else n + 1) ≤ 500 + 2 * j + 1:=by split <;> omega
          generalize (if (f xa).isSome then n else n + 1) = n2 at *
          obtain ⟨w10,hrun2,hm10,hg10⟩:=HF9.out.1.put (v:=true) hwnb (by unfold maxLen;omega)
          have hn3:(if (putF f xa false nb).isSome then n2 else n2 + 1) ≤ 500 + 2 * (j + 1):=by split <;> omega
          generalize (if (putF f xa false nb).isSome then n2 else n2 + 1) = n3 at *
          have HF10:Hid (FgS w b w.heap.size gM cs b.att (b.blk.take (j + 1)) (putF (putF f xa false) nb true) n3 w10):=Lib.hid (by
           rw [HTK.out]
           refine ⟨HF9.out.2.1.grown hg10 HF9.out.2.1.size (fun q hq => by injection hq with hq;have:=HF8.out.ne.2;omega),HF9.out.2.2.1.grown hg10 (fun e => HF8.out.ne.1 (by injection e)),hm10,?_,HF8.out.nd,HF8.out.own,?_,?_,?_,HF8.out.ne⟩
           ·rw [HNBX.out]
            exact seen_blk HF8.out.seen HPA.out HPB.out HPXB.out (HPA.out _ HIA.out)
           ·rw [List.map_append,List.nodup_append]
            refine ⟨HF8.out.na,by simp,fun a ha c hc e => ?_⟩
            simp at hc
            rw [e,hc] at ha
            rcases (HF8.out.seen xa).1 HS1.out with h1 | ⟨y,hy,he⟩
            ·exact h1.2 ha
            ·have h2:=HPB.out y hy
             have h3:=HPA.out _ HIA.out
             omega
           ·rw [List.map_append,List.nodup_append]
            refine ⟨HF8.out.nb,by simp,fun a ha c hc e => ?_⟩
            simp at hc
            rw [e,hc] at ha
            obtain ⟨y,hy,he⟩:=List.mem_map.1 ha
            have h1:=(HF8.out.seen nb).2 (.inr ⟨y,hy,by rw [HNBX.out,he]⟩)
            rw [HS2.out] at h1
            cases h1
           ·intro y hy
            rcases List.mem_append.1 hy with hy | hy
            ·exact HF8.out.bl y hy
            ·rw [List.mem_singleton] at hy
             rw [hy]
             exact ⟨HIA.out,by rw [HFX.out];exact HIB.out⟩)
          have HXS9:=Lib.hid (HF9.out.2.2.2)
          have HXS10:=Lib.hid (HF9.out.2.2.2.grown hg10 (fun e => HNX.out (by injection e)))
          clear hm9 hg9 hm10 hg10 hwnb HF9 HNBX HPXB
          have hNE:Nonempty (In (fun W => Blk W gX 84 #[.int .i64 xb,.int .i64 xa])):=⟨⟨_,HX8.out⟩⟩
          have z0:∀ s:In (fun W => Blk W gX 84 #[.int .i64 xb,.int .i64 xa]),s.W.cell? ⟨gX,0,none⟩ = some (.int .i64 xb):=fun s => (s.h.at_ 0).trans rfl
          have z1:∀ s:In (fun W => Blk W gX 84 #[.int .i64 xb,.int .i64 xa]),s.W.cell? ⟨gX,1,none⟩ = some (.int .i64 xa):=fun s => (s.h.at_ 1).trans rfl
          refine wp_region_sched (fun w' => ∃ s:In (fun W => Blk W gX 84 #[.int .i64 xb,.int .i64 xa]),w' = s.W) [0,1,2,3,4,5,6] (.one 7 [] (.one 8 [] .done)) (by kernel_rfl) (by kernel_rfl) (fun d _ _ _ _ h => by cases d <;> exact h) ⟨⟨_,HX8.out⟩,rfl⟩ ?_
          simp only [opsAt,List.getElem?_toArray,List.getElem?_cons_succ,List.getElem?_cons_zero]
          repeat (go_big_quiet_step (fail))
          refine wpQuiet_nil ?_
          (refine eff_lit rfl rfl (fun K hK => ?_))
          go_big_op
          refine hK _ _ ⟨⟨_,HXS9.out⟩,rfl⟩ ?_
          clear hK K z0 z1 hNE
          simp only [opsAt,List.getElem?_toArray,List.getElem?_cons_succ,List.getElem?_cons_zero]
          refine wpQuiet_nil ?_
          (refine eff_lit rfl rfl (fun K hK => ?_))
          go_big_op
          refine hK _ _ ⟨⟨_,HXS10.out⟩,rfl⟩ ?_
          clear hK K hrun1 hrun2
          simp only [opsAt,List.getElem?_toArray,List.getElem?_cons_succ,List.getElem?_cons_zero]
          refine wpQuiet_nil ?_
          refine effs_done ?_
          go_wp2
          go_roundw
          case rel => exact ⟨j + 1,n3,_,hjn,by go_num,hn3,HF10⟩
          case measure => simp [intOf];omega
         ·have HBAD:Hid (¬ figP b):=Lib.hid (fun hf => hin (by
           have:=(hf.2.2.2.2 _ HMEM.out).2
           rwa [HFX.out] at this))
          rw [decide_eq_false hin]
          clear hin
          go_wp2
          go_ret
          exact ⟨false,rfl,⟨fun h => (by cases h),fun h => absurd h HBAD.out⟩,HF7.out.bel⟩
        ·have HBAD:Hid (¬ figP b):=Lib.hid (fun hf => hin (hf.2.2.2.2 _ HMEM.out).1)
         rw [decide_eq_false hin]
         clear hin
         go_wp2
         go_ret
         exact ⟨false,rfl,⟨fun h => (by cases h),fun h => absurd h HBAD.out⟩,HF6.out.bel⟩
     ·have HJE:Hid (j = nk):=Lib.hid (by omega)
      have HFIG:Hid (figP b):=Lib.hid (by
       have h:=HF.out
       rw [List.take_of_length_le (by rw [HNK.out,HJE.out];exact Nat.le_refl _)] at h
       exact ⟨h.nd,h.own,h.na,h.nb,h.bl⟩)
      have HB:=Lib.hid HF.out.bel
      clear hj
      go_wp2
      go_ret
      exact ⟨true,rfl,⟨fun _ => HFIG.out,fun _ => rfl⟩,HB.out⟩
end Go.Proofs.YtagpphelgghbpaaGreat
