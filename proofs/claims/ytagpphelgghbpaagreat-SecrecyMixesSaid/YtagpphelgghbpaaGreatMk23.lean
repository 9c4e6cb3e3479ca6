/-
  Texts: Hid, Mxp.
-/
import Derived.Test.YtagpphelgghbpaaGreatMk18
import Derived.Test.YtagpphelgghbpaaGreatMk22
set_option linter.unusedSimpArgs false
set_option linter.unusedVariables false
namespace Go.Proofs.YtagpphelgghbpaaGreat
open Go.RowKit Go.Sort

theorem holds_ics {w:World} {B g n c:Nat} {e:TypeId} {l:List Int} (h:XOwns w B e 1 (some ⟨g,0,none⟩) n c (ics l)):Holds (Value.int .i64) w g 0 l.toArray:=by
 intro j hj
 have hj':j < l.length:=by simpa using hj
 have hg:(ics l)[j]? = some (.int .i64 l[j]):=by rw [ics,List.getElem?_map,List.getElem?_eq_getElem hj'];rfl
 obtain ⟨g',hg',_,_,h1,h2⟩:=h.cell hg
 injection hg' with hg'
 injection hg' with hg'
 subst hg'
 rw [Nat.zero_add]
 refine ⟨?_,h2⟩
 rw [h1,getElem!_pos _ j hj]
 simp
def srtI (l:List Int):List Int:=l.mergeSort fun x y => decide (x ≤ y)
theorem srtI_perm (l:List Int):(srtI l).Perm l:=List.mergeSort_perm _ _
theorem own_srt {w:World} {B g n c m:Nat} {e:TypeId} {os:Array Obj} {l l':List Int} (h:XOwns w B e 1 (some ⟨g,0,none⟩) n c (ics l)) (hl:l'.length = n):XOwns (grow (putRow (Value.int .i64) (Sort.ahead w m) g 0 l'.toArray) os) B e 1 (some ⟨g,0,none⟩) n c (ics l'):=by
 refine ⟨⟨by simp [ics,hl],?_⟩,h.2⟩
 rcases h.1.2 with ⟨h0,_⟩ | ⟨g',c',cur,h1,h2,h3,h4,h5,h6,h7⟩
 ·cases h0
 ·injection h1 with h1 h1a h1b
  injection h1 with h1
  injection h1 with h1
  subst h1 h1b
  refine .inr ⟨g,c,putCells (Value.int .i64) 0 l'.toArray cur,rfl,h2,?_,h4,h5,by simp [putCells,h6],?_⟩
  ·have hg:g < w.heap.size:=(Array.getElem?_eq_some_iff.1 h3).1
   rw [heap_grow_old _ _ (by simpa [putRow,mapBlock,Sort.ahead] using hg)]
   simp [putRow,mapBlock,Sort.ahead,Array.getElem?_modify,h3,onCells]
  ·have hnc:n * 1 ≤ cur.size:=by rw [h6];exact Nat.mul_le_mul_right 1 h4
   refine List.ext_getElem? fun j => ?_
   rcases Nat.lt_or_ge j (n * 1) with hj | hj
   ·have hj2:j < l'.length:=by omega
    rw [List.getElem?_take_of_lt hj,Array.getElem?_toList]
    simp only [putCells,Array.getElem?_mapIdx,Array.getElem?_eq_getElem (show j < cur.size by omega),Option.map_some,Nat.sub_zero,Nat.zero_le,true_and,Nat.zero_add]
    rw [if_pos (by simpa using hj2),ics,List.getElem?_map,List.getElem?_eq_getElem hj2,getElem!_pos _ j (by simpa using hj2)]
    simp
   ·rw [List.getElem?_take_eq_none (by omega),List.getElem?_eq_none (by simp [ics];omega)]
theorem grownBy_srt {w:World} {g m:Nat} {os:Array Obj} (d:Array Int):w.grownBy (grow (putRow (Value.int .i64) (Sort.ahead w m) g 0 d) os) (some g):=by
 refine ⟨rfl,rfl,rfl,by simp [putRow,mapBlock,Sort.ahead,grow],fun j hj hne => ?_⟩
 rw [heap_grow_old _ _ (by simpa [putRow,mapBlock,Sort.ahead] using hj)]
 have:g ≠ j:=fun e => hne (by rw [e])
 simp [putRow,mapBlock,Sort.ahead,Array.getElem?_modify,this]
theorem sort_any (w:World) (B n c:Nat) (A:Option Addr) (l:List Int) (h:XOwns w B 3 1 A n c (ics l)) (hB:B ≤ w.heap.size) (hn:n ≤ 100000) :
  Calls Tryz.prog 58 #[.slice A n c] w fun e w' => e = .returned (.tuple #[]) ∧ XOwns w' B 3 1 A n c (ics (srtI l)) ∧ Below B w w':=by
 have hl:l.length = n:=by have:=h.len;simpa [ics] using this
 rcases Nat.eq_zero_or_pos n with h0 | h0
 ·subst h0
  have hl0:l = []:=List.eq_nil_of_length_eq_zero hl
  subst hl0
  refine (calls_of_every_depth fun D => AnySM.slices_Sort_int_none_in laysSort D A c w).mono ?_
  rintro e w' ⟨rfl,rfl⟩
  exact ⟨rfl,by rw [show srtI [] = [] from by unfold srtI;simp];exact h,Below.refl _ _⟩
 ·obtain ⟨g,rfl⟩:∃ g,A = some ⟨g,0,none⟩:=by
   obtain ⟨g,cap,hv,_⟩:=h.1.form h0
   injection hv
   exact ⟨g,by assumption⟩
  have hlt:=h.lt g rfl
  have hc:=AnyM.slices_Sort_int laysSort g 0 c l w (holds_ics h) hlt.2 (by omega)
  rw [hl] at hc
  refine hc.mono ?_
  rintro e w' ⟨rfl,m,os,rfl⟩
  refine ⟨rfl,own_srt h (by rw [List.length_mergeSort];exact hl),(Below.refl _ _).grown (grownBy_srt _) hB (fun k hk => by injection hk with hk;omega)⟩
def hidS (b:Bd) (k:Nat):List Int:=b.s0.lib ++ b.s1.lib ++ (seN b (1 - k)).hand
def HidEnd (b:Bd) (k:Nat) (w:World) (e:Ending) (w':World):Prop:=∃ A c,e = .returned (.tuple #[.slice A (hidS b k).length c,.int .i64 0]) ∧ XOwns w' w.heap.size 3 1 A (hidS b k).length c (ics (srtI (hidS b k))) ∧ Below w.heap.size w w'
set_option maxRecDepth 100000 in
set_option maxHeartbeats 1600000 in
theorem hidden0 (b:Bd) (m:BdM) (w:World) (hR:BdR w b m) (hz:b.plc.length < 9223372036854775807) (hv:b.Valid) :
  Calls Tryz.prog 23 #[.agg (b.cells m).toArray,.int .i64 0] w (HidEnd b 0 w):=by
 have HSM:=Lib.hid (bd_sm hv)
 have HV:=Lib.hid hv
 have HR:=Lib.hid hR
 obtain ⟨⟨LA,Lc⟩,hmL⟩:∃ x,m.m0.L = x:=⟨_,rfl⟩
 obtain ⟨⟨KA,Kc⟩,hmK⟩:∃ x,m.m1.L = x:=⟨_,rfl⟩
 obtain ⟨⟨HA,Hc⟩,hmH⟩:∃ x,m.m1.H = x:=⟨_,rfl⟩
 obtain ⟨nl,hnl⟩:∃ x,b.s0.lib.length = x:=⟨_,rfl⟩
 obtain ⟨nk,hnk⟩:∃ x,b.s1.lib.length = x:=⟨_,rfl⟩
 obtain ⟨nh,hnh⟩:∃ x,b.s1.hand.length = x:=⟨_,rfl⟩
 obtain ⟨cs,hcs⟩:∃ cs,(b.cells m).toArray = cs:=⟨_,rfl⟩
 have E6:Hid (cs[6]? = some (.slice LA nl Lc)):=Lib.hid (by rw [← hcs];show some (m.m0.L.v b.s0.lib.length) = _;rw [hmL,hnl];rfl)
 have E20:Hid (cs[20]? = some (.slice KA nk Kc)):=Lib.hid (by rw [← hcs];show some (m.m1.L.v b.s1.lib.length) = _;rw [hmK,hnk];rfl)
 have EH:Hid (cs[21]? = some (.slice HA nh Hc)):=Lib.hid (by rw [← hcs];show some (m.m1.H.v b.s1.hand.length) = _;rw [hmH,hnh];rfl)
 have HNN:=Lib.hid (And.intro hnl (And.intro hnk hnh))
 have HMM:=Lib.hid (And.intro hmL (And.intro hmK hmH))
 have HCS:=Lib.hid hcs
 rw [hcs]
 obtain ⟨w1,hw1⟩:∃ w1,w.alloc (.cells cs 33) = w1:=⟨_,rfl⟩
 have HB1:Hid (Below w.heap.size w w1):=Lib.hid (by rw [← hw1];exact (Below.refl _ _).alloc (Nat.le_refl _) _)
 have hbx:Blk w1 w.heap.size 33 cs:=by rw [← hw1];exact Blk.mk_ w _ _ _ rfl
 have HBX1:=Lib.hid hbx
 have HLB:Hid ((Instr.loadAt 33 (.pointer (some ⟨w.heap.size,0,none⟩))).run Tryz.prog w1 = .ok (.agg cs) w1):=Lib.hid (by
  rw [← hcs] at hbx ⊢
  exact hbx.mid (b.cells m) _ (fun j v hj => by rw [Nat.zero_add];simpa using hj) Tryz.underlying33 rfl size_board)
 have HVC:=Lib.hid (valid_any b m w1 (hR.below HB1.out) hz)
 rw [hcs] at HVC
 clear hR hz hv hmL hmK hmH hnl hnk hnh hcs hbx
 go_enter Tryz.func23,Tryz.ntmps23
 go_wp2_with (first
  | (go_at_call 56;refine (player0 w1).mono ?_;rintro e w_ ⟨rfl,rfl⟩)
  | (refine wpList_load_by HLB.out rfl rfl rfl ?_;simp only [Act.put,List.setIfInBounds_toArray,List.set_cons_succ,List.set_cons_zero])
  | fail)
 refine HVC.out.mono ?_
 rintro e w3 ⟨v,rfl,hvv,hb3⟩
 obtain rfl:v = true:=hvv.2 HV.out
 have HB3:=Lib.hid (below_call HB1.out hb3 HB1.out.size)
 have HBX3:=Lib.hid (HBX1.out.call hb3)
 clear hvv hb3 hw1 HLB HVC
 go_wp2_with fail
 have x6:∀ s:Later w3.heap.size w3,s.W.cell? ⟨w.heap.size,6,none⟩ = some (.slice LA nl Lc):=fun s => ((HBX3.out.call s.h).at_ 6).trans E6.out
 have x20:∀ s:Later w3.heap.size w3,s.W.cell? ⟨w.heap.size,20,none⟩ = some (.slice KA nk Kc):=fun s => ((HBX3.out.call s.h).at_ 20).trans E20.out
 have xh:∀ s:Later w3.heap.size w3,s.W.cell? ⟨w.heap.size,21,none⟩ = some (.slice HA nh Hc):=fun s => ((HBX3.out.call s.h).at_ 21).trans EH.out
 have hbxl:=HBX3.out.lt
 refine wp_region_sched (fun w' => ∃ s:Later w3.heap.size w3,w' = s.W) [0,1,2,3,4,5,6,7,8,9,10,11,12,13] (.one 14 [] (.one 15 [16] .done)) (by kernel_rfl) (by kernel_rfl) (fun d _ _ _ _ h => by cases d <;> exact h) ⟨⟨_,(Below.refl _ _).drew⟩,rfl⟩ ?_
 refine quiet_as (C':=(fun w' => ∃ s:Later w3.heap.size w3,w' = s.W)) rfl ?_
 simp only [opsAt,List.getElem?_toArray,List.getElem?_cons_succ,List.getElem?_cons_zero]
 repeat (go_big_quiet_step (fail))
 refine wpQuiet_nil ?_
 obtain ⟨w3_d,hwd⟩:∃ v,w3.drew = v:=⟨_,rfl⟩
 have HBW_1:Hid (Below w.heap.size w w3_d):=Lib.hid (by rw [← hwd];exact (HB3.out).drew)
 have HBR_1:Hid (Below w3.heap.size w3 w3_d):=Lib.hid (by rw [← hwd];exact (Below.refl _ _).drew)
 rw [hwd]
 clear hwd
 refine eff_as (C':=(fun w' => ∃ s:Later w3.heap.size w3,w' = s.W)) rfl ?_
 (refine eff_lit rfl rfl (fun K hK => ?_))
 go_big_op
 obtain ⟨w3_2,hvw3_2⟩:∃ v,(w3_d.alloc (.cells #[.slice LA nl Lc,.slice KA nk Kc,.slice HA nh Hc] 25)) = v:=⟨_,rfl⟩
 have hbw3_2:Below w3_d.heap.size w3_d w3_2:=by rw [← hvw3_2];exact (Below.refl _ _).alloc (Nat.le_refl _) _
 obtain ⟨gL,hggL⟩:∃ v,w3_d.heap.size = v:=⟨_,rfl⟩
 have hkw3_2:Blk w3_2 gL 25 #[.slice LA nl Lc,.slice KA nk Kc,.slice HA nh Hc]:=by rw [← hvw3_2];exact Blk.mk_ _ _ _ _ hggL
 have HNgL:Hid (w3.heap.size ≤ gL ∧ w.heap.size ≤ gL):=Lib.hid ⟨by rw [← hggL];exact HBR_1.out.size,by rw [← hggL];exact HBW_1.out.size⟩
 rw [hvw3_2,hggL]
 have LB_3:=Lib.hid (hkw3_2)
 have HBW_3:=Lib.hid (below_call HBW_1.out hbw3_2 HBW_1.out.size)
 clear HBW_1
 have HBR_3:=Lib.hid (below_call HBR_1.out hbw3_2 HBR_1.out.size)
 clear HBR_1
 clear hkw3_2 hvw3_2 hggL hbw3_2
 refine hK _ _ ⟨⟨_,HBR_3.out⟩,rfl⟩ ?_
 clear hK K
 try simp only [opsAt,List.getElem?_toArray,List.getElem?_cons_succ,List.getElem?_cons_zero]
 refine wpQuiet_nil ?_
 refine eff_as (C':=(fun w' => ∃ s:Later w3.heap.size w3,w' = s.W)) rfl ?_
 (refine eff_lit rfl rfl (fun K hK => ?_))
 go_big_op
 refine (concat3_any gL 25 LA KA HA nl nk nh Lc Kc Hc b.s0.lib b.s1.lib b.s1.hand w3_2 LB_3.out (by have h:=(HR.out.below HBW_3.out).s0.L.row;rw [HMM.out.1,HNN.out.1] at h;exact h) (by have h:=(HR.out.below HBW_3.out).s1.L.row;rw [HMM.out.2.1,HNN.out.2.1] at h;exact h) (by have h:=(HR.out.below HBW_3.out).s1.H.row;rw [HMM.out.2.2,HNN.out.2.2] at h;exact h) (by have h:=HR.out.s0.L.ok.2.1;rw [HMM.out.1] at h;exact h) (by have h:=HR.out.s1.L.ok.2.1;rw [HMM.out.2.1] at h;exact h) (by have h:=HR.out.s1.H.ok.2.1;rw [HMM.out.2.2] at h;exact h) (by have h1:=HSM.out.s0.L;have h2:=HNN.out.1;omega) (by have h1:=HSM.out.s1.L;have h2:=HNN.out.2.1;omega) (by have h1:=HSM.out.s1.H;have h2:=HNN.out.2.2;omega)).mono ?_
 rintro e w3_4 ⟨A5,c5,rfl,hx,hbw3_4⟩
 have FX_5:=Lib.hid (hx.more HBW_3.out.size)
 have HBW_5:=Lib.hid (below_call HBW_3.out hbw3_4 HBW_3.out.size)
 clear HBW_3
 have HBR_5:=Lib.hid (below_call HBR_3.out hbw3_4 HBR_3.out.size)
 clear HBR_3
 have LB_5:=Lib.hid (LB_3.out.call hbw3_4)
 clear LB_3
 clear hbw3_4
 clear hx
 refine hK _ _ ⟨⟨_,HBR_5.out⟩,rfl⟩ ?_
 clear hK K
 try simp only [opsAt,List.getElem?_toArray,List.getElem?_cons_succ,List.getElem?_cons_zero]
 repeat (go_big_quiet_step (fail))
 refine wpQuiet_nil ?_
 refine effs_done ?_
 go_wp2_with fail
 refine (sort_any w3_4 w.heap.size (nl + nk + nh) c5 A5 (b.s0.lib ++ b.s1.lib ++ b.s1.hand) FX_5.out HBW_5.out.size (by have h1:=HSM.out.s0.L;have h2:=HNN.out.1;have h3:=HSM.out.s1.L;have h4:=HNN.out.2.1;have h5:=HSM.out.s1.H;have h6:=HNN.out.2.2;omega)).mono ?_
 rintro e w9 ⟨rfl,hx9,hb9⟩
 have HX9:=Lib.hid hx9
 have HB9:=Lib.hid (HBW_5.out.trans hb9)
 clear hx9 hb9
 go_wp2_with fail
 go_ret2
 have hle:(hidS b 0).length = nl + nk + nh:=by unfold hidS;simp only [List.length_append];rw [HNN.out.1,HNN.out.2.1];show _ + b.s1.hand.length = _;rw [HNN.out.2.2]
 exact ⟨A5,c5,by rw [hle];rfl,by rw [hle];exact HX9.out,HB9.out⟩
set_option maxRecDepth 100000 in
set_option maxHeartbeats 1600000 in
theorem hidden1 (b:Bd) (m:BdM) (w:World) (hR:BdR w b m) (hz:b.plc.length < 9223372036854775807) (hv:b.Valid) :
  Calls Tryz.prog 23 #[.agg (b.cells m).toArray,.int .i64 1] w (HidEnd b 1 w):=by
 have HSM:=Lib.hid (bd_sm hv)
 have HV:=Lib.hid hv
 have HR:=Lib.hid hR
 obtain ⟨⟨LA,Lc⟩,hmL⟩:∃ x,m.m0.L = x:=⟨_,rfl⟩
 obtain ⟨⟨KA,Kc⟩,hmK⟩:∃ x,m.m1.L = x:=⟨_,rfl⟩
 obtain ⟨⟨HA,Hc⟩,hmH⟩:∃ x,m.m0.H = x:=⟨_,rfl⟩
 obtain ⟨nl,hnl⟩:∃ x,b.s0.lib.length = x:=⟨_,rfl⟩
 obtain ⟨nk,hnk⟩:∃ x,b.s1.lib.length = x:=⟨_,rfl⟩
 obtain ⟨nh,hnh⟩:∃ x,b.s0.hand.length = x:=⟨_,rfl⟩
 obtain ⟨cs,hcs⟩:∃ cs,(b.cells m).toArray = cs:=⟨_,rfl⟩
 have E6:Hid (cs[6]? = some (.slice LA nl Lc)):=Lib.hid (by rw [← hcs];show some (m.m0.L.v b.s0.lib.length) = _;rw [hmL,hnl];rfl)
 have E20:Hid (cs[20]? = some (.slice KA nk Kc)):=Lib.hid (by rw [← hcs];show some (m.m1.L.v b.s1.lib.length) = _;rw [hmK,hnk];rfl)
 have EH:Hid (cs[7]? = some (.slice HA nh Hc)):=Lib.hid (by rw [← hcs];show some (m.m0.H.v b.s0.hand.length) = _;rw [hmH,hnh];rfl)
 have HNN:=Lib.hid (And.intro hnl (And.intro hnk hnh))
 have HMM:=Lib.hid (And.intro hmL (And.intro hmK hmH))
 have HCS:=Lib.hid hcs
 rw [hcs]
 obtain ⟨w1,hw1⟩:∃ w1,w.alloc (.cells cs 33) = w1:=⟨_,rfl⟩
 have HB1:Hid (Below w.heap.size w w1):=Lib.hid (by rw [← hw1];exact (Below.refl _ _).alloc (Nat.le_refl _) _)
 have hbx:Blk w1 w.heap.size 33 cs:=by rw [← hw1];exact Blk.mk_ w _ _ _ rfl
 have HBX1:=Lib.hid hbx
 have HLB:Hid ((Instr.loadAt 33 (.pointer (some ⟨w.heap.size,0,none⟩))).run Tryz.prog w1 = .ok (.agg cs) w1):=Lib.hid (by
  rw [← hcs] at hbx ⊢
  exact hbx.mid (b.cells m) _ (fun j v hj => by rw [Nat.zero_add];simpa using hj) Tryz.underlying33 rfl size_board)
 have HVC:=Lib.hid (valid_any b m w1 (hR.below HB1.out) hz)
 rw [hcs] at HVC
 clear hR hz hv hmL hmK hmH hnl hnk hnh hcs hbx
 go_enter Tryz.func23,Tryz.ntmps23
 go_wp2_with (first
  | (go_at_call 56;refine (player1 w1).mono ?_;rintro e w_ ⟨rfl,rfl⟩)
  | (refine wpList_load_by HLB.out rfl rfl rfl ?_;simp only [Act.put,List.setIfInBounds_toArray,List.set_cons_succ,List.set_cons_zero])
  | fail)
 refine HVC.out.mono ?_
 rintro e w3 ⟨v,rfl,hvv,hb3⟩
 obtain rfl:v = true:=hvv.2 HV.out
 have HB3:=Lib.hid (below_call HB1.out hb3 HB1.out.size)
 have HBX3:=Lib.hid (HBX1.out.call hb3)
 clear hvv hb3 hw1 HLB HVC
 go_wp2_with fail
 have x6:∀ s:Later w3.heap.size w3,s.W.cell? ⟨w.heap.size,6,none⟩ = some (.slice LA nl Lc):=fun s => ((HBX3.out.call s.h).at_ 6).trans E6.out
 have x20:∀ s:Later w3.heap.size w3,s.W.cell? ⟨w.heap.size,20,none⟩ = some (.slice KA nk Kc):=fun s => ((HBX3.out.call s.h).at_ 20).trans E20.out
 have xh:∀ s:Later w3.heap.size w3,s.W.cell? ⟨w.heap.size,7,none⟩ = some (.slice HA nh Hc):=fun s => ((HBX3.out.call s.h).at_ 7).trans EH.out
 have hbxl:=HBX3.out.lt
 refine wp_region_sched (fun w' => ∃ s:Later w3.heap.size w3,w' = s.W) [0,1,2,3,4,5,6,7,8,9,10,11,12,13] (.one 14 [] (.one 15 [16] .done)) (by kernel_rfl) (by kernel_rfl) (fun d _ _ _ _ h => by cases d <;> exact h) ⟨⟨_,(Below.refl _ _).drew⟩,rfl⟩ ?_
 refine quiet_as (C':=(fun w' => ∃ s:Later w3.heap.size w3,w' = s.W)) rfl ?_
 simp only [opsAt,List.getElem?_toArray,List.getElem?_cons_succ,List.getElem?_cons_zero]
 repeat (go_big_quiet_step (fail))
 refine wpQuiet_nil ?_
 obtain ⟨w3_d,hwd⟩:∃ v,w3.drew = v:=⟨_,rfl⟩
 have HBW_1:Hid (Below w.heap.size w w3_d):=Lib.hid (by rw [← hwd];exact (HB3.out).drew)
 have HBR_1:Hid (Below w3.heap.size w3 w3_d):=Lib.hid (by rw [← hwd];exact (Below.refl _ _).drew)
 rw [hwd]
 clear hwd
 refine eff_as (C':=(fun w' => ∃ s:Later w3.heap.size w3,w' = s.W)) rfl ?_
 (refine eff_lit rfl rfl (fun K hK => ?_))
 go_big_op
 obtain ⟨w3_2,hvw3_2⟩:∃ v,(w3_d.alloc (.cells #[.slice LA nl Lc,.slice KA nk Kc,.slice HA nh Hc] 25)) = v:=⟨_,rfl⟩
 have hbw3_2:Below w3_d.heap.size w3_d w3_2:=by rw [← hvw3_2];exact (Below.refl _ _).alloc (Nat.le_refl _) _
 obtain ⟨gL,hggL⟩:∃ v,w3_d.heap.size = v:=⟨_,rfl⟩
 have hkw3_2:Blk w3_2 gL 25 #[.slice LA nl Lc,.slice KA nk Kc,.slice HA nh Hc]:=by rw [← hvw3_2];exact Blk.mk_ _ _ _ _ hggL
 have HNgL:Hid (w3.heap.size ≤ gL ∧ w.heap.size ≤ gL):=Lib.hid ⟨by rw [← hggL];exact HBR_1.out.size,by rw [← hggL];exact HBW_1.out.size⟩
 rw [hvw3_2,hggL]
 have LB_3:=Lib.hid (hkw3_2)
 have HBW_3:=Lib.hid (below_call HBW_1.out hbw3_2 HBW_1.out.size)
 clear HBW_1
 have HBR_3:=Lib.hid (below_call HBR_1.out hbw3_2 HBR_1.out.size)
 clear HBR_1
 clear hkw3_2 hvw3_2 hggL hbw3_2
 refine hK _ _ ⟨⟨_,HBR_3.out⟩,rfl⟩ ?_
 clear hK K
 try simp only [opsAt,List.getElem?_toArray,List.getElem?_cons_succ,List.getElem?_cons_zero]
 refine wpQuiet_nil ?_
 refine eff_as (C':=(fun w' => ∃ s:Later w3.heap.size w3,w' = s.W)) rfl ?_
 (refine eff_lit rfl rfl (fun K hK => ?_))
 go_big_op
 refine (concat3_any gL 25 LA KA HA nl nk nh Lc Kc Hc b.s0.lib b.s1.lib b.s0.hand w3_2 LB_3.out (by have h:=(HR.out.below HBW_3.out).s0.L.row;rw [HMM.out.1,HNN.out.1] at h;exact h) (by have h:=(HR.out.below HBW_3.out).s1.L.row;rw [HMM.out.2.1,HNN.out.2.1] at h;exact h) (by have h:=(HR.out.below HBW_3.out).s0.H.row;rw [HMM.out.2.2,HNN.out.2.2] at h;exact h) (by have h:=HR.out.s0.L.ok.2.1;rw [HMM.out.1] at h;exact h) (by have h:=HR.out.s1.L.ok.2.1;rw [HMM.out.2.1] at h;exact h) (by have h:=HR.out.s0.H.ok.2.1;rw [HMM.out.2.2] at h;exact h) (by have h1:=HSM.out.s0.L;have h2:=HNN.out.1;omega) (by have h1:=HSM.out.s1.L;have h2:=HNN.out.2.1;omega) (by have h1:=HSM.out.s0.H;have h2:=HNN.out.2.2;omega)).mono ?_
 rintro e w3_4 ⟨A5,c5,rfl,hx,hbw3_4⟩
 have FX_5:=Lib.hid (hx.more HBW_3.out.size)
 have HBW_5:=Lib.hid (below_call HBW_3.out hbw3_4 HBW_3.out.size)
 clear HBW_3
 have HBR_5:=Lib.hid (below_call HBR_3.out hbw3_4 HBR_3.out.size)
 clear HBR_3
 have LB_5:=Lib.hid (LB_3.out.call hbw3_4)
 clear LB_3
 clear hbw3_4
 clear hx
 refine hK _ _ ⟨⟨_,HBR_5.out⟩,rfl⟩ ?_
 clear hK K
 try simp only [opsAt,List.getElem?_toArray,List.getElem?_cons_succ,List.getElem?_cons_zero]
 repeat (go_big_quiet_step (fail))
 refine wpQuiet_nil ?_
 refine effs_done ?_
 go_wp2_with fail
 refine (sort_any w3_4 w.heap.size (nl + nk + nh) c5 A5 (b.s0.lib ++ b.s1.lib ++ b.s0.hand) FX_5.out HBW_5.out.size (by have h1:=HSM.out.s0.L;have h2:=HNN.out.1;have h3:=HSM.out.s1.L;have h4:=HNN.out.2.1;have h5:=HSM.out.s0.H;have h6:=HNN.out.2.2;omega)).mono ?_
 rintro e w9 ⟨rfl,hx9,hb9⟩
 have HX9:=Lib.hid hx9
 have HB9:=Lib.hid (HBW_5.out.trans hb9)
 clear hx9 hb9
 go_wp2_with fail
 go_ret2
 have hle:(hidS b 1).length = nl + nk + nh:=by unfold hidS;simp only [List.length_append];rw [HNN.out.1,HNN.out.2.1];show _ + b.s0.hand.length = _;rw [HNN.out.2.2]
 exact ⟨A5,c5,by rw [hle];rfl,by rw [hle];exact HX9.out,HB9.out⟩
theorem hidden_any (b:Bd) (m:BdM) (w:World) (k:Nat) (hk:k < 2) (hR:BdR w b m) (hz:b.plc.length < 9223372036854775807) (hv:b.Valid):Calls Tryz.prog 23 #[.agg (b.cells m).toArray,.int .i64 k] w (HidEnd b k w):=by
 rcases (show k = 0 ∨ k = 1 by omega) with rfl | rfl
 ·exact hidden0 b m w hR hz hv
 ·exact hidden1 b m w hR hz hv
end Go.Proofs.YtagpphelgghbpaaGreat

set_option linter.unusedSimpArgs false
set_option linter.unusedVariables false
namespace Go.Proofs.YtagpphelgghbpaaGreat
open Go.RowKit

def hidB (b:Bd) (k:Nat):Int → Bool:=fun i => decide (i ∈ hidS b k)
theorem hid_stk {b:Bd} {k:Nat} (hn:(b.plc.map Prod.fst).Nodup) {x:It} (hx:x ∈ onStk b):hidB b k x.id = false:=by
 have e:b.plc.map Prod.fst = b.s0.ids ++ b.s1.ids ++ (onStk b).map It.id:=by
  unfold Bd.plc
  rw [List.map_append,List.map_append,List.map_map,List.map_map,List.map_map]
  have e0:(Prod.fst ∘ fun i:Int => (i,(0:Int))) = id:=rfl
  have e1:(Prod.fst ∘ fun i:Int => (i,(1:Int))) = id:=rfl
  rw [e0,e1,List.map_id,List.map_id]
  rfl
 rw [e] at hn
 have hd:=(List.nodup_append.1 hn).2.2
 unfold hidB
 rw [decide_eq_false_iff_not]
 intro h
 refine hd x.id ?_ x.id (List.mem_map.2 ⟨x,hx,rfl⟩) rfl
 unfold hidS at h
 unfold seN at h
 unfold Se.ids
 simp only [List.mem_append] at h ⊢
 split at h <;> rcases h with (h | h) | h <;> simp [h]
theorem hid_seen {b:Bd} {k:Nat} (hk:k < 2) (hn:(b.plc.map Prod.fst).Nodup):(∀ i ∈ b.s0.fld,hidB b k i = false) ∧ (∀ i ∈ b.s0.grv,hidB b k i = false) ∧ (∀ i ∈ b.s1.fld,hidB b k i = false) ∧ (∀ i ∈ b.s1.grv,hidB b k i = false) ∧ (∀ i ∈ (seN b k).hand,hidB b k i = false):=by
 have e:b.plc.map Prod.fst = b.s0.ids ++ b.s1.ids ++ (onStk b).map It.id:=by
  unfold Bd.plc
  rw [List.map_append,List.map_append,List.map_map,List.map_map,List.map_map]
  have e0:(Prod.fst ∘ fun i:Int => (i,(0:Int))) = id:=rfl
  have e1:(Prod.fst ∘ fun i:Int => (i,(1:Int))) = id:=rfl
  rw [e0,e1,List.map_id,List.map_id]
  rfl
 rw [e] at hn
 have hd:=(List.nodup_append.1 hn).1
 have hcnt:∀ i,(b.s0.ids ++ b.s1.ids).count i ≤ 1:=fun i => List.nodup_iff_count.1 hd i
 simp only [Se.ids,List.count_append] at hcnt
 have key:∀ i,hidB b k i = true → (seN b k).hand.count i + b.s0.fld.count i + b.s0.grv.count i + b.s1.fld.count i + b.s1.grv.count i = 0:=by
  intro i hi
  unfold hidB at hi
  have hi:=of_decide_eq_true hi
  unfold hidS at hi
  simp only [List.mem_append] at hi
  have hc:=hcnt i
  have hp:0 < b.s0.lib.count i + b.s1.lib.count i + (seN b (1 - k)).hand.count i:=by
   rcases hi with (h | h) | h
   ·have:=List.count_pos_iff.2 h;omega
   ·have:=List.count_pos_iff.2 h;omega
   ·have:=List.count_pos_iff.2 h;omega
  unfold seN at hp ⊢
  rcases (show k = 0 ∨ k = 1 by omega) with rfl | rfl
  ·simp at hp ⊢
   omega
  ·simp at hp ⊢
   omega
 have go:∀ (i:Int) (l:List Int),i ∈ l → l.count i ≤ (seN b k).hand.count i + b.s0.fld.count i + b.s0.grv.count i + b.s1.fld.count i + b.s1.grv.count i → hidB b k i = false:=fun i l hi hle => by
  cases h:hidB b k i with
  | false => rfl
  | true =>
   have:=key i h
   have:=List.count_pos_iff.2 hi
   omega
 exact ⟨fun i hi => go i _ hi (by omega),fun i hi => go i _ hi (by omega),fun i hi => go i _ hi (by omega),fun i hi => go i _ hi (by omega),fun i hi => go i _ hi (by omega)⟩
theorem putC_ok {b:Bd} {k:Nat} (hv:b.Valid) (own:Int) {H:Int → Bool} (hH:H = hidB b k) {cs:List Int} (hcs:cs.Perm (cds own H b.objs)):Bd.Valid { b with objs:=putC own H b.objs cs }:=by
 subst hH
 obtain ⟨h1,h2,h3,h4,h5,⟨p1,p2,p3,p4⟩,h7⟩:=hv
 refine ⟨?_,h2,h3,h4,h5,⟨p1,?_,?_,?_⟩,h7⟩
 ·unfold numOk at h1 ⊢
  simp only [putC_len]
  exact h1
 ·intro o' ho'
  obtain ⟨i,hi⟩:=List.getElem?_of_mem ho'
  have hlt:i < b.objs.length:=by
   have:=(List.getElem?_eq_some_iff.1 hi).1
   rwa [putC_len] at this
  have ho:=List.getElem?_eq_getElem hlt
  rcases putC_at own (hidB b k) b.objs cs hcs.length_eq i _ ho with ⟨_,he⟩ | ⟨hm,c,hc,he⟩
  ·rw [he] at hi
   injection hi with hi
   subst hi
   exact p2 _ (List.getElem_mem hlt)
  ·rw [he] at hi
   injection hi with hi
   subst hi
   obtain ⟨q1,q2,q3⟩:=p2 _ (List.getElem_mem hlt)
   obtain ⟨y,hy,rfl⟩:=List.mem_map.1 (hcs.mem_iff.1 hc)
   have hy':=List.mem_filter.1 hy
   have hyc:0 ≤ y.card:=by have:=hy'.2;unfold mine at this;simp at this;exact this.2.1
   have hyo:=(p2 _ hy'.1).1
   have hoc:0 ≤ (b.objs[i]).card ∧ hidB b k (b.objs[i]).id = true:=by have:=hm;unfold mine at this;simp at this;exact this.2
   refine ⟨?_,q2,fun x hx hxe => ?_⟩
   ·unfold obOk inR at q1 hyo ⊢
    simp at q1 hyo ⊢
    omega
   ·have:=hid_stk (k:=k) p1 hx
    rw [hxe] at this
    simp at this
    rw [this] at hoc
    exact absurd hoc.2 (by decide)
 ·simpa using (putC_inc own (hidB b k) b.objs cs).trans p3
 ·simp only [putC_len]
  exact p4
theorem mix_laws {b:Bd} {k:Nat} (hk:k < 2) (hv:b.Valid) {us:List Int} {l:List Ob} (hm:mixO (hidB b k) us b.objs = some l) :
  Bd.Valid { b with objs:=l } ∧ (∀ i,hidB b k i = false → obI l i = obI b.objs i) ∧ l.length = b.objs.length ∧ (∀ (i:Nat) (o:Ob),b.objs[i]? = some o → ∃ c,l[i]? = some { o with card:=c }) ∧ ∀ q a,((l.filter fun o => decide (o.own = q)).map Ob.card).count a = ((b.objs.filter fun o => decide (o.own = q)).map Ob.card).count a:=by
 unfold mixO at hm
 split at hm
 ·cases hm
 split at hm
 ·cases hm
 injection hm with hm
 generalize hC0:shuf us 0 (cds 0 (hidB b k) b.objs) = c0 at hm
 have hp0:c0.Perm (cds 0 (hidB b k) b.objs):=by rw [← hC0];exact shuf_perm _ _ _
 generalize hL1:putC 0 (hidB b k) b.objs c0 = l1 at hm
 generalize hC1:shuf us ((cds 0 (hidB b k) b.objs).length - 1) (cds 1 (hidB b k) l1) = c1 at hm
 have hp1:c1.Perm (cds 1 (hidB b k) l1):=by rw [← hC1];exact shuf_perm _ _ _
 have hv1:Bd.Valid { b with objs:=l1 }:=by rw [← hL1];exact putC_ok hv 0 rfl hp0
 have hv2:=putC_ok (k:=k) hv1 1 (H:=hidB b k) rfl hp1
 subst hm
 refine ⟨hv2,fun i hi => ?_,?_,fun i o ho => ?_,fun q a => ?_⟩
 ·rw [obI_putC _ _ hi,← hL1,obI_putC _ _ hi]
 ·rw [putC_len,← hL1,putC_len]
 ·obtain ⟨c,hc⟩:=putC_own_at 0 (hidB b k) b.objs c0 i o ho
  rw [hL1] at hc
  obtain ⟨d,hd⟩:=putC_own_at 1 (hidB b k) l1 c1 i _ hc
  exact ⟨d,hd⟩
 ·have e0:=putC_own 0 (hidB b k) q b.objs c0 hp0.length_eq a
  have e1:=putC_own 1 (hidB b k) q l1 c1 hp1.length_eq a
  rw [hL1] at e0
  rw [hp0.count_eq] at e0
  rw [hp1.count_eq] at e1
  omega
theorem mix_pu {b:Bd} {k:Nat} (hk:k < 2) (hv:b.Valid) {us:List Int} {l:List Ob} (hm:mixO (hidB b k) us b.objs = some l) :
  puOf { b with objs:=l } = puOf b ∧ (seN { b with objs:=l } k).hand.map (obI l) = (seN b k).hand.map (obI b.objs):=by
 have hn:=hid_seen hk hv.2.2.2.2.2.1.1
 have hob:=(mix_laws hk hv hm).2.1
 have hmap:∀ s:List Int,(∀ i ∈ s,hidB b k i = false) → s.map (obI l) = s.map (obI b.objs):=fun s hs => List.map_congr_left fun i hi => hob i (hs i hi)
 have hs:seN { b with objs:=l } k = seN b k:=by unfold seN;split <;> rfl
 refine ⟨?_,by rw [hs];exact hmap _ hn.2.2.2.2⟩
 unfold puOf vsOf
 simp only [hmap _ hn.1,hmap _ hn.2.1,hmap _ hn.2.2.1,hmap _ hn.2.2.2.1]
end Go.Proofs.YtagpphelgghbpaaGreat
