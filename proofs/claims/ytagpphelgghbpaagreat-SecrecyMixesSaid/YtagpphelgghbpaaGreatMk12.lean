/-
  Texts: Obj, Idx, Ix2, Sob, Pu.
-/
import Derived.Test.YtagpphelgghbpaaGreatMk11
set_option linter.unusedSimpArgs false
set_option linter.unusedVariables false
namespace Go.Proofs.YtagpphelgghbpaaGreat
open Go.RowKit

set_option maxHeartbeats 800000 in
theorem onew_any (i c p:Int) (w:World):Calls Tryz.prog 50 #[.int .i64 i,.int .i64 c,.int .i64 p] w fun e w' => e = .returned (.agg (Ob.cells ⟨i,c,p,0,0,0,0,0,0,false,false,false⟩).toArray) ∧ Below w.heap.size w w':=by
 have hal:∀ cs,Below w.heap.size w (w.alloc (.cells cs 46)):=fun cs => (Below.refl _ _).alloc (Nat.le_refl _) _
 have HAL:=Lib.hid hal
 clear hal
 go_enter Tryz.func50,Tryz.ntmps50
 go_wp2
 refine bodyPost_ret (ret_cell rfl rfl (Blk.mk_ _ 46 _ _ (by first | rfl | simp)) Tryz.underlying46 rfl size_object) rfl ?_
 exact ⟨rfl,HAL.out _⟩
set_option maxHeartbeats 800000 in
theorem orest_any (o:Ob) (w:World):Calls Tryz.prog 92 #[.agg o.cells.toArray] w fun e w' => e = .returned (.agg (Ob.cells { o with dam:=0,pp:=0,pt:=0 }).toArray) ∧ Below w.heap.size w w':=by
 obtain ⟨id,card,own,o3,o4,o5,o6,o7,o8,o9,o10,o11⟩:=o
 simp only [Ob.cells]
 go_enter Tryz.func92,Tryz.ntmps92
 go_wp2
 refine bodyPost_ret (ret_cell rfl rfl (Blk.mk_ _ 46 _ _ (by first | rfl | simp)) Tryz.underlying46 rfl size_object) rfl ?_
 exact ⟨rfl,((Below.refl _ _).alloc (Nat.le_refl _) _).alloc (by simp) _⟩
set_option maxRecDepth 100000 in
set_option maxHeartbeats 800000 in
theorem oreset_any (o:Ob) (z:Int) (w:World):Calls Tryz.prog 54 #[.agg o.cells.toArray,.int .i64 z] w fun e w' => e = .returned (.agg (Ob.cells { o with dam:=0,pp:=0,pt:=0,cnt:=0,tap:=false,doom:=false,sick:=decide (z = 2) }).toArray) ∧ Below w.heap.size w w':=by
 obtain ⟨id,card,own,o3,o4,o5,o6,o7,o8,o9,o10,o11⟩:=o
 have HC:=Lib.hid (fun W => orest_any ⟨id,card,own,o3,o4,o5,o6,o7,o8,o9,o10,o11⟩ W)
 simp only [Ob.cells] at HC ⊢
 obtain ⟨w2,hw2⟩:∃ w2,(w.alloc (.cells #[.int .i64 id,.int .i64 card,.int .i64 own,.int .i64 o3,.int .i64 o4,.int .i64 o5,.int .i64 o6,.int .i64 o7,.int .i64 o8,.bool o9,.bool o10,.bool o11] 46)).alloc (.cells #[.int .i64 0,.int .i64 0,.int .i64 0,.int .i64 0,.int .i64 0,.int .i64 0,.int .i64 0,.int .i64 0,.int .i64 0,.bool false,.bool false,.bool false] 46) = w2:=⟨_,rfl⟩
 have HB2:Hid (Below w.heap.size w w2):=Lib.hid (by rw [← hw2];exact ((Below.refl _ _).alloc (Nat.le_refl _) _).alloc (by simp) _)
 have HK2:Hid (Blk w2 (w.heap.size + 1) 46 #[.int .i64 0,.int .i64 0,.int .i64 0,.int .i64 0,.int .i64 0,.int .i64 0,.int .i64 0,.int .i64 0,.int .i64 0,.bool false,.bool false,.bool false]):=Lib.hid (by rw [← hw2];exact Blk.mk_ _ _ _ _ (by simp))
 have HL2:Hid ((Instr.loadAt 46 (.pointer (some ⟨w.heap.size,0,none⟩))).run Tryz.prog w2 = .ok (.agg #[.int .i64 id,.int .i64 card,.int .i64 own,.int .i64 o3,.int .i64 o4,.int .i64 o5,.int .i64 o6,.int .i64 o7,.int .i64 o8,.bool o9,.bool o10,.bool o11]) w2):=Lib.hid (by
  have hk0:Blk w2 w.heap.size 46 #[.int .i64 id,.int .i64 card,.int .i64 own,.int .i64 o3,.int .i64 o4,.int .i64 o5,.int .i64 o6,.int .i64 o7,.int .i64 o8,.bool o9,.bool o10,.bool o11]:=by rw [← hw2];exact (Blk.mk_ _ _ _ _ rfl).alloc _
  exact hk0.mid [.int .i64 id,.int .i64 card,.int .i64 own,.int .i64 o3,.int .i64 o4,.int .i64 o5,.int .i64 o6,.int .i64 o7,.int .i64 o8,.bool o9,.bool o10,.bool o11] _ (fun j v hj => by rw [Nat.zero_add];simpa using hj) Tryz.underlying46 rfl size_object)
 have HC2:=Lib.hid (HC.out w2)
 clear HC
 obtain ⟨sk,hsk⟩:∃ s,decide (z = 2) = s:=⟨_,rfl⟩
 have hsk2:(z == 2) = sk:=by rw [← hsk];exact Bool.beq_eq_decide_eq z 2
 rw [hsk]
 go_enter Tryz.func54,Tryz.ntmps54
 go_wp2_with (first | (refine wpList_load_by HL2.out rfl rfl rfl ?_;simp only [Act.put,List.setIfInBounds_toArray,List.set_cons_succ,List.set_cons_zero]) | fail)
 refine HC2.out.mono ?_
 rintro e w3 ⟨rfl,hb3⟩
 have HB3:=Lib.hid (below_call HB2.out hb3 HB2.out.size)
 have HK3:=Lib.hid (HK2.out.call hb3)
 clear hb3 hw2
 obtain ⟨w4,hw4⟩:∃ w4,w3.alloc (.cells #[.int .i64 id,.int .i64 card,.int .i64 own,.int .i64 o3,.int .i64 o4,.int .i64 0,.int .i64 0,.int .i64 0,.int .i64 0,.bool false,.bool sk,.bool false] 46) = w4:=⟨_,rfl⟩
 have hb4:Below w3.heap.size w3 w4:=by rw [← hw4];exact (Below.refl _ _).alloc (Nat.le_refl _) _
 have HB4:=Lib.hid (below_call HB3.out hb4 HB3.out.size)
 obtain ⟨w5,hrun,hk5,hg5⟩:=(HK3.out.call hb4).storeAll (ty:=46) [.int .i64 id,.int .i64 card,.int .i64 own,.int .i64 o3,.int .i64 o4,.int .i64 0,.int .i64 0,.int .i64 0,.int .i64 0,.bool false,.bool sk,.bool false] rfl size_object (by simp [Value.oneCell'])
 have HL4:Hid ((Instr.loadAt 46 (.pointer (some ⟨w3.heap.size,0,none⟩))).run Tryz.prog w4 = .ok (.agg #[.int .i64 id,.int .i64 card,.int .i64 own,.int .i64 o3,.int .i64 o4,.int .i64 0,.int .i64 0,.int .i64 0,.int .i64 0,.bool false,.bool sk,.bool false]) w4):=Lib.hid (by
  have hk0:Blk w4 w3.heap.size 46 #[.int .i64 id,.int .i64 card,.int .i64 own,.int .i64 o3,.int .i64 o4,.int .i64 0,.int .i64 0,.int .i64 0,.int .i64 0,.bool false,.bool sk,.bool false]:=by rw [← hw4];exact Blk.mk_ _ _ _ _ rfl
  exact hk0.mid [.int .i64 id,.int .i64 card,.int .i64 own,.int .i64 o3,.int .i64 o4,.int .i64 0,.int .i64 0,.int .i64 0,.int .i64 0,.bool false,.bool sk,.bool false] _ (fun j v hj => by rw [Nat.zero_add];simpa using hj) Tryz.underlying46 rfl size_object)
 have HRUN:=Lib.hid hrun
 have HK5:=Lib.hid hk5
 have HB5:=Lib.hid (HB4.out.grown hg5 HB4.out.size (fun q hq => by injection hq with hq;omega))
 clear hrun hk5 hg5 hb4
 go_wp2_with (first | (refine wpList_load_by HL4.out rfl rfl rfl ?_;simp only [Act.put,List.setIfInBounds_toArray,List.set_cons_succ,List.set_cons_zero]) | (refine wpList_store_by HRUN.out rfl rfl rfl rfl ?_;simp only [Act.put,List.setIfInBounds_toArray,List.set_cons_succ,List.set_cons_zero]) | fail)
 refine bodyPost_ret (ret_cell rfl rfl HK5.out Tryz.underlying46 rfl size_object) rfl ?_
 exact ⟨rfl,HB5.out⟩

set_option maxRecDepth 100000 in
set_option maxHeartbeats 800000 in
theorem icmp_any (o:Ob) (i d:Int) (w:World) (hd:IntKind.i64.wrap (o.id - i) = d):Calls Tryz.prog 85 #[.agg o.cells.toArray,.int .i64 i] w fun e w' => e = .returned (.int .i64 d) ∧ Below w.heap.size w w':=by
 have hal:∀ cs,Below w.heap.size w (w.alloc (.cells cs 46)):=fun cs => (Below.refl _ _).alloc (Nat.le_refl _) _
 have HAL:=Lib.hid hal
 clear hal
 obtain ⟨id,card,own,o3,o4,o5,o6,o7,o8,o9,o10,o11⟩:=o
 simp only [Ob.cells] at hd ⊢
 go_enter Tryz.func85,Tryz.ntmps85
 go_wp2
 go_ret
 exact ⟨rfl,HAL.out _⟩
def BsEnd (l:List Ob) (n:Nat) (id:Int) (w:World) (e:Ending) (w':World):Prop:=∃ (i:Nat) (v:Bool),e = .returned (.tuple #[.int .i64 i,.bool v]) ∧ i ≤ n ∧ (∀ k o,k < i → l[k]? = some o → o.id < id) ∧ (∀ k o,i ≤ k → l[k]? = some o → id ≤ o.id) ∧ (v = true ↔ ∃ o,l[i]? = some o ∧ o.id = id) ∧ Below w.heap.size w w'
set_option maxRecDepth 100000 in
set_option maxHeartbeats 1600000 in
theorem bs_any (s:Sl) (n:Nat) (l:List Ob) (id:Int) (w:World) (hx:Reads w 12 s.A n (ocs l)) (hn:l.length = n) (hn5:n ≤ 500) (hid:∀ o ∈ l,1 ≤ o.id ∧ o.id ≤ 500) (hi:0 ≤ id ∧ id ≤ 1000) (hs:∀ (i j:Nat) (a b:Ob),i < j → l[i]? = some a → l[j]? = some b → a.id < b.id) :
  Calls Tryz.prog 84 #[.slice s.A n s.c,.int .i64 id,.func (.func 85) #[] #[]] w (BsEnd l n id w):=by
 obtain ⟨A,c⟩:=s
 simp only at hx ⊢
 have HX:=Lib.hid hx
 have HN:=Lib.hid hn
 have HID:=Lib.hid hid
 have HI:=Lib.hid hi
 have HS:=Lib.hid hs
 clear hx hn hid hi hs
 go_enter Tryz.func84,Tryz.ntmps84
 go_wp2_with fail
 go_loopw [9,10] (fun a b W => ∃ i j:Nat,i ≤ j ∧ j ≤ n ∧ a = .int .i64 i ∧ b = .int .i64 j ∧ Hid (∀ k o,k < i → l[k]? = some o → o.id < id) ∧ Hid (∀ k o,j ≤ k → l[k]? = some o → id ≤ o.id) ∧ Hid (Below w.heap.size w W)) (fun a b _ => (intOf b).toNat - (intOf a).toNat)
 case atStart => exact ⟨0,n,Nat.zero_le _,Nat.le_refl _,rfl,rfl,Lib.hid (fun k o h => absurd h (by omega)),Lib.hid (fun k o h hk => absurd (List.getElem?_eq_some_iff.1 hk).1 (by rw [HN.out];omega)),Lib.hid (Below.refl _ _)⟩
 case round =>
  obtain ⟨i,j,hij,hj,rfl,rfl,HA,HB,HBL⟩:=hrel
  by_cases hlt:i < j
  ·have hlt':(i:Int) < j:=by omega
   have hw1:IntKind.i64.wrap ((i:Int) + j) = ((i + j:Nat):Int):=by rw [IntWalk.i64_in _ (by omega)];omega
   obtain ⟨q,hq⟩:∃ q,i + j = q:=⟨_,rfl⟩
   rw [hq] at hw1
   have hw2:IntKind.u64.wrap (q:Int) = q:=IntWalk.u64_in _ (by omega)
   obtain ⟨m,hm⟩:∃ m:Nat,(q:Int) / 2 = m:=⟨q / 2,by omega⟩
   have him:i ≤ m:=by omega
   have hmj:m < j:=by omega
   have hmn:m < n:=by omega
   have HIM:=Lib.hid him
   have HMJ:=Lib.hid hmj
   clear hq
   obtain ⟨o,ho⟩:=get_of (l:=l) (k:=m) (by rw [HN.out];exact hmn)
   obtain ⟨ad,rfl,hadl,c0,c1,c2,c3,c4,c5,c6,c7,c8,c9,c10,c11⟩:=obj_at (HX.out.below HBL.out) ho hmn
   have HO:=Lib.hid ho
   have hdd:IntKind.i64.wrap (o.id - id) = o.id - id:=IntWalk.i64_in _ (by have:=HID.out o (List.mem_of_getElem? ho);have:=HI.out;omega)
   obtain ⟨d,hd⟩:∃ d,o.id - id = d:=⟨_,rfl⟩
   rw [hd] at hdd
   have HCM:=Lib.hid (icmp_any o id d wr (by rw [hd];exact hdd))
   have HD:=Lib.hid hd
   simp only [Ob.cells] at HCM
   clear ho hdd hd him hmj
   go_wp2_with fail
   refine HCM.out.mono ?_
   rintro e w2 ⟨rfl,hb2⟩
   have HBL2:=Lib.hid (below_call HBL.out hb2 HBL.out.size)
   clear hb2 c0 c1 c2 c3 c4 c5 c6 c7 c8 c9 c10 c11 hadl
   by_cases hneg:d < 0
   ·have hneg':decide (d < 0) = true:=decide_eq_true hneg
    have HA2:Hid (∀ k o,k < m + 1 → l[k]? = some o → o.id < id):=Lib.hid (fun k p h hk => by
     have h1:=HD.out
     rcases Nat.lt_or_ge k m with h2 | h2
     ·have:=HS.out k m p o h2 hk HO.out
      omega
     ·obtain rfl:k = m:=by omega
      rw [HO.out] at hk
      rw [← Option.some.inj hk]
      omega)
    clear hneg
    go_wp2_with fail
    go_roundw
    case rel => exact ⟨m + 1,j,by have:=HMJ.out;omega,hj,by go_num,rfl,HA2,HB,HBL2⟩
    case measure => have:=HIM.out;have:=HMJ.out;simp [intOf];omega
   ·have hneg':decide (d < 0) = false:=decide_eq_false hneg
    have HB2:Hid (∀ k o,m ≤ k → l[k]? = some o → id ≤ o.id):=Lib.hid (fun k p h hk => by
     have h1:=HD.out
     rcases Nat.lt_or_ge m k with h2 | h2
     ·have:=HS.out m k o p h2 HO.out hk
      omega
     ·obtain rfl:k = m:=by omega
      rw [HO.out] at hk
      rw [← Option.some.inj hk]
      omega)
    clear hneg
    go_wp2_with fail
    go_roundw
    case rel => exact ⟨i,m,HIM.out,by omega,rfl,rfl,HA,HB2,HBL2⟩
    case measure => have:=HIM.out;have:=HMJ.out;simp [intOf];omega
  ·have hij2:¬ (i:Int) < j:=by omega
   have HKE:Hid (j = i):=Lib.hid (by omega)
   have HB3:Hid (∀ k o,i ≤ k → l[k]? = some o → id ≤ o.id):=Lib.hid (fun k o h hk => HB.out k o (by rw [HKE.out];exact h) hk)
   have hin2:i ≤ n:=by omega
   by_cases hin:i < n
   ·have hin':(i:Int) < n:=by omega
    obtain ⟨o,ho⟩:=get_of (l:=l) (k:=i) (by rw [HN.out];exact hin)
    obtain ⟨ad,rfl,hadl,c0,c1,c2,c3,c4,c5,c6,c7,c8,c9,c10,c11⟩:=obj_at (HX.out.below HBL.out) ho hin
    have HO:=Lib.hid ho
    have hdd:IntKind.i64.wrap (o.id - id) = o.id - id:=IntWalk.i64_in _ (by have:=HID.out o (List.mem_of_getElem? ho);have:=HI.out;omega)
    obtain ⟨d,hd⟩:∃ d,o.id - id = d:=⟨_,rfl⟩
    rw [hd] at hdd
    have HCM:=Lib.hid (icmp_any o id d wr (by rw [hd];exact hdd))
    have HD:=Lib.hid hd
    simp only [Ob.cells] at HCM
    clear ho hdd hd
    go_wp2_with fail
    refine HCM.out.mono ?_
    rintro e w2 ⟨rfl,hb2⟩
    have HBL2:=Lib.hid (below_call HBL.out hb2 HBL.out.size)
    clear hb2 c0 c1 c2 c3 c4 c5 c6 c7 c8 c9 c10 c11 hadl
    obtain ⟨v,hv⟩:∃ v,(d == 0) = v:=⟨_,rfl⟩
    have HV:=Lib.hid hv
    go_wp2_with fail
    (first | go_ret | go_ret2)
    refine ⟨i,v,rfl,hin2,HA.out,HB3.out,?_,HBL2.out⟩
    have h1:=HV.out
    have h2:=HD.out
    rw [← h1,beq_iff_eq]
    constructor
    ·intro h3
     exact ⟨o,HO.out,by omega⟩
    ·rintro ⟨p,hp,h3⟩
     rw [HO.out] at hp
     rw [← Option.some.inj hp] at h3
     omega
   ·have hin':decide ((i:Int) < n) = false:=decide_eq_false (by omega)
    have HNO:Hid (l[i]? = none):=Lib.hid (by rw [List.getElem?_eq_none_iff,HN.out];omega)
    go_wp2_with fail
    (first | go_ret | go_ret2)
    exact ⟨i,false,rfl,hin2,HA.out,HB3.out,⟨fun h => (by cases h),fun ⟨p,hp,_⟩ => by rw [HNO.out] at hp;cases hp⟩,HBL.out⟩

theorem obs_ok {b:Bd} (h:plcP b):(∀ o ∈ b.objs,1 ≤ o.id ∧ o.id ≤ 500) ∧ ∀ (i j:Nat) (x y:Ob),i < j → b.objs[i]? = some x → b.objs[j]? = some y → x.id < y.id:=by
 refine ⟨fun o ho => ?_,fun i j x y hij hx hy => ?_⟩
 ·have h1:=(h.2.1 o ho).1
  unfold obOk inR at h1
  simp at h1
  omega
 ·have hp:=List.pairwise_iff_getElem.1 (inc_pw _ h.2.2.1)
  obtain ⟨h1,e1⟩:=List.getElem?_eq_some_iff.1 hx
  obtain ⟨h2,e2⟩:=List.getElem?_eq_some_iff.1 hy
  have:=hp i j (by simpa using h1) (by simpa using h2) hij
  rw [List.getElem_map,List.getElem_map,e1,e2] at this
  exact this
def IxEnd (b:Bd) (id:Int) (w:World) (e:Ending) (w':World):Prop:=((∃ (i:Nat) (o:Ob),b.objs[i]? = some o ∧ o.id = id ∧ e = .returned (.tuple #[.int .i64 i,.int .i64 0])) ∨ ((∀ o ∈ b.objs,o.id ≠ id) ∧ e = .returned (.tuple #[.int .i64 0,.int .i64 9]))) ∧ Below w.heap.size w w'
set_option maxRecDepth 100000 in
set_option maxHeartbeats 1600000 in
theorem index_any (b:Bd) (m:BdM) (id:Int) (w:World) (h:BdR w b m) (hz:b.plc.length < 9223372036854775807) (hv:b.Valid) (hi:0 ≤ id ∧ id ≤ 1000) :
  Calls Tryz.prog 52 #[.agg (b.cells m).toArray,.int .i64 id] w (IxEnd b id w):=by
 have HR:=Lib.hid h
 have HOK:=Lib.hid (obs_ok hv.2.2.2.2.2.1)
 obtain ⟨cs,hcs⟩:∃ cs,(b.cells m).toArray = cs:=⟨_,rfl⟩
 have HP:Hid (∀ W,Below w.heap.size w W → Calls Tryz.prog 16 #[.agg cs] W (BoolEnd b.Valid W)):=Lib.hid (fun W hb => by rw [← hcs];exact valid_any b m W (h.below hb) hz)
 have HV:=Lib.hid hv
 rw [hcs]
 have hbox:=Blk.mk_ w 33 cs _ rfl
 have hB0:Below w.heap.size w (w.alloc (.cells cs 33)):=(Below.refl _ _).alloc (Nat.le_refl _) _
 have hsz:cs.toList.length = 38:=by rw [← hcs];rfl
 have HL:Hid ((Instr.loadAt 33 (.pointer (some ⟨w.heap.size,0,none⟩))).run Tryz.prog (w.alloc (.cells cs 33)) = .ok (.agg cs) (w.alloc (.cells cs 33))):=Lib.hid (by
  have:=hbox.mid (o:=0) (ty:=33) cs.toList _ (fun j v hj => by rw [Nat.zero_add];simpa using hj) Tryz.underlying33 rfl (by rw [hsz];exact size_board)
  rwa [Array.toArray_toList] at this)
 obtain ⟨⟨OA,Oc⟩,hO⟩:∃ s,m.O = s:=⟨_,rfl⟩
 obtain ⟨no,hno⟩:∃ n,b.objs.length = n:=⟨_,rfl⟩
 have hno5:no ≤ 500:=by
  have h1:=hv.1
  unfold numOk at h1
  simp at h1
  omega
 have e0:cs[0]? = some (.slice OA no Oc):=by
  rw [← hcs]
  show some (m.O.v b.objs.length) = _
  rw [hO,hno]
  rfl
 have HBS:Hid (∀ W,Below w.heap.size w W → Calls Tryz.prog 84 #[.slice OA no Oc,.int .i64 id,.func (.func 85) #[] #[]] W (BsEnd b.objs no id W)):=Lib.hid (fun W hb => by
  have:=bs_any m.O no b.objs id W (by rw [← hno];exact h.O.below hb) hno hno5 HOK.out.1 hi HOK.out.2
  rwa [hO] at this)
 have HBOX:=Lib.hid hbox
 have HB0:=Lib.hid hB0
 have E0:=Lib.hid e0
 clear h hz hv hcs hO hno hbox hB0 e0 hsz hi
 go_enter Tryz.func52,Tryz.ntmps52
 go_wp2_with (first | (refine wpList_load_by HL.out rfl rfl rfl ?_;simp only [Act.put,List.setIfInBounds_toArray,List.set_cons_succ,List.set_cons_zero]) | fail)
 refine (HP.out _ HB0.out).mono ?_
 rintro e w2 ⟨v,rfl,hvv,hb2⟩
 have HB2:=Lib.hid (below_call HB0.out hb2 HB0.out.size)
 have HBL2:=Lib.hid (HBOX.out.call hb2)
 have hvt:v = true:=hvv.2 HV.out
 subst hvt
 have c0:w2.cell? ⟨w.heap.size,0,none⟩ = some (.slice OA no Oc):=(HBL2.out.at_ 0).trans E0.out
 clear hvv hb2
 go_wp2_with fail
 refine (HBS.out w2 HB2.out).mono ?_
 rintro e w3 ⟨i,v,rfl,hin,HA,HBB,hv2,hb3⟩
 have HB3:=Lib.hid (below_call HB2.out hb3 HB2.out.size)
 have H2:=Lib.hid hv2
 have H3:=Lib.hid HA
 have H4:=Lib.hid HBB
 clear hv2 HA HBB hb3 c0
 cases v with
 | true =>
  go_wp2_with fail
  (first | go_ret | go_ret2)
  obtain ⟨o,ho,hid⟩:=H2.out.1 (by trivial)
  exact ⟨.inl ⟨i,o,ho,hid,rfl⟩,HB3.out⟩
 | false =>
  go_wp2_with fail
  (first | go_ret | go_ret2)
  refine ⟨.inr ⟨fun o ho hid => ?_,rfl⟩,HB3.out⟩
  obtain ⟨k,hk⟩:=List.getElem?_of_mem ho
  rcases Nat.lt_or_ge k i with h1 | h1
  ·have:=H3.out k o h1 hk
   omega
  ·rcases Nat.lt_or_ge i k with h2 | h2
   ·have hkl:=(List.getElem?_eq_some_iff.1 hk).1
    obtain ⟨p,hp⟩:=get_of (l:=b.objs) (k:=i) (by omega)
    have h3:=H4.out i p (Nat.le_refl _) hp
    have h4:=HOK.out.2 i k p o h2 hp hk
    omega
   ·obtain rfl:k = i:=by omega
    have h5:=H2.out.2 ⟨o,hk,hid⟩
    simp at h5

def obI (l:List Ob) (i:Int):Ob:=(l.find? fun o => decide (o.id = i)).getD default
theorem obI_of {l:List Ob} (hs:∀ (i j:Nat) (x y:Ob),i < j → l[i]? = some x → l[j]? = some y → x.id < y.id) {o:Ob} (ho:o ∈ l):obI l o.id = o:=by
 unfold obI
 cases hf:l.find? fun p => decide (p.id = o.id) with
 | none =>
  have:=List.find?_eq_none.1 hf o ho
  simp at this
 | some p =>
  have h1:=List.find?_some hf
  have h2:=List.mem_of_find?_eq_some hf
  simp at h1
  obtain ⟨a,ha⟩:=List.getElem?_of_mem ho
  obtain ⟨c,hc⟩:=List.getElem?_of_mem h2
  rcases Nat.lt_trichotomy a c with h | h | h
  ·have:=hs a c o p h ha hc
   omega
  ·subst h
   rw [ha] at hc
   exact (Option.some.inj hc).symm
  ·have:=hs c a p o h hc ha
   omega
theorem one_ocs (l:List Ob):∀ u ∈ ocs l,u.oneCell' = true:=by
 intro u hu
 unfold ocs at hu
 obtain ⟨p,_,hp⟩:=List.mem_flatMap.1 hu
 simp only [Ob.cells,List.mem_cons,List.not_mem_nil,or_false] at hp
 rcases hp with rfl | rfl | rfl | rfl | rfl | rfl | rfl | rfl | rfl | rfl | rfl | rfl <;> rfl
def SobEnd (l:List Ob) (ids:List Int) (w:World) (e:Ending) (w':World):Prop:=∃ A c,e = .returned (.slice A ids.length c) ∧ XOwns w' w.heap.size 46 12 A ids.length c (ocs (ids.map (obI l))) ∧ Below w.heap.size w w'

structure Vs where
 life:Int
 p0:Int
 p1:Int
 p2:Int
 p3:Int
 lib:Int
 hand:Int
 fld:List Ob
 grv:List Ob
 emp:Bool
 ply:Bool
 kpt:Bool
 mul:Int
 act:Int
deriving DecidableEq,Inhabited
structure Pu where
 v0:Vs
 v1:Vs
 stk:List It
 que:List It
 att:List Int
 blk:List Bk
 turn:Int
 actv:Int
 phs:Int
 hold:Int
 pas:Int
deriving DecidableEq,Inhabited
structure VsM where
 F:Sl
 G:Sl
deriving Inhabited
structure PuM where
 m0:VsM
 m1:VsM
 S:Sl
 Q:Sl
 ST:List Sl
 QT:List Sl
 AT:Sl
 BK:Sl
deriving Inhabited
def Vs.cells (s:Vs) (m:VsM):List Value:=[.int .i64 s.life,.int .i64 s.p0,.int .i64 s.p1,.int .i64 s.p2,.int .i64 s.p3,.int .i64 s.lib,.int .i64 s.hand,m.F.v s.fld.length,m.G.v s.grv.length,.bool s.emp,.bool s.ply,.bool s.kpt,.int .i64 s.mul,.int .i64 s.act]
def Pu.tail (p:Pu) (m:PuM):List Value:=[m.S.v p.stk.length,m.Q.v p.que.length,m.AT.v p.att.length,m.BK.v p.blk.length,.int .i64 p.turn,.int .i64 p.actv,.int .i64 p.phs,.int .i64 p.hold,.int .i64 p.pas]
def Pu.cells (p:Pu) (m:PuM):List Value:=p.v0.cells m.m0 ++ p.v1.cells m.m1 ++ p.tail m
structure OsR (w:World) (s:Sl) (l:List Ob):Prop where
 row:Reads w 12 s.A l.length (ocs l)
 ok:s.ok l.length
structure IlR (w:World) (s:Sl) (l:List Int):Prop where
 row:Reads w 1 s.A l.length (ics l)
 ok:s.ok l.length
structure BsR (w:World) (s:Sl) (l:List Bk):Prop where
 row:Reads w 2 s.A l.length (bcs l)
 ok:s.ok l.length
structure VsR (w:World) (v:Vs) (m:VsM):Prop where
 F:OsR w m.F v.fld
 G:OsR w m.G v.grv
structure PuR (w:World) (p:Pu) (m:PuM):Prop where
 v0:VsR w p.v0 m.m0
 v1:VsR w p.v1 m.m1
 S:IsR w m.S p.stk m.ST
 Q:IsR w m.Q p.que m.QT
 AT:IlR w m.AT p.att
 BK:BsR w m.BK p.blk
section
variable {w w':World}
theorem OsR.below {s:Sl} {l:List Ob} (h:OsR w s l) (hb:Below w.heap.size w w'):OsR w' s l:=⟨h.row.below hb,h.ok⟩
theorem IlR.below {s:Sl} {l:List Int} (h:IlR w s l) (hb:Below w.heap.size w w'):IlR w' s l:=⟨h.row.below hb,h.ok⟩
theorem BsR.below {s:Sl} {l:List Bk} (h:BsR w s l) (hb:Below w.heap.size w w'):BsR w' s l:=⟨h.row.below hb,h.ok⟩
theorem VsR.below {v:Vs} {m:VsM} (h:VsR w v m) (hb:Below w.heap.size w w'):VsR w' v m:=⟨h.F.below hb,h.G.below hb⟩
theorem PuR.below {p:Pu} {m:PuM} (h:PuR w p m) (hb:Below w.heap.size w w'):PuR w' p m:=⟨h.v0.below hb,h.v1.below hb,h.S.below hb,h.Q.below hb,h.AT.below hb,h.BK.below hb⟩
end
structure VsO (W:World) (B:Nat) (v:Vs) (m:VsM):Prop where
 F:XOwns W B 46 12 m.F.A v.fld.length m.F.c (ocs v.fld)
 G:XOwns W B 46 12 m.G.A v.grv.length m.G.c (ocs v.grv)
structure PuO (W:World) (B:Nat) (p:Pu) (m:PuM):Prop where
 v0:VsO W B p.v0 m.m0
 v1:VsO W B p.v1 m.m1
 S:IsO W B m.S p.stk m.ST
 Q:IsO W B m.Q p.que m.QT
 AT:XOwns W B 3 1 m.AT.A p.att.length m.AT.c (ics p.att)
 BK:XOwns W B 84 2 m.BK.A p.blk.length m.BK.c (bcs p.blk)
def offT (t:TypeId):Prop:=46 ≠ t ∧ 55 ≠ t ∧ 124 ≠ t ∧ 3 ≠ t ∧ 84 ≠ t
section
variable {W W':World} {B B':Nat} {v:Vs} {m:VsM} {p:Pu} {q:PuM} {g:Nat} {t:TypeId} {cs:Array Value}
theorem VsO.isR (h:VsO W B v m):VsR W v m:=⟨⟨h.F.reads,h.F.okS⟩,⟨h.G.reads,h.G.okS⟩⟩
theorem VsO.below (h:VsO W B v m) (hb:Below W.heap.size W W'):VsO W' B v m:=⟨h.F.below hb,h.G.below hb⟩
theorem VsO.more (h:VsO W B v m) (hb:B' ≤ B):VsO W B' v m:=⟨h.F.more hb,h.G.more hb⟩
theorem VsO.blk (h:VsO W B v m) (hk:Blk W g t cs) (hg:W.grownBy W' (some g)) (ho:offT t):VsO W' B v m:=⟨h.F.blk_ hk hg ho.1,h.G.blk_ hk hg ho.1⟩
theorem PuO.isR (h:PuO W B p q):PuR W p q:=⟨h.v0.isR,h.v1.isR,h.S.isR,h.Q.isR,⟨h.AT.reads,h.AT.okS⟩,⟨h.BK.reads,h.BK.okS⟩⟩
theorem PuO.below (h:PuO W B p q) (hb:Below W.heap.size W W'):PuO W' B p q:=⟨h.v0.below hb,h.v1.below hb,h.S.below hb,h.Q.below hb,h.AT.below hb,h.BK.below hb⟩
theorem PuO.more (h:PuO W B p q) (hb:B' ≤ B):PuO W B' p q:=⟨h.v0.more hb,h.v1.more hb,h.S.more hb,h.Q.more hb,h.AT.more hb,h.BK.more hb⟩
theorem PuO.blk (h:PuO W B p q) (hk:Blk W g t cs) (hg:W.grownBy W' (some g)) (ho:offT t):PuO W' B p q :=
 ⟨h.v0.blk hk hg ho,h.v1.blk hk hg ho,h.S.blk hk hg ho.2.1 ho.2.2.1,h.Q.blk hk hg ho.2.1 ho.2.2.1,h.AT.blk_ hk hg ho.2.2.2.1,h.BK.blk_ hk hg ho.2.2.2.2⟩
end
def vsOf (l:List Ob) (s:Se):Vs:=⟨s.life,s.p0,s.p1,s.p2,s.p3,s.lib.length,s.hand.length,s.fld.map (obI l),s.grv.map (obI l),s.emp,s.ply,s.kpt,s.mul,s.act⟩
def puOf (b:Bd):Pu:=⟨vsOf b.objs b.s0,vsOf b.objs b.s1,b.stk,b.que,b.att,b.blk,b.turn,b.actv,b.phs,b.hold,b.pas⟩

/-! ### What a valid board bounds -/
theorem plc_objs {b:Bd} (h:plcP b):b.plc.Perm (b.objs.map fun o => (o.id,o.own)):=by
 obtain ⟨h1,h2,h3,h4⟩:=h
 have hid:=nodup_of_lt (inc_pw _ h3)
 have hL:(b.objs.map fun o => (o.id,o.own)).Nodup:=by
  have e:(b.objs.map fun o => (o.id,o.own)).map Prod.fst = b.objs.map Ob.id:=by rw [List.map_map];rfl
  rw [← e] at hid
  exact List.Pairwise.of_map Prod.fst (fun a b h e => h (by rw [e])) hid
 exact (perm_of_sub hL (m:=b.plc) (fun x hx => by
  obtain ⟨o,ho,rfl⟩:=List.mem_map.1 hx
  exact (h2 o ho).2.1) (by rw [h4];simp)).symm
theorem plc_mem {b:Bd} (h:plcP b) {i p:Int} (hi:(i,p) ∈ b.plc):∃ o ∈ b.objs,o.id = i ∧ o.own = p:=by
 obtain ⟨o,ho,e⟩:=List.mem_map.1 ((plc_objs h).mem_iff.1 hi)
 exact ⟨o,ho,congrArg Prod.fst e,congrArg Prod.snd e⟩
theorem ids0_mem {b:Bd} {i:Int} (h:i ∈ b.s0.ids):(i,0) ∈ b.plc:=by
 unfold Bd.plc
 exact List.mem_append_left _ (List.mem_append_left _ (List.mem_map.2 ⟨i,h,rfl⟩))
theorem ids1_mem {b:Bd} {i:Int} (h:i ∈ b.s1.ids):(i,1) ∈ b.plc:=by
 unfold Bd.plc
 exact List.mem_append_left _ (List.mem_append_right _ (List.mem_map.2 ⟨i,h,rfl⟩))
structure SeSm (s:Se) (l:List Ob):Prop where
 L:s.lib.length ≤ 500
 H:s.hand.length ≤ 500
 F:s.fld.length ≤ 500
 G:s.grv.length ≤ 500
 Li:∀ i ∈ s.lib,∃ o ∈ l,o.id = i
 Hi:∀ i ∈ s.hand,∃ o ∈ l,o.id = i
 Fi:∀ i ∈ s.fld,∃ o ∈ l,o.id = i
 Gi:∀ i ∈ s.grv,∃ o ∈ l,o.id = i
structure BdSm (b:Bd):Prop where
 O:b.objs.length ≤ 500
 s0:SeSm b.s0 b.objs
 s1:SeSm b.s1 b.objs
 S:b.stk.length ≤ 200
 Q:b.que.length ≤ 200
 AT:b.att.length ≤ 500
 BK:b.blk.length ≤ 500
 ST:∀ x ∈ b.stk,x.tgs.length ≤ 4
 QT:∀ x ∈ b.que,x.tgs.length ≤ 4
theorem nodup_len {l m:List Int} (h:l.Nodup) (hs:∀ x ∈ l,x ∈ m):l.length ≤ m.length:=by
 induction l generalizing m with
 | nil => simp
 | cons x l ih =>
  have hx:x ∈ m:=hs x (List.mem_cons_self ..)
  have hn:=List.nodup_cons.1 h
  have h1:=ih (m:=m.erase x) hn.2 fun y hy => by
   have:=hs y (List.mem_cons_of_mem _ hy)
   have hp:=List.perm_cons_erase hx
   rcases List.mem_cons.1 (hp.mem_iff.1 this) with rfl | h
   ·exact absurd hy hn.1
   ·exact h
  rw [List.length_erase_of_mem hx] at h1
  have:0 < m.length:=List.length_pos_of_mem hx
  simp only [List.length_cons]
  omega
theorem it_sm {q:Bool} {l:List It} (h:l.all (itOk q) = true):∀ x ∈ l,x.tgs.length ≤ 4:=fun x hx => by
 have:=List.all_eq_true.1 h x hx
 simp only [itOk,Bool.and_eq_true,decide_eq_true_eq] at this
 exact this.1.1.1.2
theorem bd_sm {b:Bd} (h:b.Valid):BdSm b:=by
 obtain ⟨hn,h0,h1,hs,hq,hp,hf⟩:=h
 simp only [numOk,inR,Bool.and_eq_true,decide_eq_true_eq] at hn
 obtain ⟨⟨⟨_,hO⟩,hS⟩,hQ⟩:=hn
 have hlen:b.s0.ids.length + b.s1.ids.length ≤ 500:=by
  have:=hp.2.2.2
  unfold Bd.plc at this
  simp only [List.length_append,List.length_map] at this
  omega
 have m0:=fun {i:Int} (hi:i ∈ b.s0.ids) => (plc_mem hp (ids0_mem hi)).imp fun o h => And.intro h.1 h.2.1
 have m1:=fun {i:Int} (hi:i ∈ b.s1.ids) => (plc_mem hp (ids1_mem hi)).imp fun o h => And.intro h.1 h.2.1
 have hsm:∀ s:Se,s.ids.length ≤ 500 → (∀ i ∈ s.ids,∃ o ∈ b.objs,o.id = i) → SeSm s b.objs:=fun s hl hm => by
  unfold Se.ids at hl hm
  simp only [List.length_append] at hl
  exact ⟨by omega,by omega,by omega,by omega,fun i hi => hm i (by simp [hi]),fun i hi => hm i (by simp [hi]),fun i hi => hm i (by simp [hi]),fun i hi => hm i (by simp [hi])⟩
 have s0:=hsm b.s0 (by omega) fun i hi => m0 hi
 have s1:=hsm b.s1 (by omega) fun i hi => m1 hi
 have hfl:∀ p,(b.fld p).length ≤ 500:=fun p => by
  unfold Bd.fld
  split
  ·exact s0.F
  ·exact s1.F
 have hA:b.att.length ≤ 500:=Nat.le_trans (nodup_len hf.1 hf.2.1) (hfl _)
 have hB:b.blk.length ≤ 500:=by
  have:=nodup_len (m:=b.att) hf.2.2.1 fun x hx => by
   obtain ⟨y,hy,rfl⟩:=List.mem_map.1 hx
   exact (hf.2.2.2.2 y hy).1
  rw [List.length_map] at this
  omega
 exact ⟨hO,s0,s1,hS,hQ,hA,hB,it_sm hs,it_sm hq⟩
end Go.Proofs.YtagpphelgghbpaaGreat
