/-
  Texts: Lst, Plp.
-/
import Derived.Test.YtagpphelgghbpaaGreatMk4
import Derived.Test.YtagpphelgghbpaaGreatMk5
set_option linter.unusedSimpArgs false
set_option linter.unusedVariables false
namespace Go.Proofs.YtagpphelgghbpaaGreat
open Go.RowKit

set_option maxRecDepth 100000 in
set_option maxHeartbeats 800000 in
theorem lists_any (g o:Nat) (w:World):Calls Tryz.prog 55 #[.pointer (some ⟨g,o,none⟩)] w fun e w' => e = .returned (.agg #[.pointer (some ⟨g,o + 5,none⟩),.pointer (some ⟨g,o + 6,none⟩),.pointer (some ⟨g,o + 7,none⟩),.pointer (some ⟨g,o + 8,none⟩)]) ∧ Below w.heap.size w w':=by
 go_enter Tryz.func55,Tryz.ntmps55
 go_wp2
 have hal:Below w.heap.size w (w.alloc (.cells #[.pointer none,.pointer none,.pointer none,.pointer none] 111)):=(Below.refl _ _).alloc (Nat.le_refl _) _
 refine wp_region_sched (fun w' => ∃ s:Later w.heap.size w,w' = s.W) [0,1,2,3,4,5,6,7,8,9,10,11,12] (.one 13 [] .done) (by kernel_rfl) (by kernel_rfl) (fun d _ _ _ _ h => by cases d <;> exact h) ⟨⟨_,hal.drew⟩,rfl⟩ ?_
 refine quiet_as (C':=(fun w' => ∃ s:Later w.heap.size w,w' = s.W)) rfl ?_
 simp only [opsAt,List.getElem?_toArray,List.getElem?_cons_succ,List.getElem?_cons_zero]
 repeat (go_big_quiet_step (fail))
 refine wpQuiet_nil ?_
 refine eff_as (C':=(fun w' => ∃ s:Later w.heap.size w,w' = s.W)) rfl ?_
 (refine eff_lit rfl rfl (fun K hK => ?_))
 go_big_op
 refine hK _ _ ⟨⟨_,((Below.refl _ _).alloc (Nat.le_refl _) _).drew⟩,rfl⟩ ?_
 clear hK K hal
 simp only [opsAt,List.getElem?_toArray,List.getElem?_cons_succ,List.getElem?_cons_zero]
 refine wpQuiet_nil ?_
 refine effs_done ?_
 have hb:Below w.heap.size w (w.alloc (.cells #[.pointer (some ⟨g,o + 5,none⟩),.pointer (some ⟨g,o + 6,none⟩),.pointer (some ⟨g,o + 7,none⟩),.pointer (some ⟨g,o + 8,none⟩)] 111)).drew:=((Below.refl _ _).alloc (Nat.le_refl _) _).drew
 have hZ:=(Blk.mk_ w 111 #[.pointer (some ⟨g,o + 5,none⟩),.pointer (some ⟨g,o + 6,none⟩),.pointer (some ⟨g,o + 7,none⟩),.pointer (some ⟨g,o + 8,none⟩)] _ rfl).drew
 generalize (w.alloc (.cells #[.pointer (some ⟨g,o + 5,none⟩),.pointer (some ⟨g,o + 6,none⟩),.pointer (some ⟨g,o + 7,none⟩),.pointer (some ⟨g,o + 8,none⟩)] 111)).drew = wz at *
 have z0:wz.cell? ⟨w.heap.size,0,none⟩ = some (.pointer (some ⟨g,o + 5,none⟩)):=(hZ.at_ 0).trans rfl
 have z1:wz.cell? ⟨w.heap.size,1,none⟩ = some (.pointer (some ⟨g,o + 6,none⟩)):=(hZ.at_ 1).trans rfl
 have z2:wz.cell? ⟨w.heap.size,2,none⟩ = some (.pointer (some ⟨g,o + 7,none⟩)):=(hZ.at_ 2).trans rfl
 have z3:wz.cell? ⟨w.heap.size,3,none⟩ = some (.pointer (some ⟨g,o + 8,none⟩)):=(hZ.at_ 3).trans rfl
 clear hZ
 go_wp2
 refine bodyPost_ret (v:=.agg #[.pointer (some ⟨g,o + 5,none⟩),.pointer (some ⟨g,o + 6,none⟩),.pointer (some ⟨g,o + 7,none⟩),.pointer (some ⟨g,o + 8,none⟩)]) (by simp [results,Tryz.results55,go_sem,z0,z1,z2,z3]) rfl ⟨rfl,hb⟩
set_option maxRecDepth 100000 in
theorem put_any (gc g n:Nat) (f:Int → Option Int) (id p:Int) (w:World) (hc:w.cell? ⟨gc,0,none⟩ = some (.map (some g))) (hm:MapN w g n f) (hi:wfI id) (hp:wfI p) (hn:n < maxLen) :
  Calls Tryz.prog 81 #[.int .i64 id,.int .i64 p,.pointer (some ⟨gc,0,none⟩)] w fun e w' => e = .returned (.bool (!(f id).isSome)) ∧ MapN w' g (if (f id).isSome then n else n + 1) (putF f id p) ∧ w.grownBy w' (some g):=by
 obtain ⟨w1,hrun,hm1,hg1⟩:=hm.put hi hp hn
 have hl:=hm.look hi
 have HM1:=Lib.hid hm1
 have HG1:=Lib.hid hg1
 clear hm hm1 hg1 hi hp hn
 obtain ⟨b,hb⟩:∃ b,(f id).isSome = b:=⟨_,rfl⟩
 obtain ⟨v,hv⟩:∃ v,(f id).getD 0 = v:=⟨_,rfl⟩
 rw [hb,hv] at hl
 rw [hb] at HM1 ⊢
 obtain ⟨n2,hn2⟩:∃ n2,(if b = true then n else n + 1) = n2:=⟨_,rfl⟩
 rw [hn2] at HM1 ⊢
 clear hb hv hn2
 go_enter Tryz.func81,Tryz.ntmps81
 go_wp2
 go_ret
 exact ⟨rfl,HM1.out,HG1.out⟩

def ofL (L:List (Int × Int)):Int → Option Int:=fun x => (L.find? fun q => q.1 == x).map Prod.snd
theorem ofL_isSome {L:List (Int × Int)} {x:Int}:(ofL L x).isSome = decide (x ∈ L.map Prod.fst):=by
 unfold ofL
 rw [Option.isSome_map,Bool.eq_iff_iff,List.find?_isSome,decide_eq_true_eq,List.mem_map]
 constructor
 ·rintro ⟨q,hq,he⟩
  exact ⟨q,hq,beq_iff_eq.1 he⟩
 ·rintro ⟨q,hq,he⟩
  exact ⟨q,hq,beq_iff_eq.2 he⟩
theorem ofL_snoc {L:List (Int × Int)} {x p:Int} (h:x ∉ L.map Prod.fst):putF (ofL L) x p = ofL (L ++ [(x,p)]):=by
 funext y
 unfold putF ofL
 rw [List.find?_append]
 by_cases e:y = x
 ·subst e
  rw [if_pos rfl]
  have:L.find? (fun q => q.1 == y) = none:=by
   rw [List.find?_eq_none]
   intro q hq he
   exact h (List.mem_map.2 ⟨q,hq,beq_iff_eq.1 he⟩)
  rw [this]
  simp
 ·rw [if_neg e]
  have:([(x,p)]:List (Int × Int)).find? (fun q => q.1 == y) = none:=by
   rw [List.find?_eq_none]
   intro q hq he
   simp at hq
   subst hq
   exact e (beq_iff_eq.1 he).symm
  rw [this]
  simp
theorem ofL_get {L:List (Int × Int)} {x p:Int} (hn:(L.map Prod.fst).Nodup):ofL L x = some p ↔ (x,p) ∈ L:=by
 unfold ofL
 rw [Option.map_eq_some_iff]
 constructor
 ·rintro ⟨q,hq,he⟩
  have h1:=List.mem_of_find?_eq_some hq
  have h2:=List.find?_some hq
  obtain ⟨a,b⟩:=q
  simp at h2 he
  subst h2 he
  exact h1
 ·intro h
  obtain ⟨q,hq⟩:∃ q,L.find? (fun q => q.1 == x) = some q:=by
   rw [← Option.isSome_iff_exists,List.find?_isSome]
   exact ⟨_,h,by simp⟩
  refine ⟨q,hq,?_⟩
  have h1:=List.mem_of_find?_eq_some hq
  have h2:=List.find?_some hq
  obtain ⟨a,b⟩:=q
  simp at h2
  subst h2
  rw [List.Nodup,List.pairwise_map,List.pairwise_iff_getElem] at hn
  obtain ⟨i,hi,e1⟩:=List.getElem_of_mem h1
  obtain ⟨j,hj,e2⟩:=List.getElem_of_mem h
  rcases Nat.lt_trichotomy i j with g | g | g
  ·exact absurd (by rw [e1,e2]) (hn i j hi hj g)
  ·subst g
   rw [e1] at e2
   exact congrArg Prod.snd e2
  ·exact absurd (by rw [e1,e2]) (hn j i hj hi g)

def Se.zn (s:Se) (k:Nat):List Int:=match k with
 | 0 => s.lib
 | 1 => s.hand
 | 2 => s.fld
 | _ => s.grv
def Bd.se (b:Bd) (p:Nat):Se:=if p = 0 then b.s0 else b.s1
def zoneL (b:Bd) (z:Nat):List Int:=(b.se (z / 4)).zn (z % 4)
def zoneQ (b:Bd) (z:Nat):List (Int × Int):=(zoneL b z).map fun i => (i,((z / 4:Nat):Int))
def zoneD (b:Bd) (z:Nat):List (Int × Int):=(List.range z).flatMap (zoneQ b)
theorem zoneD_succ (b:Bd) (z:Nat):zoneD b (z + 1) = zoneD b z ++ zoneQ b z:=by unfold zoneD;rw [List.range_succ];simp
theorem plc_zones (b:Bd):b.plc = zoneD b 8 ++ (onStk b).map fun x => (x.id,x.pl):=by
 unfold Bd.plc zoneD Se.ids
 simp [List.range_succ,List.range_zero,zoneQ,zoneL,Bd.se,Se.zn]
theorem zone_take {b:Bd} {z j:Nat} {x:Int} (h:(zoneL b z)[j]? = some x):(zoneQ b z).take (j + 1) = (zoneQ b z).take j ++ [(x,((z / 4:Nat):Int))]:=by
 have h2:(zoneQ b z)[j]? = some (x,((z / 4:Nat):Int)):=by
  unfold zoneQ
  rw [List.getElem?_map,h]
  rfl
 exact take_snoc h2
theorem zone_pre {b:Bd} {z j:Nat} (hz:z < 8):∃ r,b.plc = (zoneD b z ++ (zoneQ b z).take j) ++ r:=by
 rw [plc_zones]
 have e:∀ n m,n ≤ m → ∃ r,zoneD b m = zoneD b n ++ r:=by
  intro n m h
  induction m with
  | zero => obtain rfl:n = 0:=by omega
            exact ⟨[],by simp⟩
  | succ m ih =>
   rcases Nat.lt_or_ge n (m + 1) with h1 | h1
   ·obtain ⟨r,hr⟩:=ih (by omega)
    exact ⟨r ++ zoneQ b m,by rw [zoneD_succ,hr,List.append_assoc]⟩
   ·obtain rfl:n = m + 1:=by omega
    exact ⟨[],by simp⟩
 obtain ⟨r,hr⟩:=e (z + 1) 8 (by omega)
 rw [hr,zoneD_succ]
 refine ⟨(zoneQ b z).drop j ++ r ++ (onStk b).map fun x => (x.id,x.pl),?_⟩
 rw [← List.append_assoc (zoneD b z ++ _),← List.append_assoc (zoneD b z ++ _),List.append_assoc (zoneD b z) _ ((zoneQ b z).drop j),List.take_append_drop]
theorem dup_bad {L r:List (Int × Int)} {x p:Int} {l:List (Int × Int)} (hx:x ∈ L.map Prod.fst) (h:l = (L ++ [(x,p)]) ++ r):¬ (l.map Prod.fst).Nodup:=by
 intro hn
 rw [h,List.map_append,List.map_append] at hn
 have h1:=(List.nodup_append.1 hn).1
 have h2:=(List.nodup_append.1 h1).2.2
 exact h2 x hx x (by simp) rfl
end Go.Proofs.YtagpphelgghbpaaGreat
