/-
  Texts: Shp, Mxq, Lay, Cat, Mpo.
-/
import Derived.Test.YtagpphelgghbpaaGreatMk17
import Derived.Test.YtagpphelgghbpaaGreatMk12
import Derived.Shelf.SortM.Plain
import Derived.Shelf.SortM.SortNone
import Derived.Test.YtagpphelgghbpaaGreatMk2
import Derived.Test.YtagpphelgghbpaaGreatMk11
import Derived.Lib.AppendZerosOnto
import Derived.Lib.SliceRun
import Derived.Lib.Walk
import Derived.Test.YtagpphelgghbpaaGreatMk16
set_option linter.unusedSimpArgs false
set_option linter.unusedVariables false
namespace Go.Proofs.YtagpphelgghbpaaGreat
open Go.RowKit

theorem ith_eq {l:List Int} {k:Nat} (h:k < l.length):ith l k = l[k]:=by simp [ith,List.getD,List.getElem?_eq_getElem h]
theorem swp_count (l:List Int) (i j:Nat) (hi:i < l.length) (hj:j < l.length) (a:Int):(swp l i j).count a = l.count a:=by
 unfold swp
 rw [List.count_set (by simpa using hj),List.count_set hi,ith_eq hi,ith_eq hj,List.getElem_set]
 have pos:∀ (k:Nat) (hk:k < l.length),l[k] = a → 0 < l.count a:=fun k hk e => List.count_pos_iff.2 (e ▸ List.getElem_mem hk)
 have pi:=pos i hi
 have pj:=pos j hj
 by_cases h1:l[i] = a <;> by_cases h2:l[j] = a <;> by_cases h3:i = j <;> simp [h1,h2,h3] <;> first | (have:=pi h1;omega) | (have:=pj h2;omega) | (subst h3;simp_all) | omega
theorem swp_perm (l:List Int) (i j:Nat) (hi:i < l.length) (hj:j < l.length):(swp l i j).Perm l:=List.perm_iff_count.2 (swp_count l i j hi hj)
def shufL (us:List Int):Nat → Nat → List Int → List Int
 | 0,_,l => l
 | i + 1,used,l => shufL us i (used + 1) (swp l (i + 1) (ith us used % ((i:Int) + 2)).toNat)
def shuf (us:List Int) (used:Nat) (l:List Int):List Int:=shufL us (l.length - 1) used l
theorem shufL_len (us:List Int):∀ (i used:Nat) (l:List Int),(shufL us i used l).length = l.length
 | 0,_,_ => rfl
 | i + 1,used,l => by rw [shufL,shufL_len us i,swp_len]
theorem shufL_perm (us:List Int):∀ (i used:Nat) (l:List Int),i < l.length ∨ i = 0 → (shufL us i used l).Perm l
 | 0,_,_,_ => List.Perm.refl _
 | i + 1,used,l,h => by
  rw [shufL]
  have hi:i + 1 < l.length:=by omega
  have h0:0 ≤ ith us used % ((i:Int) + 2):=Int.emod_nonneg _ (by omega)
  have h1:ith us used % ((i:Int) + 2) < (i:Int) + 2:=Int.emod_lt_of_pos _ (by omega)
  exact (shufL_perm us i (used + 1) _ (.inl (by rw [swp_len];omega))).trans (swp_perm l _ _ hi (by omega))
theorem shuf_perm (us:List Int) (used:Nat) (l:List Int):(shuf us used l).Perm l:=shufL_perm us _ used l (by omega)
theorem shuf_len (us:List Int) (used:Nat) (l:List Int):(shuf us used l).length = l.length:=shufL_len us _ used l

def mine (own:Int) (H:Int → Bool) (o:Ob):Bool:=decide (o.own = own) && (decide (0 ≤ o.card) && H o.id)
def cds (own:Int) (H:Int → Bool) (l:List Ob):List Int:=(l.filter (mine own H)).map Ob.card
def putC (own:Int) (H:Int → Bool):List Ob → List Int → List Ob
 | [],_ => []
 | o :: l,cs => if mine own H o then { o with card:=cs.headD 0 } :: putC own H l cs.tail else o :: putC own H l cs
theorem putC_len (own:Int) (H:Int → Bool):∀ (l:List Ob) (cs:List Int),(putC own H l cs).length = l.length
 | [],_ => rfl
 | o :: l,cs => by rw [putC];split <;> simp [putC_len own H l]
theorem cds_cons (own:Int) (H:Int → Bool) (o:Ob) (l:List Ob):cds own H (o :: l) = if mine own H o then o.card :: cds own H l else cds own H l:=by
 unfold cds
 rw [List.filter_cons]
 split <;> simp
theorem putC_at (own:Int) (H:Int → Bool):∀ (l:List Ob) (cs:List Int),cs.length = (cds own H l).length → ∀ (i:Nat) (o:Ob),l[i]? = some o → (mine own H o = false ∧ (putC own H l cs)[i]? = some o) ∨ (mine own H o = true ∧ ∃ c ∈ cs,(putC own H l cs)[i]? = some { o with card:=c })
 | [],_,_,i,o,h => by simp at h
 | p :: l,cs,hl,i,o,h => by
  rw [putC]
  rw [cds_cons] at hl
  cases hm:mine own H p with
  | true =>
   rw [hm,if_pos rfl] at hl
   rw [if_pos rfl]
   cases cs with
   | nil => simp at hl
   | cons c cs =>
    cases i with
    | zero =>
     simp at h
     subst h
     exact .inr ⟨hm,c,by simp,by simp⟩
    | succ i =>
     rcases putC_at own H l cs (by simpa using hl) i o (by simpa using h) with h1 | ⟨h1,d,h2,h3⟩
     ·exact .inl (by simpa using h1)
     ·exact .inr ⟨h1,d,List.mem_cons_of_mem _ h2,by simpa using h3⟩
  | false =>
   rw [hm,if_neg (by decide)] at hl
   rw [if_neg (by decide)]
   cases i with
   | zero =>
    simp at h
    subst h
    exact .inl ⟨hm,by simp⟩
   | succ i =>
    rcases putC_at own H l cs hl i o (by simpa using h) with h1 | ⟨h1,d,h2,h3⟩
    ·exact .inl (by simpa using h1)
    ·exact .inr ⟨h1,d,h2,by simpa using h3⟩
theorem putC_id (own:Int) (H:Int → Bool):∀ (l:List Ob) (cs:List Int),(putC own H l cs).map Ob.id = l.map Ob.id
 | [],_ => rfl
 | o :: l,cs => by rw [putC];split <;> simp [putC_id own H l]
theorem putC_inc (own:Int) (H:Int → Bool):∀ (l:List Ob) (cs:List Int),incB (putC own H l cs) = incB l:=by
 have hh:∀ l:List Ob,incB l = incB (l.map fun o => { (default:Ob) with id:=o.id }):=by
  intro l
  induction l with
  | nil => rfl
  | cons x l ih => cases l with
   | nil => rfl
   | cons y l => simp only [List.map_cons,incB] at ih ⊢;rw [ih]
 intro l cs
 rw [hh,hh l]
 congr 1
 have h:=congrArg (List.map fun i => { (default:Ob) with id:=i }) (putC_id own H l cs)
 simpa [List.map_map,Function.comp_def] using h
theorem obI_putC (own:Int) (H:Int → Bool) {i:Int} (hi:H i = false) (l:List Ob) (cs:List Int):obI (putC own H l cs) i = obI l i:=by
 have hf:∀ (l:List Ob) (cs:List Int),((putC own H l cs).find? fun o => decide (o.id = i)) = l.find? fun o => decide (o.id = i):=by
  intro l
  induction l with
  | nil => intro cs;rfl
  | cons o l ih =>
   intro cs
   rw [putC]
   split
   ·rename_i hm
    have hne:¬ o.id = i:=fun e => by simp [mine,e,hi] at hm
    rw [List.find?_cons,List.find?_cons]
    simp [hne,ih]
   ·rw [List.find?_cons,List.find?_cons,ih]
 unfold obI
 rw [hf]
theorem putC_own (own:Int) (H:Int → Bool) (q:Int):∀ (l:List Ob) (cs:List Int),cs.length = (cds own H l).length → ∀ a,(((putC own H l cs).filter fun o => decide (o.own = q)).map Ob.card).count a + (if q = own then (cds own H l).count a else 0) = ((l.filter fun o => decide (o.own = q)).map Ob.card).count a + (if q = own then cs.count a else 0)
 | [],cs,hl,a => by
  have:cs = []:=by cases cs with | nil => rfl | cons c cs => simp [cds] at hl
  subst this
  simp [putC,cds]
 | o :: l,cs,hl,a => by
  rw [putC]
  rw [cds_cons] at hl ⊢
  cases hm:mine own H o with
  | true =>
   rw [hm,if_pos rfl] at hl
   rw [if_pos rfl,if_pos rfl]
   have ho:o.own = own:=by
    unfold mine at hm
    simp at hm
    exact hm.1
   cases cs with
   | nil => simp at hl
   | cons c cs =>
    have ih:=putC_own own H q l cs (by simpa using hl) a
    simp only [List.headD_cons,List.tail_cons,List.filter_cons]
    by_cases hq:q = own
    ·rw [if_pos hq,if_pos hq] at ih ⊢
     have:decide (o.own = q) = true:=by simp [ho,hq]
     simp only [this,if_true,List.map_cons,List.count_cons]
     omega
    ·rw [if_neg hq,if_neg hq] at ih ⊢
     have:decide (o.own = q) = false:=by simp [ho];exact fun e => hq e.symm
     simp only [this]
     simpa using ih
  | false =>
   rw [hm,if_neg (by decide)] at hl
   simp only [Bool.false_eq_true,if_false]
   have ih:=putC_own own H q l cs hl a
   simp only [List.filter_cons]
   split
   ·simp only [List.map_cons,List.count_cons]
    omega
   ·exact ih
theorem putC_own_at (own:Int) (H:Int → Bool):∀ (l:List Ob) (cs:List Int) (i:Nat) (o:Ob),l[i]? = some o → ∃ c,(putC own H l cs)[i]? = some { o with card:=c }
 | [],_,i,o,h => by simp at h
 | p :: l,cs,i,o,h => by
  rw [putC]
  cases i with
  | zero =>
   simp at h
   subst h
   split
   ·exact ⟨cs.headD 0,by simp⟩
   ·exact ⟨p.card,by simp⟩
  | succ i =>
   split
   ·exact (putC_own_at own H l _ i o (by simpa using h)).imp fun c h => by simpa using h
   ·exact (putC_own_at own H l _ i o (by simpa using h)).imp fun c h => by simpa using h
def mixO (H:Int → Bool) (us:List Int) (l:List Ob):Option (List Ob) :=
 if us.length + 1 < (cds 0 H l).length then none
 else
  if us.length - ((cds 0 H l).length - 1) + 1 < (cds 1 H (putC 0 H l (shuf us 0 (cds 0 H l)))).length then none
  else some (putC 1 H (putC 0 H l (shuf us 0 (cds 0 H l))) (shuf us ((cds 0 H l).length - 1) (cds 1 H (putC 0 H l (shuf us 0 (cds 0 H l))))))
end Go.Proofs.YtagpphelgghbpaaGreat

set_option linter.unusedSimpArgs false
set_option linter.unusedVariables false
namespace Go.Proofs.YtagpphelgghbpaaGreat
open Go.Shelf
def laysSort_ren:Go.Shelf.Ren:=⟨fun | 5 => 58 | 8 => 95 | 7 => 94 | 19 => 123 | 20 => 124 | 10 => 114 | 11 => 115 | 12 => 116 | 13 => 117 | 14 => 118 | 15 => 119 | 16 => 120 | 17 => 121 | 18 => 122 | 30 => 130 | 31 => 131 | 32 => 132 | 33 => 133 | 34 => 134 | 35 => 135 | 40 => 136 | n => n,fun | 23 => 25 | 25 => 3 | 3 => 3 | 32 => 152 | 22 => 25 | 0 => 0 | 44 => 181 | 46 => 59 | 4 => 4 | 36 => 175 | 35 => 174 | 41 => 139 | 5 => 5 | 9 => 9 | 53 => 189 | 57 => 193 | 63 => 196 | 64 => 197 | n => n,fun | n => n⟩
theorem laysSort:Go.Proofs.SlLaysM.n5 Tryz.prog laysSort_ren:={
 mixed:=by kernel_rfl,
 f5:=⟨Tryz.f58.name,by decide,Tryz.func58.trans (congrArg some (by kernel_rfl))⟩,
 f7:=⟨Tryz.f94.name,by decide,Tryz.func94.trans (congrArg some (by kernel_rfl))⟩,
 f8:=Tryz.func95.trans (congrArg some (by kernel_rfl)),
 f10:=⟨Tryz.f114.name,by decide,Tryz.func114.trans (congrArg some (by kernel_rfl))⟩,
 f11:=⟨Tryz.f115.name,by decide,Tryz.func115.trans (congrArg some (by kernel_rfl))⟩,
 f12:=⟨Tryz.f116.name,by decide,Tryz.func116.trans (congrArg some (by kernel_rfl))⟩,
 f13:=⟨Tryz.f117.name,by decide,Tryz.func117.trans (congrArg some (by kernel_rfl))⟩,
 f14:=⟨Tryz.f118.name,by decide,Tryz.func118.trans (congrArg some (by kernel_rfl))⟩,
 f15:=⟨Tryz.f119.name,by decide,Tryz.func119.trans (congrArg some (by kernel_rfl))⟩,
 f16:=⟨Tryz.f120.name,by decide,Tryz.func120.trans (congrArg some (by kernel_rfl))⟩,
 f17:=⟨Tryz.f121.name,by decide,Tryz.func121.trans (congrArg some (by kernel_rfl))⟩,
 f18:=⟨Tryz.f122.name,by decide,Tryz.func122.trans (congrArg some (by kernel_rfl))⟩,
 f19:=Tryz.func123.trans (congrArg some (by kernel_rfl)),
 f20:=Tryz.func124.trans (congrArg some (by kernel_rfl)),
 f30:=⟨Tryz.f130.name,by decide,Tryz.func130.trans (congrArg some (by kernel_rfl))⟩,
 f31:=Tryz.func131.trans (congrArg some (by kernel_rfl)),
 f32:=Tryz.func132.trans (congrArg some (by kernel_rfl)),
 f33:=⟨Tryz.f133.name,by decide,Tryz.func133.trans (congrArg some (by kernel_rfl))⟩,
 f34:=⟨Tryz.f134.name,by decide,Tryz.func134.trans (congrArg some (by kernel_rfl))⟩,
 f35:=⟨Tryz.f135.name,by decide,Tryz.func135.trans (congrArg some (by kernel_rfl))⟩,
 f40:=⟨Tryz.f136.name,by decide,Tryz.func136.trans (congrArg some (by kernel_rfl))⟩,
 t0:=Tryz.underlying0,
 a0:=Tryz.isAgg0,
 z0:=Tryz.sizeOf0,
 v0:=Tryz.zeroValue0,
 t3:=Tryz.underlying3,
 a3:=Tryz.isAgg3,
 z3:=Tryz.sizeOf3,
 v3:=Tryz.zeroValue3,
 t4:=Tryz.underlying4,
 a4:=Tryz.isAgg4,
 z4:=Tryz.sizeOf4,
 v4:=Tryz.zeroValue4,
 t5:=Tryz.underlying5,
 a5:=Tryz.isAgg5,
 z5:=Tryz.sizeOf5,
 v5:=Tryz.zeroValue5,
 t9:=Tryz.underlying9,
 a9:=Tryz.isAgg9,
 z9:=Tryz.sizeOf9,
 v9:=Tryz.zeroValue9,
 t22:=Tryz.underlying25,
 a22:=Tryz.isAgg25,
 z22:=Tryz.sizeOf25,
 v22:=Tryz.zeroValue25,
 t23:=Tryz.underlying25,
 a23:=Tryz.isAgg25,
 z23:=Tryz.sizeOf25,
 v23:=Tryz.zeroValue25,
 t25:=Tryz.underlying3,
 a25:=Tryz.isAgg3,
 z25:=Tryz.sizeOf3,
 v25:=Tryz.zeroValue3,
 t32:=Tryz.underlying152,
 a32:=Tryz.isAgg152,
 z32:=Tryz.sizeOf152,
 v32:=Tryz.zeroValue152,
 t35:=Tryz.underlying174,
 a35:=Tryz.isAgg174,
 z35:=Tryz.sizeOf174,
 v35:=Tryz.zeroValue174,
 t36:=Tryz.underlying175,
 a36:=Tryz.isAgg175,
 z36:=Tryz.sizeOf175,
 v36:=Tryz.zeroValue175,
 t41:=Tryz.underlying139,
 a41:=Tryz.isAgg139,
 z41:=Tryz.sizeOf139,
 v41:=Tryz.zeroValue139,
 t44:=Tryz.underlying181,
 a44:=Tryz.isAgg181,
 z44:=Tryz.sizeOf181,
 v44:=Tryz.zeroValue181,
 t46:=Tryz.underlying59,
 a46:=Tryz.isAgg59,
 z46:=Tryz.sizeOf59,
 v46:=Tryz.zeroValue59,
 t53:=Tryz.underlying189,
 a53:=Tryz.isAgg189,
 z53:=Tryz.sizeOf189,
 v53:=Tryz.zeroValue189,
 t57:=Tryz.underlying193,
 a57:=Tryz.isAgg193,
 z57:=Tryz.sizeOf193,
 v57:=Tryz.zeroValue193,
 t63:=Tryz.underlying196,
 a63:=Tryz.isAgg196,
 z63:=Tryz.sizeOf196,
 v63:=Tryz.zeroValue196,
 t64:=Tryz.underlying197,
 a64:=Tryz.isAgg197,
 z64:=Tryz.sizeOf197,
 v64:=Tryz.zeroValue197 }
end Go.Proofs.YtagpphelgghbpaaGreat

set_option linter.unusedSimpArgs false
set_option linter.unusedVariables false
namespace Go.Proofs.YtagpphelgghbpaaGreat
open Go.RowKit

set_option maxHeartbeats 1600000 in
theorem grow_any (n:Nat) (w:World) (hn:n ≤ 100000):Calls Tryz.prog 93 #[.slice none 0 0,.int .i64 n] w fun e w' => ∃ A c,e = .returned (.slice A 0 c) ∧ XOwns w' w.heap.size 3 1 A 0 c [] ∧ Below w.heap.size w w':=by
 rcases Nat.eq_zero_or_pos n with h0 | h0
 ·subst h0
  go_enter Tryz.func93,Tryz.ntmps93
  go_wp2
  go_ret
  exact ⟨none,0,rfl,XOwns.nil_ _ _ _ _,Below.refl _ _⟩
 ·obtain ⟨i0,hi,hz0,hz1,hz2⟩:=info_parts tinfo_ints
  have hold:(Builtin.firstCells i0.size 0 (.slice none 0 0)).run Tryz.prog w.drew = .ok ([]:List Value).toArray w.drew:=run_firstCells_none w.drew i0.size 0 0 0
  have hrz:∀ ty,(Builtin.append_ #[25,3] ty #[.slice none 0 0,.int .i64 n]).run Tryz.prog w = _:=fun ty =>
   Lib.run_append_grow_zeros w 25 3 ty 3 i0 (.int .i64 0) .i64 .i64 Tryz.underlying25 Tryz.underlying3 hi hz0 none 0 0 [] hold n h0 (by omega) (by omega) (by omega) (by rw [hz2];omega) (growslice_fits (by omega) (by rw [hz2];omega))
  rw [Nat.zero_add] at hrz
  have hG1:n ≤ grownCap w n 0 3:=grownCap_ge w _ _ _
  have hG2:grownCap w n 0 3 ≤ maxLen:=grownCap_le_maxLen w n 0 3 (by unfold maxLen;omega)
  generalize grownCap w n 0 3 = G at *
  have HG2:=Lib.hid hG2
  have hG3:G ≤ 9223372036854775807:=by unfold maxLen at hG2;omega
  have hn0:(0:Int) < n:=by omega
  clear hi hz0 hz1 hz2 hold hG2
  go_enter Tryz.func93,Tryz.ntmps93
  go_wp2_with (at_builtin;refine Lib.wpList_append_run _ rfl _ _ _ _ rfl _ _ rfl rfl _ _ (hrz _) ?_)
  all_goals go_ret
  all_goals refine ⟨some ⟨w.heap.size,0,none⟩,G,rfl,⟨⟨rfl,.inr ⟨w.heap.size,G,(Builtin.zeroCells (Value.int .i64 0).cells n ++ Builtin.zeroCells (Value.int .i64 0).cells (G - n)),rfl,Nat.le_refl _,?_,Nat.zero_le _,HG2.out,?_,rfl⟩⟩,fun h => by cases h⟩,(Below.refl _ _).drew.alloc (by simp) _⟩
  ·exact Blk.mk_ w.drew 3 _ _ rfl
  ·simp [Builtin.zeroCells,Value.cells]
   omega

set_option maxRecDepth 100000 in
set_option maxHeartbeats 1600000 in
theorem concat3_any (g:Nat) (t:TypeId) (A B C:Option Addr) (n m q c d e:Nat) (xs ys zs:List Int) (w:World) (hb:Blk w g t #[.slice A n c,.slice B m d,.slice C q e]) (hx:Reads w 1 A n (ics xs)) (hy:Reads w 1 B m (ics ys)) (hz:Reads w 1 C q (ics zs)) (hA:A = none → c = 0) (hB:B = none → d = 0) (hC:C = none → e = 0) (hn:n ≤ 1000) (hm:m ≤ 1000) (hq:q ≤ 1000) :
  Calls Tryz.prog 57 #[.slice (some ⟨g,0,none⟩) 3 3] w fun e w' => ∃ A' c',e = .returned (.slice A' (n + m + q) c') ∧ XOwns w' w.heap.size 3 1 A' (n + m + q) c' (ics (xs ++ ys ++ zs)) ∧ Below w.heap.size w w':=by
 have HB:=Lib.hid hb
 have HX:=Lib.hid hx
 have HY:=Lib.hid hy
 have HZ:=Lib.hid hz
 have HA:=Lib.hid hA
 have HBB:=Lib.hid hB
 have HCC:=Lib.hid hC
 have c0:=(hb.at_ 0).trans rfl
 have c1:=(hb.at_ 1).trans rfl
 have c2:=(hb.at_ 2).trans rfl
 have hbl:=hb.lt
 have hw1:IntKind.i64.wrap ((n:Int) + m) = (n:Int) + m:=IntWalk.i64_in _ (by omega)
 have hw3:IntKind.i64.wrap ((n:Int) + m + q) = (n:Int) + m + q:=IntWalk.i64_in _ (by omega)
 clear hx hy hz hA hB hC hb
 go_enter Tryz.func57,Tryz.ntmps57
 go_wp2
 go_loop [3,11] (fun s i => (i = .int .i64 0 ∧ s = .int .i64 0) ∨ (i = .int .i64 1 ∧ s = .int .i64 n) ∨ (i = .int .i64 2 ∧ s = .int .i64 ((n:Int) + m)) ∨ (i = .int .i64 3 ∧ s = .int .i64 ((n:Int) + m + q))) (fun _ i => 3 - (intOf i).toNat)
 case atStart => exact .inl ⟨rfl,rfl⟩
 case round =>
  have hn0:(0:Int) ≤ n:=by omega
  have hw2:IntKind.i64.wrap (n:Int) = n:=IntWalk.i64_in _ (by omega)
  rcases hrel with ⟨rfl,rfl⟩ | ⟨rfl,rfl⟩ | ⟨rfl,rfl⟩ | ⟨rfl,rfl⟩
  ·go_wp2
   go_round
   case rel => exact .inr (.inl ⟨rfl,rfl⟩)
   case measure => simp [intOf]
  ·have hnm:((n:Int) + m < 0) = False:=eq_false (by omega)
   go_wp2
   go_round
   case rel => exact .inr (.inr (.inl ⟨rfl,rfl⟩))
   case measure => simp [intOf]
  ·have hnm:((n:Int) + m + q < 0) = False:=eq_false (by omega)
   go_wp2
   go_round
   case rel => exact .inr (.inr (.inr ⟨rfl,rfl⟩))
   case measure => simp [intOf]
  ·go_wp2_with fail
   refine (grow_any (n + m + q) _ (by omega)).mono ?_
   rintro e w2 ⟨A2,c2',rfl,hO2,hB2⟩
   have HO2:=Lib.hid hO2
   have HBK:Hid (∀ W,Below w.heap.size w W → Blk W g t #[.slice A n c,.slice B m d,.slice C q _]):=Lib.hid fun W hb => HB.out.below hb hbl
   have HXX:Hid (∀ W,Below w.heap.size w W → Reads W 1 A n (ics xs)):=Lib.hid fun W hb => HX.out.below hb
   have HYY:Hid (∀ W,Below w.heap.size w W → Reads W 1 B m (ics ys)):=Lib.hid fun W hb => HY.out.below hb
   have HZZ:Hid (∀ W,Below w.heap.size w W → Reads W 1 C q (ics zs)):=Lib.hid fun W hb => HZ.out.below hb
   clear hO2 hw1 hw2 hw3 hn0 c0 c1 c2
   go_wp2
   go_loopw [6,27] (fun v i W => ∃ (A2:Option Addr) (c2:Nat),((i = .int .i64 0 ∧ v = .slice A2 0 c2 ∧ XOwns W w.heap.size 3 1 A2 0 c2 []) ∨ (i = .int .i64 1 ∧ v = .slice A2 n c2 ∧ XOwns W w.heap.size 3 1 A2 n c2 (ics xs)) ∨ (i = .int .i64 2 ∧ v = .slice A2 (n + m) c2 ∧ XOwns W w.heap.size 3 1 A2 (n + m) c2 (ics (xs ++ ys))) ∨ (i = .int .i64 3 ∧ v = .slice A2 (n + m + q) c2 ∧ XOwns W w.heap.size 3 1 A2 (n + m + q) c2 (ics (xs ++ ys ++ zs)))) ∧ Below w.heap.size w W) (fun _ i _ => 3 - (intOf i).toNat)
   case atStart => exact ⟨A2,c2',.inl ⟨rfl,rfl,HO2.out⟩,hB2⟩
   case round =>
    obtain ⟨A3,c3,⟨rfl,rfl,hO⟩ | ⟨rfl,rfl,hO⟩ | ⟨rfl,rfl,hO⟩ | ⟨rfl,rfl,hO⟩,hB⟩:=hrel
    ·have HO:=Lib.hid hO
     have hz:=hB.size
     have c0:=((HBK.out _ hB).at_ 0).trans rfl
     clear hO
     go_wp2_with (at_builtin;refine append_xr ?_ (.tmp 31) (.tmp 32) 25 ?_ w.heap.size 3 (.int .i64 0) 1 8 tinfo_ints Tryz.underlying25 rfl (by decide) A3 0 c3 [] ?_ HO.out A n c (ics xs) ?_ HA.out (HXX.out _ hB) (ics_one _) ?_ ?_ ?_ ?_;rfl;rfl;rfl;rfl;omega;omega;omega;intro A4 c4 w4 ho4 hb4;rw [Nat.zero_add] at ho4 ⊢)
     go_roundw
     case rel => exact ⟨A4,c4,.inr (.inl ⟨rfl,rfl,ho4⟩),hB.trans hb4⟩
     case measure => simp [intOf]
    ·have HO:=Lib.hid hO
     have hz:=hB.size
     have c1:=((HBK.out _ hB).at_ 1).trans rfl
     clear hO
     go_wp2_with (at_builtin;refine append_xr ?_ (.tmp 31) (.tmp 32) 25 ?_ w.heap.size 3 (.int .i64 0) 1 8 tinfo_ints Tryz.underlying25 rfl (by decide) A3 n c3 (ics xs) ?_ HO.out B m d (ics ys) ?_ HBB.out (HYY.out _ hB) (ics_one _) ?_ ?_ ?_ ?_;rfl;rfl;rfl;rfl;omega;omega;omega;intro A4 c4 w4 ho4 hb4)
     go_roundw
     case rel => exact ⟨A4,c4,.inr (.inr (.inl ⟨rfl,rfl,by rw [show ics (xs ++ ys) = ics xs ++ ics ys by simp [ics]];exact ho4⟩)),hB.trans hb4⟩
     case measure => simp [intOf]
    ·have HO:=Lib.hid hO
     have hz:=hB.size
     have c2:=((HBK.out _ hB).at_ 2).trans rfl
     clear hO
     go_wp2_with (at_builtin;refine append_xr ?_ (.tmp 31) (.tmp 32) 25 ?_ w.heap.size 3 (.int .i64 0) 1 8 tinfo_ints Tryz.underlying25 rfl (by decide) A3 (n + m) c3 (ics (xs ++ ys)) ?_ HO.out C q _ (ics zs) ?_ HCC.out (HZZ.out _ hB) (ics_one _) ?_ ?_ ?_ ?_;rfl;rfl;rfl;rfl;omega;omega;omega;intro A4 c4 w4 ho4 hb4)
     go_roundw
     case rel => exact ⟨A4,c4,.inr (.inr (.inr ⟨rfl,rfl,by rw [show ics (xs ++ ys ++ zs) = ics (xs ++ ys) ++ ics zs by simp [ics]];exact ho4⟩)),hB.trans hb4⟩
     case measure => simp [intOf]
    ·go_wp2
     go_ret
     exact ⟨A3,c3,rfl,hO,hB⟩

def zvs:List Value:=[.int .i64 0,.int .i64 0,.int .i64 0,.int .i64 0,.int .i64 0,.int .i64 0,.int .i64 0,.slice none 0 0,.slice none 0 0,.bool false,.bool false,.bool false,.int .i64 0,.int .i64 0]
set_option maxRecDepth 100000 in
theorem size_vseat:(Tryz.prog.info? 95).map (·.size) = some 14:=by decide +kernel
theorem player0 (w:World):Calls Tryz.prog 56 #[.int .i64 0] w fun e w' => e = .returned (.bool true) ∧ w = w':=by
 go_enter Tryz.func56,Tryz.ntmps56
 go_wp2
 go_ret
 exact ⟨rfl,rfl⟩
theorem player1 (w:World):Calls Tryz.prog 56 #[.int .i64 1] w fun e w' => e = .returned (.bool true) ∧ w = w':=by
 go_enter Tryz.func56,Tryz.ntmps56
 go_wp2
 go_ret
 exact ⟨rfl,rfl⟩

def obD (o:Ob):DataW Unit:=.agg [.lit (.int .i64 o.id),.lit (.int .i64 o.card),.lit (.int .i64 o.own),.lit (.int .i64 o.pow),.lit (.int .i64 o.tou),.lit (.int .i64 o.dam),.lit (.int .i64 o.cnt),.lit (.int .i64 o.pp),.lit (.int .i64 o.pt),.lit (.bool o.tap),.lit (.bool o.sick),.lit (.bool o.doom)]
theorem obD_inj {a b:Ob} (h:obD a = obD b):a = b:=by
 obtain ⟨a1,a2,a3,a4,a5,a6,a7,a8,a9,a10,a11,a12⟩:=a
 obtain ⟨b1,b2,b3,b4,b5,b6,b7,b8,b9,b10,b11,b12⟩:=b
 unfold obD at h
 simp only [DataW.agg.injEq,List.cons.injEq,DataW.lit.injEq,Lit.int.injEq,Lit.bool.injEq,true_and,and_true] at h
 obtain ⟨h1,h2,h3,h4,h5,h6,h7,h8,h9,h10,h11,h12⟩:=h
 subst h1 h2 h3 h4 h5 h6 h7 h8 h9 h10 h11 h12
 rfl
theorem cells_inj {a b:Ob} (h:(Value.agg a.cells.toArray) = .agg b.cells.toArray):a = b:=by
 obtain ⟨a1,a2,a3,a4,a5,a6,a7,a8,a9,a10,a11,a12⟩:=a
 obtain ⟨b1,b2,b3,b4,b5,b6,b7,b8,b9,b10,b11,b12⟩:=b
 have h0:[Value.int .i64 a1,.int .i64 a2,.int .i64 a3,.int .i64 a4,.int .i64 a5,.int .i64 a6,.int .i64 a7,.int .i64 a8,.int .i64 a9,.bool a10,.bool a11,.bool a12] = [Value.int .i64 b1,.int .i64 b2,.int .i64 b3,.int .i64 b4,.int .i64 b5,.int .i64 b6,.int .i64 b7,.int .i64 b8,.int .i64 b9,.bool b10,.bool b11,.bool b12]:=by
  injection h with h
  have:=congrArg Array.toList h
  exact this
 simp only [List.cons.injEq,Value.int.injEq,Value.bool.injEq,true_and,and_true] at h0
 obtain ⟨h1,h2,h3,h4,h5,h6,h7,h8,h9,h10,h11,h12⟩:=h0
 subst h1 h2 h3 h4 h5 h6 h7 h8 h9 h10 h11 h12
 rfl
open Classical in
noncomputable def robj (v:Value):Option (DataW Unit × List MemPlace):=if h:∃ o:Ob,v = .agg o.cells.toArray then some (obD h.choose,[]) else none
theorem robj_of (o:Ob):robj (.agg o.cells.toArray) = some (obD o,[]):=by
 unfold robj
 have h:∃ p:Ob,Value.agg o.cells.toArray = .agg p.cells.toArray:=⟨o,rfl⟩
 rw [dif_pos h,cells_inj h.choose_spec.symm]
theorem robj_inv {v:Value} {o:Ob} {ps:List MemPlace} (h:robj v = some (obD o,ps)):v = .agg o.cells.toArray:=by
 unfold robj at h
 split at h
 ·rename_i hx
  have h1:=hx.choose_spec
  simp only [Option.some.injEq,Prod.mk.injEq] at h
  rw [h1,obD_inj h.1]
 ·cases h
def ob0:Ob:=⟨0,0,0,0,0,0,0,0,0,false,false,false⟩
set_option maxRecDepth 100000 in
theorem zero_obj (w:World):(zeroValue 46).run Tryz.prog w = .ok (.agg ob0.cells.toArray) w:=by kernel_rfl
def MapO (w:World) (g n:Nat) (f:Int → Option Ob):Prop:=∃ D,MapR robj w g n (fun x => (f x).map obD) D
section
variable {w w':World} {g n:Nat} {f:Int → Option Ob}
theorem MapO.make (w:World):MapO (w.alloc (.map #[] 0)) w.heap.size 0 (fun _ => none):=⟨_,MapR.make w _⟩
theorem MapO.lt (h:MapO w g n f):g < w.heap.size:=h.choose_spec.lt
theorem MapO.below (h:MapO w g n f) (hb:Below w.heap.size w w'):MapO w' g n f:=⟨_,h.choose_spec.below hb⟩
theorem MapO.kept {row:Option Nat} (h:MapO w g n f) (hg:w.grownBy w' row) (hne:some g ≠ row):MapO w' g n f:=⟨_,h.choose_spec.kept hg hne⟩
theorem MapO.put (h:MapO w g n f) {x:Int} {o:Ob} (hx:wfI x) (hn:n < maxLen) :
  ∃ w',(Instr.mapUpdate 155 (.map (some g)) (.int .i64 x) (.agg o.cells.toArray)).run Tryz.prog w = .ok () w' ∧ MapO w' g (if (f x).isSome then n else n + 1) (putF f x o) ∧ w.grownBy w' (some g):=by
 obtain ⟨D,h⟩:=h
 obtain ⟨w',hrun,hm,hg⟩:=h.put Tryz.underlying155 hx (robj_of o) hn
 refine ⟨w',hrun,⟨D.put (.int .i64 x) (obD o),?_⟩,hg⟩
 have e:(fun y => (putF f x o y).map obD) = fun y => if y = x then some (obD o) else (f y).map obD:=by
  funext y
  unfold putF
  split <;> rfl
 rw [e]
 simpa using hm
theorem MapO.get (h:MapO w g n f) {x:Int} (hx:wfI x):(Instr.lookup 155 (.map (some g)) (.int .i64 x) false).run Tryz.prog w = .ok (.agg ((f x).getD ob0).cells.toArray) w:=by
 obtain ⟨D,h⟩:=h
 obtain ⟨v,ps,hrun,hv⟩:=h.get Tryz.underlying155 (zero_obj w) (robj_of ob0) hx
 rw [hrun]
 cases hf:f x with
 | none =>
  rw [hf] at hv
  rw [robj_inv (o:=ob0) hv]
  rfl
 | some o =>
  rw [hf] at hv
  rw [robj_inv (o:=o) hv]
  rfl
end
set_option maxRecDepth 100000 in
set_option maxHeartbeats 1600000 in
theorem allf_any (l:List Ob) (f:Int → Option Ob) (gM gB nM:Nat) (s:Sl) (ids:List Int) (w:World) (hM:MapO w gB nM f) (hbox:w.cell? ⟨gM,0,none⟩ = some (.map (some gB))) (hgM:gM < w.heap.size) (hf:∀ i ∈ ids,f i = some (obI l i)) (hl:LsR w s ids) (hn:ids.length ≤ 500) :
  Calls Tryz.prog 101 #[.slice s.A ids.length s.c,.pointer (some ⟨gM,0,none⟩)] w (SobEnd l ids w):=by
 obtain ⟨⟨IA,Ic⟩,hI⟩:∃ t,s = t:=⟨_,rfl⟩
 subst hI
 obtain ⟨ni,hni⟩:∃ n,ids.length = n:=⟨_,rfl⟩
 have HL:=Lib.hid hl.row
 have HW:=Lib.hid hl.wf
 simp only [hni] at HL hn ⊢
 have HNI:=Lib.hid hni
 have HM:=Lib.hid hM
 have HF:=Lib.hid hf
 have HBX:=Lib.hid hbox
 have HGM:=Lib.hid hgM
 clear hl hM hf hbox hni hgM
 go_enter Tryz.func101,Tryz.ntmps101
 go_wp2_with fail
 have HX0:Hid (XOwns w w.heap.size 46 12 none 0 0 (ocs ((ids.take 0).map (obI l)))):=Lib.hid (XOwns.nil_ _ _ _ _)
 go_loopw [4,9] (fun a i W => ∃ (k:Nat) (A:Option Addr) (c:Nat),k ≤ ni ∧ i = .int .i64 k ∧ a = .slice A k c ∧ Hid (XOwns W w.heap.size 46 12 A k c (ocs ((ids.take k).map (obI l)))) ∧ Hid (Below w.heap.size w W)) (fun _ i _ => ni - (intOf i).toNat)
 case atStart => exact ⟨0,none,0,Nat.zero_le _,rfl,rfl,HX0,Lib.hid (Below.refl _ _)⟩
 case round =>
  obtain ⟨k,A,c,hk,rfl,rfl,HX,HB⟩:=hrel
  clear HX0
  by_cases hkn:k < ni
  ·have hkn':(k:Int) < ni:=by omega
   obtain ⟨ad,rfl,hadl,c0⟩:=int_at (HL.out.below HB.out) hkn
   have hget:=ith_get (xs:=ids) (k:=k) (by rw [HNI.out];exact hkn)
   generalize ith ids k = x at *
   have HGET:=Lib.hid hget
   clear hget
   have hmem:=List.mem_of_getElem? HGET.out
   have cM:wr.cell? ⟨gM,0,none⟩ = some (.map (some gB)):=by rw [keep_at HB.out gM HGM.out];exact HBX.out
   have hlk:=(HM.out.below HB.out).get (x:=x) (HW.out x hmem)
   rw [HF.out x hmem] at hlk
   obtain ⟨p,hp⟩:∃ p,obI l x = p:=⟨_,rfl⟩
   rw [hp] at hlk
   simp only [Option.getD_some,Ob.cells] at hlk
   have HSP:=Lib.hid (show (ids.take (k + 1)).map (obI l) = (ids.take k).map (obI l) ++ [p] by rw [take_snoc HGET.out,List.map_append,List.map_cons,List.map_nil,hp])
   have HXO:=HX
   clear HX
   obtain ⟨L,hL⟩:∃ L,(ids.take k).map (obI l) = L:=⟨_,rfl⟩
   rw [hL] at HSP HXO
   clear hL hp hmem
   obtain ⟨w7,hw7⟩:∃ w7,wr.alloc (.cells #[.int .i64 p.id,.int .i64 p.card,.int .i64 p.own,.int .i64 p.pow,.int .i64 p.tou,.int .i64 p.dam,.int .i64 p.cnt,.int .i64 p.pp,.int .i64 p.pt,.bool p.tap,.bool p.sick,.bool p.doom] 46) = w7:=⟨_,rfl⟩
   have HBK:Hid (Blk w7 wr.heap.size 46 #[.int .i64 p.id,.int .i64 p.card,.int .i64 p.own,.int .i64 p.pow,.int .i64 p.tou,.int .i64 p.dam,.int .i64 p.cnt,.int .i64 p.pp,.int .i64 p.pt,.bool p.tap,.bool p.sick,.bool p.doom]):=Lib.hid (by rw [← hw7];exact Blk.mk_ wr _ _ _ rfl)
   have hal7:Below wr.heap.size wr w7:=by rw [← hw7];exact (Below.refl _ _).alloc (Nat.le_refl _) _
   have HB7:=Lib.hid (below_call HB.out hal7 HB.out.size)
   have HXO7:=Lib.hid (HXO.out.below hal7)
   clear hal7
   have hzb:w.heap.size ≤ w7.heap.size:=HB7.out.size
   go_wp2_with (at_builtin;refine append_xr (w:=w7) ?_ (.tmp 13) (.tmp 17) 22 ?_ w.heap.size 46 _ 12 80 tinfo_objs Tryz.underlying22 rfl (by decide) A k c (ocs L) ?_ HXO7.out (some ⟨wr.heap.size,0,none⟩) 1 1 (ocs [p]) ?_ (fun h => by cases h) (reads_block HBK.out 12 1 rfl) (one_ocs _) ?_ ?_ ?_ ?_;rfl;rfl;rfl;rfl;omega;omega;exact hzb;intro A8 c8 w8 ho8 hb8)
   have HB8:=Lib.hid (HB7.out.trans hb8)
   go_roundw
   case rel => exact ⟨k + 1,A8,c8,by omega,by go_num,rfl,Lib.hid (by rw [HSP.out];(have h:=ho8;rw [show ocs L ++ ocs [p] = ocs (L ++ [p]) by simp [ocs]] at h;exact h)),HB8⟩
   case measure => simp [intOf];omega
  ·have HKE:Hid (k = ni):=Lib.hid (by omega)
   clear hk
   go_wp2_with fail
   go_ret
   refine ⟨A,c,by rw [HNI.out,HKE.out];rfl,?_,HB.out⟩
   have h:=HX.out
   rw [List.take_of_length_le (by rw [HNI.out,HKE.out];exact Nat.le_refl _)] at h
   rw [HNI.out,← HKE.out]
   exact h
end Go.Proofs.YtagpphelgghbpaaGreat
