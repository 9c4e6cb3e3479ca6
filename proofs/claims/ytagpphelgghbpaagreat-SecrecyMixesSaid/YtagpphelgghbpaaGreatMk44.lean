/-
  Texts: OpenRows, Opb, Opd.
-/
import Derived.Test.YtagpphelgghbpaaGreatMk2
import Derived.ProofKit
import Derived.OpenShut
import Derived.Lib.SmallJoins
import Derived.Deep.Slices
import Derived.Deep.Fields
import Derived.Test.YtagpphelgghbpaaGreatMk3
set_option linter.unusedSimpArgs false
set_option linter.unusedVariables false
namespace Go.Proofs.YtagpphelgghbpaaGreat
open Go.Joins Go.ChangeShapes Go.WideShapes Go.ChangeAt Go.RowKit Go.Deep

theorem rows_of {α:Type} {P:Nat → α → Prop}:∀ n:Nat,(∀ i,i < n → ∃ o,P i o) → ∃ cs:List α,cs.length = n ∧ ∀ i o,cs[i]? = some o → P i o:=by
 intro n
 induction n with
 | zero => intro _;exact ⟨[],rfl,fun i o h => by simp at h⟩
 | succ n ih =>
  intro h
  obtain ⟨cs,h1,h2⟩:=ih (fun i hi => h i (by omega))
  obtain ⟨o,ho⟩:=h n (by omega)
  refine ⟨cs ++ [o],by simp [h1],fun i o' hi => ?_⟩
  rcases Nat.lt_or_ge i n with hlt | hge
  ·rw [List.getElem?_append_left (by omega)] at hi
   exact h2 i o' hi
  ·rw [List.getElem?_append_right (by omega)] at hi
   obtain rfl:i = n:=by
    rcases Nat.lt_or_ge (i - cs.length) 1 with h' | h'
    ·omega
    ·rw [List.getElem?_eq_none (by simpa using h')] at hi;cases hi
   rw [h1,Nat.sub_self] at hi
   injection hi with hi
   exact hi ▸ ho

theorem lt_of_cell {w:World} {a:Addr} {v:Value} (h:w.cell? a = some v):a.block < w.heap.size:=by
 rcases Nat.lt_or_ge a.block w.heap.size with h' | h'
 ·exact h'
 ·simp [World.cell?,Array.getElem?_eq_none h'] at h

section
variable {H:Type} {enc:TypeId × Value → H} {W:World} {base:Nat} {spare:Nat → Bool} {held:Bool}

theorem row_cells {P:Program} {fuel:Nat} {e:TypeId} {fs:Array Field} {cs:List Value} {x:DataW H × List MemPlace} (he:P.underlying e = some (.struct fs)) (hone:oneCellFields P fs = true) (hC:P.cellsOf e = fs.size)
  (h:DataW.trod enc P W base spare held fuel e cs = some x):cs.length = fs.size ∧ ∀ (j:Nat) (f:Field),fs[j]? = some f → ∃ (v:Value) (y:DataW H × List MemPlace) (n:Nat),cs[j]? = some v ∧ DataW.trod enc P W base spare held n f.type [v] = some y:=by
 obtain ⟨ys,n,_,_,hlen,hyl,hf⟩:=DataW.trod_struct he h
 refine ⟨hlen.trans hC,fun j f hj => ?_⟩
 have hjl:j < fs.size:=(Array.getElem?_eq_some_iff.1 hj).1
 have hcl:j < cs.length:=by omega
 obtain ⟨ho,hk⟩:=hone_of hone j f hj
 have h1:=hf j f hj
 rw [ho,hk,List.drop_eq_getElem_cons hcl] at h1
 refine ⟨cs[j],ys[j]'(by omega),n,List.getElem?_eq_getElem hcl,?_⟩
 rw [List.getElem?_eq_getElem (by omega)] at h1
 exact h1

theorem open_rows {P:Program} {t e:TypeId} {k:Nat} {α:Type} (cells:α → List Value) (Good:α → Prop) (ht:P.underlying t = some (.slice e)) (hk:P.cellsOf e = k) (hk0:0 < k) (hl:∀ r,(cells r).length = k)
  (dec:∀ fuel cs (x:DataW H × List MemPlace),DataW.trod enc P W base spare held fuel e cs = some x → ∃ r:α,cs = cells r ∧ Good r)
  {fuel:Nat} {cs:List Value} {x:DataW H × List MemPlace} (h:DataW.trod enc P W base spare held fuel t cs = some x) :
  ∃ (a:Option Addr) (len cap:Nat) (l:List α),cs = [.slice a len cap] ∧ RowR W k a len (l.map cells) ∧ (∀ r ∈ l,Good r) ∧ len ≤ cap ∧ (a = none → cap = 0) ∧ cap ≤ maxLen:=by
 rcases open_slice ht h with ⟨hcs,_⟩ | ⟨b,l,c,m,n,D,Pl,hcs,_,hlc,hm,hmm,_,hi⟩
 ·exact ⟨none,0,0,[],hcs,RowR.nil _ _,(fun _ h => by cases h),Nat.le_refl _,fun _ => rfl,Nat.zero_le _⟩
 ·have hlm:l ≤ m:=by rw [hmm];split <;> omega
  have hall:∀ i,i < l → ∃ r:α,(∀ j u,(cells r)[j]? = some u → W.cell? (b.add (i * k + j)) = some u) ∧ Good r:=by
   intro i hil
   obtain ⟨cs',hc,htr⟩:=hi i (by omega)
   rw [hk] at hc
   obtain ⟨r,hr,hg⟩:=dec _ _ _ htr
   obtain ⟨_,hcl,hat⟩:=World.cells?_some hc
   refine ⟨r,fun j u hu => ?_,hg⟩
   have hjk:j < k:=by
    rcases Nat.lt_or_ge j k with h' | h'
    ·exact h'
    ·rw [List.getElem?_eq_none (by rw [hl];exact h')] at hu;cases hu
   have:=hat j hjk
   rw [add_of_add] at this
   rw [this,hr]
   exact hu
  obtain ⟨rs,h1,h2⟩:=rows_of l hall
  refine ⟨some b,l,c,rs,hcs,⟨⟨?_,fun hn => ⟨b,rfl,?_,fun j u hu => ?_⟩⟩,?_,by rw [List.length_map,h1]⟩,fun r hr => ?_,hlc,(fun h => by cases h),hm⟩
  ·rw [List.length_flatten,List.map_map]
   have:(rs.map (List.length ∘ cells)) = List.replicate rs.length k:=by
    rw [List.eq_replicate_iff]
    refine ⟨by simp,fun q hq => ?_⟩
    obtain ⟨r,_,rfl⟩:=List.mem_map.1 hq
    exact hl r
   rw [this,List.sum_replicate_nat,h1]
  ·have h0:rs[0]? = some (rs[0]'(by omega)):=List.getElem?_eq_getElem (by omega)
   have hc0:(cells (rs[0]'(by omega)))[0]? = some ((cells (rs[0]'(by omega)))[0]'(by rw [hl];exact hk0)):=List.getElem?_eq_getElem _
   have:=(h2 0 _ h0).1 0 _ hc0
   have:=lt_of_cell this
   rwa [block_of_add] at this
  ·have hsum:((rs.map cells).flatten).length = l * k:=by
    rw [List.length_flatten,List.map_map]
    have:(rs.map (List.length ∘ cells)) = List.replicate rs.length k:=by
     rw [List.eq_replicate_iff]
     refine ⟨by simp,fun q hq => ?_⟩
     obtain ⟨r,_,rfl⟩:=List.mem_map.1 hq
     exact hl r
    rw [this,List.sum_replicate_nat,h1]
   have hj:j < l * k:=by
    rcases Nat.lt_or_ge j (l * k) with h' | h'
    ·exact h'
    ·rw [List.getElem?_eq_none (by rw [hsum];exact h')] at hu;cases hu
   have hjk:j / k < l:=Nat.div_lt_of_lt_mul (by rw [Nat.mul_comm];exact hj)
   have hg:rs[j / k]? = some (rs[j / k]'(by omega)):=List.getElem?_eq_getElem (by omega)
   have hx:=flatten_at (size:=k) (rs.map cells) (fun r hr => by obtain ⟨q,_,rfl⟩:=List.mem_map.1 hr;exact hl q) (j / k) _ (by rw [List.getElem?_map,hg];rfl) (j % k) (Nat.mod_lt _ hk0)
   have hjj:j / k * k + j % k = j:=by rw [Nat.mul_comm];exact Nat.div_add_mod j k
   rw [hjj,hu] at hx
   have:=(h2 _ _ hg).1 (j % k) u hx.symm
   rwa [hjj] at this
  ·intro r hr
   obtain ⟨q,_,rfl⟩:=List.mem_map.1 hr
   exact hl q
  ·obtain ⟨i,hi1,hi2⟩:=List.getElem_of_mem hr
   exact (h2 i r (by rw [List.getElem?_eq_getElem hi1,hi2])).2
end
end Go.Proofs.YtagpphelgghbpaaGreat

set_option linter.unusedSimpArgs false
set_option linter.unusedVariables false
namespace Go.Proofs.YtagpphelgghbpaaGreat
open Go.Joins Go.ChangeShapes Go.WideShapes Go.ChangeAt Go.RowKit Go.Deep

def Wt {H:Type} (P:Program) (t:TypeId) (d:DataW H):Prop:=∀ n ∈ d.weights P t,n ≤ reachBytes
theorem weights_each {H:Type} {P:Program}:∀ (ts:List TypeId) (ds:List (DataW H)) {j:Nat} {t:TypeId} {d:DataW H},ts[j]? = some t → ds[j]? = some d → ∀ n ∈ d.weights P t,n ∈ DataW.weightsEach P ts ds
 | [],_,j,_,_,h,_ => by simp at h
 | _ :: _,[],j,_,_,_,h => by simp at h
 | t0 :: ts,d0 :: ds,0,t,d,h1,h2 => by
  simp at h1 h2
  subst h1 h2
  intro n hn
  unfold DataW.weightsEach
  exact List.mem_append_left _ hn
 | t0 :: ts,d0 :: ds,j + 1,t,d,h1,h2 => by
  intro n hn
  unfold DataW.weightsEach
  exact List.mem_append_right _ (weights_each ts ds (by simpa using h1) (by simpa using h2) n hn)
theorem weights_all {H:Type} {P:Program} {e:TypeId}:∀ (ds:List (DataW H)) {j:Nat} {d:DataW H},ds[j]? = some d → ∀ n ∈ d.weights P e,n ∈ DataW.weightsAll P e ds
 | [],j,_,h => by simp at h
 | d0 :: ds,0,d,h2 => by
  simp at h2
  subst h2
  intro n hn
  unfold DataW.weightsAll
  exact List.mem_append_left _ hn
 | d0 :: ds,j + 1,d,h2 => by
  intro n hn
  unfold DataW.weightsAll
  exact List.mem_append_right _ (weights_all ds (by simpa using h2) n hn)
theorem drop_seg (cs:List Value) (o k r:Nat) (h:o + k = r):cs.drop o = (cs.drop o).take k ++ cs.drop r:=by
 subst h
 rw [← List.drop_drop,List.take_append_drop]
section
variable {H:Type} {enc:TypeId × Value → H} {W:World} {base:Nat} {spare:Nat → Bool} {held:Bool}

theorem field_w {P:Program} {fuel:Nat} {e:TypeId} {fs:Array Field} {cs:List Value} {x:DataW H × List MemPlace} (he:P.underlying e = some (.struct fs)) (h:DataW.trod enc P W base spare held fuel e cs = some x) (hw:Wt P e x.1) :
  cs.length = P.cellsOf e ∧ ∀ (j o k:Nat) (t:TypeId),(∃ f,fs[j]? = some f ∧ f.offset = o ∧ f.type = t) → P.cellsOf t = k → ∃ (y:DataW H × List MemPlace) (n:Nat),DataW.trod enc P W base spare held n t ((cs.drop o).take k) = some y ∧ Wt P t y.1:=by
 obtain ⟨ys,n,_,hx,hlen,hyl,hf⟩:=DataW.trod_struct he h
 refine ⟨hlen,fun j o k t ⟨f,hj,ho,ht⟩ hk => ?_⟩
 subst ho ht hk
 have hjl:j < fs.size:=(Array.getElem?_eq_some_iff.1 hj).1
 have h1:=hf j f hj
 have h2:ys[j]? = some (ys[j]'(by omega)):=List.getElem?_eq_getElem (by omega)
 rw [h2] at h1
 refine ⟨_,n,h1,fun m hm => hw m ?_⟩
 rw [hx]
 unfold DataW.weights
 rw [he]
 exact weights_each (j:=j) _ _ (by rw [List.getElem?_map];simp [hj]) (by rw [List.getElem?_map,h2];rfl) m hm
theorem elem_w {P:Program} {fuel n:Nat} {e t:TypeId} {cs:List Value} {x:DataW H × List MemPlace} (he:P.underlying e = some (.array n t)) (h:DataW.trod enc P W base spare held fuel e cs = some x) (hw:Wt P e x.1) :
  cs.length = P.cellsOf e ∧ ∀ (j o k:Nat),j < n → P.cellsOf t = k → j * k = o → ∃ (y:DataW H × List MemPlace) (m:Nat),DataW.trod enc P W base spare held m t ((cs.drop o).take k) = some y ∧ Wt P t y.1:=by
 obtain ⟨ys,m,_,hx,hlen,hyl,hf⟩:=DataW.trod_array he h
 refine ⟨hlen,fun j o k hj hk ho => ?_⟩
 subst hk ho
 have h1:=hf j hj
 have h2:ys[j]? = some (ys[j]'(by omega)):=List.getElem?_eq_getElem (by omega)
 rw [h2] at h1
 refine ⟨_,m,h1,fun q hq => hw q ?_⟩
 rw [hx]
 unfold DataW.weights
 rw [he]
 exact weights_all (j:=j) _ (by rw [List.getElem?_map,h2];rfl) q hq
theorem slice_w {P:Program} {fuel len cap:Nat} {e t:TypeId} {a:Option Addr} {x:DataW H × List MemPlace} (ht:P.underlying t = some (.slice e)) (h:DataW.trod enc P W base spare held fuel t [.slice a len cap] = some x) (hw:Wt P t x.1):len * P.bytesOf e ≤ reachBytes:=by
 rcases open_slice ht h with ⟨hcs,_⟩ | ⟨b,l,c,m,n,D,Pl,hcs,_,hlc,hm,hmm,hx,hi⟩
 ·injection hcs with hcs
  injection hcs with _ h0
  subst h0
  simp
 ·injection hcs with hcs
  injection hcs with _ h0
  subst h0
  have:=hw ((((List.range len).map D).length + ((List.range (m - len)).map fun j => D (len + j)).length) * P.bytesOf e) (by
   rw [hx]
   unfold DataW.weights
   rw [ht]
   exact List.mem_cons_self ..)
  refine Nat.le_trans (Nat.mul_le_mul_right _ ?_) this
  simp
theorem flat_map {α:Type} (f:α → List Value) (l:List α):(l.map f).flatten = l.flatMap f:=by rw [List.flatMap_def]
theorem flat_ints (l:List Int):(l.map fun i => [Value.int .i64 i]).flatten = ics l:=by
 induction l with
 | nil => rfl
 | cons x l ih => simp only [List.map_cons,List.flatten_cons,ih];rfl
theorem wf_i {x:Int} (h:(Lit.int .i64 x).wf = true):wfI x:=by
 have h2:=h
 simp [Lit.wf,IntKind.min,IntKind.max,IntKind.signed,IntKind.bits] at h2
 unfold wfI
 omega
theorem ml:maxLen = 9223372036854775807:=rfl
theorem cells_int:Tryz.prog.cellsOf 3 = 1:=by kernel_rfl
theorem cells_bool:Tryz.prog.cellsOf 4 = 1:=by kernel_rfl
theorem cells_phase:Tryz.prog.cellsOf 31 = 1:=by kernel_rfl
theorem cells_ints:Tryz.prog.cellsOf 25 = 1:=by kernel_rfl
theorem cells_objs:Tryz.prog.cellsOf 22 = 1:=by kernel_rfl
theorem cells_itms:Tryz.prog.cellsOf 29 = 1:=by kernel_rfl
theorem cells_blks:Tryz.prog.cellsOf 30 = 1:=by kernel_rfl
theorem cells_tgts:Tryz.prog.cellsOf 53 = 1:=by kernel_rfl
theorem cells_seat:Tryz.prog.cellsOf 27 = 14:=by kernel_rfl
theorem cells_seats:Tryz.prog.cellsOf 28 = 28:=by kernel_rfl
theorem bytes_int:Tryz.prog.bytesOf 3 = 8:=by kernel_rfl
theorem bytes_item:Tryz.prog.bytesOf 55 = 56:=by kernel_rfl
theorem cells_pl:Tryz.prog.cellsOf 24 = 4:=by kernel_rfl
theorem open_intc {fuel:Nat} {cs:List Value} {x:DataW H × List MemPlace} (h:DataW.trod enc Tryz.prog W base spare held fuel 3 cs = some x):∃ i:Int,cs = [.int .i64 i] ∧ wfI i:=by
 obtain ⟨i,e,_,hw⟩:=DataW.trod_int Tryz.underlying3 h
 exact ⟨i,e,wf_i hw⟩
theorem open_phase {fuel:Nat} {cs:List Value} {x:DataW H × List MemPlace} (h:DataW.trod enc Tryz.prog W base spare held fuel 31 cs = some x):∃ i:Int,cs = [.int .i64 i]:=by
 obtain ⟨i,e,_,_⟩:=DataW.trod_int Tryz.underlying31 h
 exact ⟨i,e⟩
theorem open_boolc {fuel:Nat} {cs:List Value} {x:DataW H × List MemPlace} (h:DataW.trod enc Tryz.prog W base spare held fuel 4 cs = some x):∃ i:Bool,cs = [.bool i]:=by
 obtain ⟨i,e,_⟩:=DataW.trod_bool Tryz.underlying4 h
 exact ⟨i,e⟩
theorem open_li {fuel:Nat} {cs:List Value} {x:DataW H × List MemPlace} (h:DataW.trod enc Tryz.prog W base spare held fuel 25 cs = some x) (hw:Wt Tryz.prog 25 x.1):∃ (s:Sl) (l:List Int),cs = [s.v l.length] ∧ LsR W s l ∧ l.length ≤ 17592186044416:=by
 obtain ⟨a,len,cap,l,e,hr,hg,hlc,ha,hc⟩:=open_rows (k:=1) (fun i:Int => [Value.int .i64 i]) wfI Tryz.underlying25 cells_int (by decide) (fun _ => rfl) (fun _ _ _ h => open_intc h) h
 subst e
 have hs:=slice_w Tryz.underlying25 h hw
 rw [bytes_int] at hs
 have hll:l.length = len:=by simpa using hr.2.2
 have hrr:=hr.1
 rw [flat_ints] at hrr
 unfold reachBytes at hs
 rw [ml] at hc
 exact ⟨⟨a,cap⟩,l,by rw [hll];rfl,⟨by rw [hll];exact hrr,⟨by rw [hll];exact hlc,ha,hc⟩,hg⟩,by omega⟩
theorem open_tg {fuel:Nat} {cs:List Value} {x:DataW H × List MemPlace} (h:DataW.trod enc Tryz.prog W base spare held fuel 124 cs = some x):∃ r:Tg,cs = r.cells ∧ True:=by
 obtain ⟨hl,hf⟩:=row_cells Tryz.underlying124 (by kernel_rfl) (by kernel_rfl) h
 obtain ⟨v0,y0,n0,c0,t0⟩:=hf 0 _ rfl
 obtain ⟨k0,e0,w0⟩:=open_intc t0
 obtain ⟨v1,y1,n1,c1,t1⟩:=hf 1 _ rfl
 obtain ⟨k1,e1,w1⟩:=open_intc t1
 simp only [List.cons.injEq,and_true] at e0 e1
 subst e0 e1
 refine ⟨⟨k0,k1⟩,?_,trivial⟩
 have hl2:cs.length = 2:=hl
 match cs,hl2,c0,c1 with
 | [a0,a1],_,c0,c1 =>
  simp at c0 c1
  subst c0 c1
  rfl
theorem open_bk {fuel:Nat} {cs:List Value} {x:DataW H × List MemPlace} (h:DataW.trod enc Tryz.prog W base spare held fuel 84 cs = some x):∃ r:Bk,cs = r.cells ∧ (wfI r.a ∧ wfI r.b):=by
 obtain ⟨hl,hf⟩:=row_cells Tryz.underlying84 (by kernel_rfl) (by kernel_rfl) h
 obtain ⟨v0,y0,n0,c0,t0⟩:=hf 0 _ rfl
 obtain ⟨k0,e0,w0⟩:=open_intc t0
 obtain ⟨v1,y1,n1,c1,t1⟩:=hf 1 _ rfl
 obtain ⟨k1,e1,w1⟩:=open_intc t1
 simp only [List.cons.injEq,and_true] at e0 e1
 subst e0 e1
 refine ⟨⟨k0,k1⟩,?_,⟨w1,w0⟩⟩
 have hl2:cs.length = 2:=hl
 match cs,hl2,c0,c1 with
 | [a0,a1],_,c0,c1 =>
  simp at c0 c1
  subst c0 c1
  rfl
theorem open_ob {fuel:Nat} {cs:List Value} {x:DataW H × List MemPlace} (h:DataW.trod enc Tryz.prog W base spare held fuel 46 cs = some x):∃ r:Ob,cs = r.cells ∧ wfO r:=by
 obtain ⟨hl,hf⟩:=row_cells Tryz.underlying46 (by kernel_rfl) (by kernel_rfl) h
 obtain ⟨v0,y0,n0,c0,t0⟩:=hf 0 _ rfl
 obtain ⟨k0,e0,w0⟩:=open_intc t0
 obtain ⟨v1,y1,n1,c1,t1⟩:=hf 1 _ rfl
 obtain ⟨k1,e1,w1⟩:=open_intc t1
 obtain ⟨v2,y2,n2,c2,t2⟩:=hf 2 _ rfl
 obtain ⟨k2,e2,w2⟩:=open_intc t2
 obtain ⟨v3,y3,n3,c3,t3⟩:=hf 3 _ rfl
 obtain ⟨k3,e3,w3⟩:=open_intc t3
 obtain ⟨v4,y4,n4,c4,t4⟩:=hf 4 _ rfl
 obtain ⟨k4,e4,w4⟩:=open_intc t4
 obtain ⟨v5,y5,n5,c5,t5⟩:=hf 5 _ rfl
 obtain ⟨k5,e5,w5⟩:=open_intc t5
 obtain ⟨v6,y6,n6,c6,t6⟩:=hf 6 _ rfl
 obtain ⟨k6,e6,w6⟩:=open_intc t6
 obtain ⟨v7,y7,n7,c7,t7⟩:=hf 7 _ rfl
 obtain ⟨k7,e7,w7⟩:=open_intc t7
 obtain ⟨v8,y8,n8,c8,t8⟩:=hf 8 _ rfl
 obtain ⟨k8,e8,w8⟩:=open_intc t8
 obtain ⟨v9,y9,n9,c9,t9⟩:=hf 9 _ rfl
 obtain ⟨k9,e9⟩:=open_boolc t9
 obtain ⟨v10,y10,n10,c10,t10⟩:=hf 10 _ rfl
 obtain ⟨k10,e10⟩:=open_boolc t10
 obtain ⟨v11,y11,n11,c11,t11⟩:=hf 11 _ rfl
 obtain ⟨k11,e11⟩:=open_boolc t11
 simp only [List.cons.injEq,and_true] at e0 e1 e2 e3 e4 e5 e6 e7 e8 e9 e10 e11
 subst e0 e1 e2 e3 e4 e5 e6 e7 e8 e9 e10 e11
 refine ⟨⟨k0,k1,k2,k3,k4,k5,k6,k7,k8,k9,k10,k11⟩,?_,⟨w0,w1,w2⟩⟩
 have hl2:cs.length = 12:=hl
 match cs,hl2,c0,c1,c2,c3,c4,c5,c6,c7,c8,c9,c10,c11 with
 | [a0,a1,a2,a3,a4,a5,a6,a7,a8,a9,a10,a11],_,c0,c1,c2,c3,c4,c5,c6,c7,c8,c9,c10,c11 =>
  simp at c0 c1 c2 c3 c4 c5 c6 c7 c8 c9 c10 c11
  subst c0 c1 c2 c3 c4 c5 c6 c7 c8 c9 c10 c11
  rfl
def ItG (W:World) (p:It × Sl):Prop:=wfX p.1 ∧ Reads W 2 p.2.A p.1.tgs.length (tcs p.1.tgs) ∧ p.2.ok p.1.tgs.length
theorem zip_self {α β:Type} (l:List (α × β)):(l.map (·.1)).zip (l.map (·.2)) = l:=by
 induction l with
 | nil => rfl
 | cons x l ih => simp [ih]
theorem open_pool {fuel:Nat} {cs:List Value} {x:DataW H × List MemPlace} (h:DataW.trod enc Tryz.prog W base spare held fuel 24 cs = some x) (hw:Wt Tryz.prog 24 x.1):∃ p0 p1 p2 p3:Int,cs = [.int .i64 p0,.int .i64 p1,.int .i64 p2,.int .i64 p3]:=by
 obtain ⟨hl,hf⟩:=elem_w Tryz.underlying24 h hw
 have hl4:cs.length = 4:=hl.trans cells_pl
 obtain ⟨y0,n0,t0,_⟩:=hf 0 0 1 (by decide) cells_int rfl
 obtain ⟨k0,e0,_⟩:=open_intc t0
 obtain ⟨y1,n1,t1,_⟩:=hf 1 1 1 (by decide) cells_int rfl
 obtain ⟨k1,e1,_⟩:=open_intc t1
 obtain ⟨y2,n2,t2,_⟩:=hf 2 2 1 (by decide) cells_int rfl
 obtain ⟨k2,e2,_⟩:=open_intc t2
 obtain ⟨y3,n3,t3,_⟩:=hf 3 3 1 (by decide) cells_int rfl
 obtain ⟨k3,e3,_⟩:=open_intc t3
 have key:=((drop_seg cs 0 1 1 rfl).trans (congrArg ((cs.drop 0).take 1 ++ ·) ((drop_seg cs 1 1 2 rfl).trans (congrArg ((cs.drop 1).take 1 ++ ·) ((drop_seg cs 2 1 3 rfl).trans (congrArg ((cs.drop 2).take 1 ++ ·) ((drop_seg cs 3 1 4 rfl).trans (congrArg ((cs.drop 3).take 1 ++ ·) (List.drop_eq_nil_of_le (Nat.le_of_eq hl4):cs.drop 4 = [])))))))))
 rw [e0,e1,e2,e3,List.drop_zero] at key
 exact ⟨k0,k1,k2,k3,key⟩
end
end Go.Proofs.YtagpphelgghbpaaGreat

set_option linter.unusedSimpArgs false
set_option linter.unusedVariables false
namespace Go.Proofs.YtagpphelgghbpaaGreat
open Go.Joins Go.ChangeShapes Go.WideShapes Go.ChangeAt Go.RowKit Go.Deep

theorem wf_u64 {x:Int} (h:(Lit.int .u64 x).wf = true):0 ≤ x ∧ x ≤ 18446744073709551615:=by
 simpa [Lit.wf,IntKind.min,IntKind.max,IntKind.signed,IntKind.bits] using h
theorem cells_u64:Tryz.prog.cellsOf 59 = 1:=by kernel_rfl
theorem flat_u64 (l:List Int):(l.map fun i => [Value.int .u64 i]).flatten = ucs l:=by
 induction l with
 | nil => rfl
 | cons a l ih => simpa [ucs] using ih
section
variable {H:Type} {enc:TypeId × Value → H} {W:World} {base:Nat} {spare:Nat → Bool} {held:Bool}
set_option maxRecDepth 100000 in
theorem open_u64 {fuel:Nat} {cs:List Value} {x:DataW H × List MemPlace} (h:DataW.trod enc Tryz.prog W base spare held fuel 59 cs = some x):∃ i:Int,cs = [.int .u64 i] ∧ (0 ≤ i ∧ i ≤ 18446744073709551615):=by
 obtain ⟨i,e,_,hw⟩:=DataW.trod_int Tryz.underlying59 h
 exact ⟨i,e,wf_u64 hw⟩
set_option maxRecDepth 100000 in
theorem open_draws {r:Reach} {b0:Nat} {v:Value} {d:DataW H} {p:List MemPlace} (hv:Value.okWide Tryz.prog W r b0 34 v) (h:DataW.Trod enc Tryz.prog W base spare held 34 v d p):∃ (A:Option Addr) (n c:Nat) (us:List Int),v = .slice A n c ∧ Reads W 1 A n (ucs us) ∧ (∀ i,i < us.length → 0 ≤ ith us i ∧ ith us i ≤ 18446744073709551615) ∧ (n ≤ c ∧ (A = none → c = 0) ∧ c ≤ 9223372036854775807):=by
 obtain ⟨A,n,c,rfl⟩:=okWide_slice Tryz.underlying34 hv
 obtain ⟨fuel,hf⟩:=h
 obtain ⟨a,len,cap,l,e,hr,hg,hlc,ha,hc⟩:=open_rows (k:=1) (fun i:Int => [Value.int .u64 i]) (fun i => 0 ≤ i ∧ i ≤ 18446744073709551615) Tryz.underlying34 cells_u64 (by decide) (fun _ => rfl) (fun _ _ _ h => open_u64 h) hf
 simp [Value.cells] at e
 obtain ⟨rfl,rfl,rfl⟩:=e
 have hrr:=hr.1
 rw [flat_u64] at hrr
 refine ⟨A,n,c,l,rfl,hrr,fun i hi => ?_,hlc,ha,hc⟩
 have hm:ith l i ∈ l:=by
  unfold ith
  rw [List.getD_eq_getElem?_getD,List.getElem?_eq_getElem hi]
  simp
 exact hg _ hm
end
end Go.Proofs.YtagpphelgghbpaaGreat
