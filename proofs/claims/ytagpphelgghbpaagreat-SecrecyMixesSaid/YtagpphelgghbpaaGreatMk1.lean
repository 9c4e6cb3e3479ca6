/-
  Texts: BPl, Mem, Law, Only, Own, Blk.
-/
import Derived.Test.YtagpphelgghbpaaGreatRows
import Derived.WalkKit
import Derived.WalkSpells
import Derived.WalkLawsBesides
import Derived.Deep.AppendLies
import Derived.Deep.Draws
import Derived.Lib.Hide
import Derived.Lib.Bytes
import Derived.Laws.AppendOwnNone
import Derived.Laws.Rows
namespace Go.Proofs.YtagpphelgghbpaaGreat

structure Ob where
 id:Int
 card:Int
 own:Int
 pow:Int
 tou:Int
 dam:Int
 cnt:Int
 pp:Int
 pt:Int
 tap:Bool
 sick:Bool
 doom:Bool
deriving DecidableEq,Inhabited
structure Tg where
 id:Int
 pl:Int
deriving DecidableEq,Inhabited
structure It where
 pl:Int
 id:Int
 card:Int
 trg:Int
 tgs:List Tg
deriving DecidableEq,Inhabited
structure Bk where
 b:Int
 a:Int
deriving DecidableEq,Inhabited
structure Se where
 life:Int
 p0:Int
 p1:Int
 p2:Int
 p3:Int
 lib:List Int
 hand:List Int
 fld:List Int
 grv:List Int
 emp:Bool
 ply:Bool
 kpt:Bool
 mul:Int
 act:Int
deriving DecidableEq,Inhabited
structure Bd where
 objs:List Ob
 s0:Se
 s1:Se
 stk:List It
 que:List It
 att:List Int
 blk:List Bk
 turn:Int
 actv:Int
 phs:Int
 hold:Int
 pas:Int
deriving DecidableEq,Inhabited

def inR (n a b:Int):Bool:=decide (a ≤ n) && decide (n ≤ b)
def obOk (o:Ob):Bool :=
 inR o.pow 0 99 && inR o.tou 0 99 && inR o.dam 0 99 && inR o.cnt 0 99 && inR o.pp 0 99 && inR o.pt 0 99 && (decide (o.card = -1) || (decide (o.pow = 0) && decide (o.tou = 0))) && inR o.id 1 500 && inR o.card (-1) 399 && inR o.own 0 1
def tgOk (t:Tg):Bool:=inR t.id 0 500 && inR t.pl 0 1 && (decide (t.id = 0) || decide (t.pl = 0))
def itOk (q:Bool) (x:It):Bool :=
 inR x.pl 0 1 && inR x.id 1 500 && inR x.card 0 399 && inR x.trg (-1) 1 && decide (x.tgs.length ≤ 4) && !(decide (0 ≤ x.trg) && decide (0 < x.tgs.length)) && !(q && decide (x.trg < 0)) && x.tgs.all tgOk
def seOk (s:Se):Bool:=inR s.life 0 9999 && inR s.p0 0 99 && inR s.p1 0 99 && inR s.p2 0 99 && inR s.p3 0 99 && inR s.mul 0 7 && inR s.act 0 255
def Se.ids (s:Se):List Int:=s.lib ++ s.hand ++ s.fld ++ s.grv
def onStk (b:Bd):List It:=b.stk.filter fun x => decide (x.trg < 0)
def Bd.plc (b:Bd):List (Int × Int):=b.s0.ids.map (fun i => (i,0)) ++ b.s1.ids.map (fun i => (i,1)) ++ (onStk b).map (fun x => (x.id,x.pl))
def incB:List Ob → Bool
 | [] => true
 | [_] => true
 | x :: y :: l => decide (x.id < y.id) && incB (y :: l)
def plcP (b:Bd):Prop:=(b.plc.map Prod.fst).Nodup ∧ (∀ o ∈ b.objs,obOk o = true ∧ (o.id,o.own) ∈ b.plc ∧ ∀ x ∈ onStk b,x.id = o.id → x.card = o.card) ∧ incB b.objs = true ∧ b.plc.length = b.objs.length
def plN (b:Bd) (p i:Int):Nat:=b.plc.count (i,p)
def plcR (b:Bd):Prop:=(∀ x ∈ onStk b,∃ o ∈ b.objs,o.id = x.id ∧ o.card = x.card) ∧ (∀ o ∈ b.objs,obOk o = true ∧ plN b o.own o.id = 1) ∧ incB b.objs = true ∧ b.plc.length = b.objs.length

theorem inc_pw:∀ l:List Ob,incB l = true → (l.map Ob.id).Pairwise (·< ·)
 | [],_ => List.Pairwise.nil
 | [x],_ => by simp
 | x :: y :: l,h => by
  simp only [incB,Bool.and_eq_true,decide_eq_true_eq] at h
  have ih:=inc_pw (y :: l) h.2
  rw [List.map_cons]
  refine List.pairwise_cons.2 ⟨fun z hz => ?_,ih⟩
  rw [List.map_cons] at hz ih
  rcases List.mem_cons.1 hz with rfl | hz
  ·exact h.1
  ·exact Int.lt_trans h.1 ((List.pairwise_cons.1 ih).1 z hz)
theorem nodup_of_lt {l:List Int} (h:l.Pairwise (·< ·)):l.Nodup:=h.imp fun h => by omega
theorem perm_of_sub {α:Type} [DecidableEq α]:∀ {l m:List α},l.Nodup → (∀ x ∈ l,x ∈ m) → m.length ≤ l.length → l.Perm m:=by
 intro l
 induction l with
 | nil => intro m _ _ hl;cases m with
  | nil => exact List.Perm.refl _
  | cons _ _ => simp at hl
 | cons x l ih =>
  intro m hn hs hl
  have hx:x ∈ m:=hs x (List.mem_cons_self ..)
  have hp:=List.perm_cons_erase hx
  have hn':=List.nodup_cons.1 hn
  have h1:l.Perm (m.erase x):=by
   refine ih hn'.2 (fun y hy => ?_) ?_
   ·have hy2:=hs y (List.mem_cons_of_mem _ hy)
    rcases List.mem_cons.1 (hp.mem_iff.1 hy2) with rfl | h
    ·exact absurd hy hn'.1
    ·exact h
   ·rw [List.length_erase_of_mem hx]
    simp at hl
    omega
  exact (h1.cons x).trans hp.symm
theorem plc_same (b:Bd):plcP b ↔ plcR b:=by
 constructor
 ·rintro ⟨h1,h2,h3,h4⟩
  have hid:=nodup_of_lt (inc_pw _ h3)
  have hL:(b.objs.map fun o => (o.id,o.own)).Nodup:=by
   have e:(b.objs.map fun o => (o.id,o.own)).map Prod.fst = b.objs.map Ob.id:=by rw [List.map_map];rfl
   rw [← e] at hid
   exact List.Pairwise.of_map Prod.fst (fun a b h e => h (by rw [e])) hid
  have hperm:=perm_of_sub hL (m:=b.plc) (fun x hx => by
   obtain ⟨o,ho,rfl⟩:=List.mem_map.1 hx
   exact (h2 o ho).2.1) (by rw [h4];simp)
  have hpn:b.plc.Nodup:=hperm.nodup_iff.1 hL
  refine ⟨fun x hx => ?_,fun o ho => ⟨(h2 o ho).1,?_⟩,h3,h4⟩
  ·have hm:(x.id,x.pl) ∈ b.plc:=by
    unfold Bd.plc
    exact List.mem_append_right _ (List.mem_map.2 ⟨x,hx,rfl⟩)
   obtain ⟨o,ho,he⟩:=List.mem_map.1 (hperm.mem_iff.2 hm)
   have he1:o.id = x.id:=congrArg Prod.fst he
   exact ⟨o,ho,he1,((h2 o ho).2.2 x hx he1.symm).symm⟩
  ·unfold plN
   rw [hpn.count,if_pos (h2 o ho).2.1]
 ·rintro ⟨h1,h2,h3,h4⟩
  have hid:=nodup_of_lt (inc_pw _ h3)
  have hL:(b.objs.map fun o => (o.id,o.own)).Nodup:=by
   have e:(b.objs.map fun o => (o.id,o.own)).map Prod.fst = b.objs.map Ob.id:=by rw [List.map_map];rfl
   rw [← e] at hid
   exact List.Pairwise.of_map Prod.fst (fun a b h e => h (by rw [e])) hid
  have hin:∀ o ∈ b.objs,(o.id,o.own) ∈ b.plc:=fun o ho => by
   have:=(h2 o ho).2
   exact List.count_pos_iff.1 (by unfold plN at this;omega)
  have hperm:=perm_of_sub hL (m:=b.plc) (fun x hx => by
   obtain ⟨o,ho,rfl⟩:=List.mem_map.1 hx
   exact hin o ho) (by rw [h4];simp)
  refine ⟨?_,fun o ho => ⟨(h2 o ho).1,hin o ho,fun x hx he => ?_⟩,h3,h4⟩
  ·have e:(b.objs.map fun o => (o.id,o.own)).map Prod.fst = b.objs.map Ob.id:=by rw [List.map_map];rfl
   rw [← e] at hid
   exact (hperm.map Prod.fst).nodup_iff.1 hid
  ·obtain ⟨o2,ho2,e1,e2⟩:=h1 x hx
   have hoo:o2 = o:=by
    have hpw:=inc_pw _ h3
    rw [List.pairwise_map] at hpw
    obtain ⟨i,hi,rfl⟩:=List.getElem_of_mem ho2
    obtain ⟨j,hj,rfl⟩:=List.getElem_of_mem ho
    rcases Nat.lt_trichotomy i j with h | h | h
    ·have:=List.pairwise_iff_getElem.1 hpw i j hi hj h;omega
    ·subst h;rfl
    ·have:=List.pairwise_iff_getElem.1 hpw j i hj hi h;omega
   rw [← hoo];exact e2.symm

/-! ### Attackers and blocks -/
def Bd.fld (b:Bd) (p:Int):List Int:=if p = 0 then b.s0.fld else b.s1.fld
def figP (b:Bd):Prop:=b.att.Nodup ∧ (∀ i ∈ b.att,i ∈ b.fld b.actv) ∧ (b.blk.map Bk.a).Nodup ∧ (b.blk.map Bk.b).Nodup ∧ ∀ x ∈ b.blk,x.a ∈ b.att ∧ x.b ∈ b.fld (1 - b.actv)
def figR (b:Bd):Prop:=(∀ i ∈ b.att,b.att.count i = 1 ∧ (b.fld b.actv).count i = 1) ∧ (∀ x ∈ b.blk,b.att.count x.a = 1 ∧ (b.fld (1 - b.actv)).count x.b = 1) ∧ (b.blk.map Bk.a).Nodup ∧ (b.blk.map Bk.b).Nodup
theorem count_one {l:List Int} (h:l.Nodup) {i:Int} (hi:i ∈ l):l.count i = 1:=by rw [h.count,if_pos hi]
theorem nodup_count {l:List Int} (h:∀ i ∈ l,l.count i = 1):l.Nodup:=by
 rw [List.nodup_iff_count]
 intro i
 by_cases hi:i ∈ l
 ·rw [h i hi];exact Nat.le_refl _
 ·rw [List.count_eq_zero.2 hi];omega
theorem fld_nodup {b:Bd} (h:(b.plc.map Prod.fst).Nodup) (p:Int):(b.fld p).Nodup:=by
 have h0:(b.s0.ids ++ b.s1.ids).Nodup:=by
  unfold Bd.plc at h
  rw [List.map_append,List.map_append] at h
  have h2:=(List.nodup_append.1 h).1
  rw [List.map_map,List.map_map] at h2
  have e0:(Prod.fst ∘ fun i:Int => (i,(0:Int))) = id:=rfl
  have e1:(Prod.fst ∘ fun i:Int => (i,(1:Int))) = id:=rfl
  rw [e0,e1,List.map_id,List.map_id] at h2
  exact h2
 have hs:∀ s:Se,s.ids.Nodup → s.fld.Nodup:=fun s hs => by
  unfold Se.ids at hs
  exact (List.nodup_append.1 (List.nodup_append.1 hs).1).2.1
 unfold Bd.fld
 split
 ·exact hs _ (List.nodup_append.1 h0).1
 ·exact hs _ (List.nodup_append.1 h0).2.1
theorem fig_same {b:Bd} (h:plcP b):figP b ↔ figR b:=by
 have hf:=fld_nodup h.1
 constructor
 ·rintro ⟨h1,h2,h3,h4,h5⟩
  exact ⟨fun i hi => ⟨count_one h1 hi,count_one (hf _) (h2 i hi)⟩,fun x hx => ⟨count_one h1 (h5 x hx).1,count_one (hf _) (h5 x hx).2⟩,h3,h4⟩
 ·rintro ⟨h1,h2,h3,h4⟩
  refine ⟨nodup_count fun i hi => (h1 i hi).1,fun i hi => ?_,h3,h4,fun x hx => ⟨?_,?_⟩⟩
  ·exact List.count_pos_iff.1 (by have:=(h1 i hi).2;omega)
  ·exact List.count_pos_iff.1 (by have:=(h2 x hx).1;omega)
  ·exact List.count_pos_iff.1 (by have:=(h2 x hx).2;omega)
def numOk (b:Bd):Bool:=inR b.actv 0 1 && inR b.turn 0 1000 && inR b.phs 0 10 && inR b.hold (-1) 1 && inR b.pas 0 2 && decide (b.objs.length ≤ 500) && decide (b.stk.length ≤ 200) && decide (b.que.length ≤ 200)
def Bd.Valid (b:Bd):Prop:=numOk b = true ∧ seOk b.s0 = true ∧ seOk b.s1 = true ∧ b.stk.all (itOk false) = true ∧ b.que.all (itOk true) = true ∧ plcP b ∧ figP b
theorem valid_ref (b:Bd):b.Valid ↔ numOk b = true ∧ seOk b.s0 = true ∧ seOk b.s1 = true ∧ b.stk.all (itOk false) = true ∧ b.que.all (itOk true) = true ∧ plcR b ∧ figR b:=by
 unfold Bd.Valid
 constructor
 ·rintro ⟨h1,h2,h3,h4,h5,h6,h7⟩
  exact ⟨h1,h2,h3,h4,h5,(plc_same b).1 h6,(fig_same h6).1 h7⟩
 ·rintro ⟨h1,h2,h3,h4,h5,h6,h7⟩
  have:=(plc_same b).2 h6
  exact ⟨h1,h2,h3,h4,h5,this,(fig_same this).2 h7⟩
end Go.Proofs.YtagpphelgghbpaaGreat

namespace Go.Proofs.YtagpphelgghbpaaGreat
open Go.RowKit

theorem block_of_add (a:Addr) (n:Nat):(a.add n).block = a.block:=by unfold Addr.add;split <;> rfl
theorem add_of_add (a:Addr) (i j:Nat):(a.add i).add j = a.add (i + j):=by
 unfold Addr.add
 by_cases hi:i = 0 <;> by_cases hj:j = 0 <;> simp [hi,hj,Nat.add_assoc]

def Reads (w:World) (size:Nat) (A:Option Addr) (n:Nat) (xs:List Value):Prop :=
 xs.length = n * size ∧ (0 < n → ∃ ad,A = some ad ∧ ad.block < w.heap.size ∧ ∀ j u,xs[j]? = some u → w.cell? (ad.add j) = some u)

section
variable {w w':World} {size n:Nat} {A:Option Addr} {xs:List Value}
theorem Reads.none_:Reads w size A 0 []:=⟨by simp,fun h => absurd h (by omega)⟩
theorem Reads.at_ {k:Nat} (h:Reads w 1 A n xs) (hk:k < n):∃ ad u,A = some ad ∧ ad.block < w.heap.size ∧ xs[k]? = some u ∧ w.cell? (ad.add k) = some u:=by
 obtain ⟨ad,e,hb,hc⟩:=h.2 (by omega)
 have hl:k < xs.length:=by have:=h.1;omega
 exact ⟨ad,xs[k],e,hb,List.getElem?_eq_getElem hl,hc k _ (List.getElem?_eq_getElem hl)⟩
theorem Reads.below (h:Reads w size A n xs) (hb:Below w.heap.size w w'):Reads w' size A n xs :=
 ⟨h.1,fun hn => by
  obtain ⟨ad,e,hbl,hc⟩:=h.2 hn
  exact ⟨ad,e,Nat.lt_of_lt_of_le hbl hb.size,fun j u hu => (hb.cell (by rw [block_of_add];exact hbl)).trans (hc j u hu)⟩⟩
theorem Reads.drew (h:Reads w size A n xs):Reads w.drew size A n xs:=h
theorem Reads.drewN (h:Reads w size A n xs) (k:Nat):Reads (w.drewN k) size A n xs:=h
theorem Reads.alloc (h:Reads w size A n xs) (o:Obj):Reads (w.alloc o) size A n xs:=h.below ((Below.refl _ _).alloc (Nat.le_refl _) _)
theorem Reads.head (h:Reads w size A n xs) {k:Nat} (hk:k ≤ n):Reads w size A k (xs.take (k * size)):=by
 refine ⟨by rw [List.length_take,h.1];exact Nat.min_eq_left (Nat.mul_le_mul_right _ hk),fun hn => ?_⟩
 obtain ⟨ad,e,hb,hc⟩:=h.2 (by omega)
 exact ⟨ad,e,hb,fun j u hu => hc j u (by
  rw [List.getElem?_take] at hu
  split at hu
  ·exact hu
  ·cases hu)⟩
theorem Reads.of_own {base:Nat} {e:TypeId} {c:Nat} (h:w.ownsRow base e size (.slice A n c) n xs):Reads w size A n xs:=by
 refine ⟨h.1,fun hn => ?_⟩
 obtain ⟨g,cap,hv,_,hlt⟩:=h.form hn
 have hA:A = some ⟨g,0,none⟩:=by injection hv
 subst hA
 exact ⟨_,rfl,hlt,h.cells (g:=g) rfl⟩
end

def bys (xs:List Int):List Value:=xs.map (Value.int .u8)
def IsBytes (xs:List Int):Prop:=∀ x ∈ xs,0 ≤ x ∧ x ≤ 255
def BReads (w:World) (A:Option Addr) (n:Nat) (xs:List Int):Prop:=Reads w 1 A n (bys xs) ∧ IsBytes xs
theorem BReads.length {w:World} {A:Option Addr} {n:Nat} {xs:List Int} (h:BReads w A n xs):xs.length = n:=by have:=h.1.1;simpa [bys] using this
def nth (xs:List Int) (k:Nat):Int:=xs.getD k 0
theorem BReads.at_ {w:World} {A:Option Addr} {n:Nat} {xs:List Int} (h:BReads w A n xs) {k:Nat} (hk:k < n) :
  ∃ ad,A = some ad ∧ w.cell? (ad.add k) = some (.int .u8 (nth xs k)) ∧ 0 ≤ nth xs k ∧ nth xs k ≤ 255:=by
 obtain ⟨ad,u,e,_,hx,hc⟩:=h.1.at_ hk
 have hl:=h.length
 have hg:nth xs k = xs[k]'(by omega):=by simp [nth,List.getD,List.getElem?_eq_getElem (show k < xs.length by omega)]
 have hu:u = .int .u8 (nth xs k):=by
  rw [bys,List.getElem?_map,List.getElem?_eq_getElem (by omega)] at hx
  simp only [Option.map_some,Option.some.injEq] at hx
  rw [hg,← hx]
 subst hu
 refine ⟨ad,e,hc,?_⟩
 rw [hg]
 exact h.2 _ (List.getElem_mem _)

theorem below_call {B:Nat} {a W w1:World} (h:Below B a W) (hb:Below W.heap.size W w1) (hB:B ≤ W.heap.size):Below B a w1:=h.trans (hb.mono hB)

theorem own_below {w w':World} {base:Nat} {e:TypeId} {size:Nat} {v:Value} {n:Nat} {xs:List Value} (h:w.ownsRow base e size v n xs) (hb:Below w.heap.size w w'):w'.ownsRow base e size v n xs :=
 h.kept (row:=none) ⟨hb.os,hb.tape,hb.output,hb.size,fun i hi _ => hb.block i hi⟩ (by
  rcases hv:v.ownBlock with _ | g
  ·exact .inl rfl
  ·exact .inr (by simp))

theorem wpList_append_reads {P:Program} (w:World) {ops:Array Oper} {rest:List Oper} {o:Oper} {a:Act} {Q:Exit → Act → World → Prop} (hgd:o.guard = none) (s x:Operand) (t:TypeId)
  (ho:o.op = .call { callee:=.builtin .append,args:=#[s,x],argTypes:=#[t,t] })
  (base:Nat) (e:TypeId) (i:TypeInfo) (z:Value) (size bytes:Nat) (ht:P.underlying t = some (.slice e)) (hi:P.info? e = some i) (hz:i.zero = some z)
  (hsize:i.size = size) (hby:i.bytes = bytes) (hzs:z.cells.size = size) (hsz:0 < size)
  (v:Value) (n:Nat) (xs:List Value) (hs:a.eval s = v) (hown:w.ownsRow base e size v n xs)
  (A:Option Addr) (m c:Nat) (news:List Value) (hx:a.eval x = .slice A m c) (hA:A = none → c = 0) (hr:Reads w size A m news) (h1:∀ u ∈ news,u.oneCell' = true)
  (h63:n + m ≤ maxLen) (hbytes:(n + m) * bytes ≤ 140737488355328) (hbase:base ≤ w.heap.size)
  (h:∀ v' w',w'.ownsRow base e size v' (n + m) (xs ++ news) → w.grownBy w' v.ownBlock → (v' = .slice none 0 0 ↔ v = .slice none 0 0 ∧ m = 0) → wpList P ops Q rest (a.put o.dst v') w'):wpList P ops Q (o :: rest) a w:=by
 cases A with
 | none =>
  have hc:=hA rfl
  subst hc
  have hm:m = 0:=by
   rcases Nat.eq_zero_or_pos m with h0 | h0
   ·exact h0
   ·obtain ⟨ad,e,_⟩:=hr.2 h0
    cases e
  subst hm
  have hn:news = []:=List.eq_nil_of_length_eq_zero (by rw [hr.1];simp)
  subst hn
  refine wpList_append_own_none hgd s x t ho base e i size ht hi v n xs hs hown hx ?_
  exact h v w (by simpa using hown) ⟨rfl,rfl,rfl,Nat.le_refl _,fun _ _ _ => rfl⟩ (by simp)
 | some ad =>
  refine wpList_append_own w hgd s x t ho base e i z size bytes ht hi hz hsize hby hzs hsz v n xs hs hown ad m c news hx hr.1 ?_ h1 h63 hbytes hbase h
  intro j u hj
  have hm:0 < m:=by
   rcases Nat.eq_zero_or_pos m with h0 | h0
   ·subst h0
    have hn:news = []:=List.eq_nil_of_length_eq_zero (by rw [hr.1];simp)
    subst hn
    simp at hj
   ·exact h0
  obtain ⟨ad',e,_,hc⟩:=hr.2 hm
  injection e with e
  subst e
  exact hc j u hj

theorem reads_lit (w:World) (cs:Array Value) (e:TypeId):Reads (w.alloc (.cells cs e)) 1 (some ⟨w.heap.size,0,none⟩) cs.size cs.toList:=by
 refine ⟨by simp,fun _ => ⟨_,rfl,by simp,fun j u hj => ?_⟩⟩
 have hb:(w.alloc (.cells cs e)).heap[w.heap.size]? = some (.cells cs e (0,0)):=by
  show (w.heap.push _)[w.heap.size]? = _
  simp
 exact World.news_of_block hb j u hj

theorem bys_one (xs:List Int):∀ u ∈ bys xs,u.oneCell' = true:=by
 intro u hu
 obtain ⟨x,_,rfl⟩:=List.mem_map.1 hu
 rfl

theorem convert_bytes {P:Program} {w:World} {A:Option Addr} {n:Nat} {xs:List Int} (h:BReads w A n xs) (cap:Nat) (src e:TypeId) (hs:P.underlying src = some (.slice e)) (he:P.underlying e = some (.int .u8)) :
  ∀ dst,P.underlying dst = some .string → (convert src dst (.slice A n cap)).run P w = .ok (.string (strOfNums xs)) w:=by
 intro dst hd
 cases A with
 | none =>
  have hl:=h.length
  rw [run_convert_bytes_nil w src e hs he n cap dst hd]
  have hn:n = 0:=by
   rcases Nat.eq_zero_or_pos n with h0 | h0
   ·exact h0
   ·obtain ⟨ad,e,_⟩:=h.1.2 h0
    cases e
  have hx:xs = []:=List.eq_nil_of_length_eq_zero (by omega)
  subst hx
  rfl
 | some ad =>
  have hl:(loadCells ad n).run P w = .ok (xs.map (Value.int .u8)).toArray w:=by
   have:=run_loadCells_list (P:=P) w ad (xs.map (Value.int .u8)) (fun j v hj => by
    have hn:0 < n:=by
     have:=h.length
     rcases Nat.lt_or_ge j (xs.map (Value.int .u8)).length with h0 | h0
     ·rw [List.length_map] at h0;omega
     ·rw [List.getElem?_eq_none h0] at hj;cases hj
    obtain ⟨ad',e,_,hc⟩:=h.1.2 hn
    injection e with e
    subst e
    exact hc j v hj)
   simpa [h.length] using this
  rw [run_convert_bytes_string w src dst e _ n cap hs he hd,run_bytesToString w _ n cap xs hl,foldl_push_bytes]
  simp [strOfNums,ByteArray.empty,ByteArray.emptyWithCapacity]
  rfl

theorem BReads.below {w w':World} {A:Option Addr} {n:Nat} {xs:List Int} (h:BReads w A n xs) (hb:Below w.heap.size w w'):BReads w' A n xs:=⟨h.1.below hb,h.2⟩
theorem BReads.alloc {w:World} {A:Option Addr} {n:Nat} {xs:List Int} (h:BReads w A n xs) (o:Obj):BReads (w.alloc o) A n xs:=⟨h.1.alloc o,h.2⟩
theorem BReads.drew {w:World} {A:Option Addr} {n:Nat} {xs:List Int} (h:BReads w A n xs):BReads w.drew A n xs:=h
theorem BReads.drewN {w:World} {A:Option Addr} {n:Nat} {xs:List Int} (h:BReads w A n xs) (k:Nat):BReads (w.drewN k) A n xs:=h

def BOwns (w:World) (base:Nat) (e:TypeId) (A:Option Addr) (n cap:Nat) (xs:List Int):Prop :=
 w.ownsRow base e 1 (.slice A n cap) n (bys xs) ∧ IsBytes xs ∧ (A = none → cap = 0)
section
variable {w w':World} {base:Nat} {e:TypeId} {A:Option Addr} {n cap:Nat} {xs:List Int}
theorem BOwns.length (h:BOwns w base e A n cap xs):xs.length = n:=by have:=h.1.1;simpa [bys] using this
theorem BOwns.reads (h:BOwns w base e A n cap xs):BReads w A n xs:=⟨Reads.of_own h.1,h.2.1⟩
theorem BOwns.below (h:BOwns w base e A n cap xs) (hb:Below w.heap.size w w'):BOwns w' base e A n cap xs:=⟨own_below h.1 hb,h.2⟩
theorem BOwns.alloc (h:BOwns w base e A n cap xs) (o:Obj):BOwns (w.alloc o) base e A n cap xs:=⟨h.1.alloc o,h.2⟩
theorem BOwns.drew (h:BOwns w base e A n cap xs):BOwns w.drew base e A n cap xs:=⟨h.1,h.2⟩
theorem BOwns.nil (w:World) (base:Nat) (e:TypeId):BOwns w base e none 0 0 []:=⟨World.ownsRow_nil _ _ _ _,(fun _ h => by cases h),fun _ => rfl⟩
theorem BOwns.more {base':Nat} (h:BOwns w base e A n cap xs) (hb:base' ≤ base):BOwns w base' e A n cap xs:=by
 refine ⟨⟨h.1.1,?_⟩,h.2⟩
 rcases h.1.2 with h0 | ⟨g,c,cur,h1,h2,h3⟩
 ·exact .inl h0
 ·exact .inr ⟨g,c,cur,h1,by omega,h3⟩
end
theorem BOwns.lit (w:World) (base:Nat) (e:TypeId) (xs:List Int) (g n:Nat) (hx:IsBytes xs) (hg:w.heap.size = g) (hn:xs.length = n) (hb:base ≤ g) (hl:n ≤ 1000000) :
  BOwns (w.alloc (.cells (bys xs).toArray e)) base e (some ⟨g,0,none⟩) n n xs:=by
 subst hg hn
 refine ⟨?_,hx,fun h => by cases h⟩
 have:=World.ownsRow_lit (base:=base) (e:=e) (size:=1) w (bys xs).toArray xs.length hb (by unfold maxLen;omega) (by simp [bys])
 simpa using this
theorem BReads.lit (w:World) (e:TypeId) (xs:List Int) (g n:Nat) (hx:IsBytes xs) (hg:w.heap.size = g) (hn:xs.length = n):BReads (w.alloc (.cells (bys xs).toArray e)) (some ⟨g,0,none⟩) n xs:=by
 subst hg hn
 have h:=reads_lit w (bys xs).toArray e
 simp [bys] at h
 exact ⟨by simpa [bys] using h,hx⟩

theorem str_inj {xs ys:List Int} (hx:IsBytes xs) (hy:IsBytes ys):((strOfNums xs).toList == (strOfNums ys).toList) = (xs == ys):=by
 rw [Bool.eq_iff_iff,beq_iff_eq,beq_iff_eq,Lib.strOfNums_toList,Lib.strOfNums_toList]
 refine ⟨fun h => ?_,fun h => by rw [h]⟩
 induction xs generalizing ys with
 | nil => cases ys with
  | nil => rfl
  | cons y ys => cases h
 | cons x xs ih => cases ys with
  | nil => cases h
  | cons y ys =>
   simp only [Lib.bytesOf,List.map_cons,List.cons.injEq] at h
   have b1:=hx x (List.mem_cons_self ..)
   have b2:=hy y (List.mem_cons_self ..)
   have e1:x = y:=by
    have h1:=congrArg UInt8.toNat h.1
    simp only [UInt8.toNat_ofNat'] at h1
    omega
   rw [e1,ih (fun z hz => hx z (List.mem_cons_of_mem _ hz)) (fun z hz => hy z (List.mem_cons_of_mem _ hz)) h.2]

theorem keep_at {B:Nat} {W w1:World} (hb:Below B W w1) (b:Nat) (h:b < B):∀ o,w1.cell? ⟨b,o,none⟩ = W.cell? ⟨b,o,none⟩:=fun o => hb.cell (p:=⟨b,o,none⟩) h

section
variable {a w w':World} {row:Option Nat} {g:Nat}
theorem only_refl (w:World) (row:Option Nat):w.grownBy w row:=⟨rfl,rfl,rfl,Nat.le_refl _,fun _ _ _ => rfl⟩
theorem only_setCell (h:a.grownBy w (some g)) {p:Addr} (hp:p.block = g ∨ a.heap.size ≤ p.block) (u:Value):a.grownBy (w.setCell p u) (some g) :=
 ⟨h.os,h.tape,h.output,by simpa [World.setCell] using h.size,fun i hi hne => (Below.heap_setCell w p u i (by
  rintro rfl
  rcases hp with hp | hp
  ·exact hne (by rw [hp])
  ·omega)).trans (h.block i hi hne)⟩
theorem only_cell (h:a.grownBy w (some g)) (b:Nat) (hb:b < a.heap.size) (hne:b ≠ g):∀ o,w.cell? ⟨b,o,none⟩ = a.cell? ⟨b,o,none⟩:=fun o =>
 World.cell?_of_block (h.block b hb (fun e => hne (by injection e)))
theorem BOwns.only {base:Nat} {e:TypeId} {A:Option Addr} {n cap:Nat} {xs:List Int} (h:BOwns a base e A n cap xs) (ho:a.grownBy w (some g)) (hg:g < base):BOwns w base e A n cap xs:=by
 refine ⟨h.1.kept ho ?_,h.2⟩
 rcases hv:(Value.slice A n cap).ownBlock with _ | b
 ·exact .inl rfl
 ·refine .inr (fun e => ?_)
  injection e with e
  have:=(h.1.lt b hv).1
  omega
theorem BReads.only {A:Option Addr} {n:Nat} {xs:List Int} (h:BReads a A n xs) (ho:a.grownBy w (some g)) (hg:∀ ad,A = some ad → ad.block ≠ g):BReads w A n xs:=by
 refine ⟨⟨h.1.1,fun hn => ?_⟩,h.2⟩
 obtain ⟨ad,e,hb,hc⟩:=h.1.2 hn
 refine ⟨ad,e,Nat.lt_of_lt_of_le hb ho.size,fun j u hu => ?_⟩
 rw [← hc j u hu]
 refine World.cell?_of_block (ho.block _ (by rw [block_of_add];exact hb) (fun e' => ?_))
 injection e' with e'
 rw [block_of_add] at e'
 exact hg ad e e'
end

theorem BOwns.head {w:World} {base:Nat} {e:TypeId} {A:Option Addr} {n cap:Nat} {xs:List Int} (h:BOwns w base e A n cap xs) (hn:0 < n) :
  ∃ g,A = some ⟨g,0,none⟩ ∧ base ≤ g ∧ g < w.heap.size:=by
 obtain ⟨g,c,hv,h1,h2⟩:=h.1.form hn
 injection hv with hv
 exact ⟨g,hv,h1,h2⟩
theorem bys_set (xs:List Int) (j:Nat) (u:Int):(bys xs).set j (.int .u8 u) = bys (xs.set j u):=by simp [bys]
theorem BOwns.stored {w:World} {base:Nat} {e:TypeId} {g n cap:Nat} {xs:List Int} (h:BOwns w base e (some ⟨g,0,none⟩) n cap xs) {j:Nat} (u:Int) (_hj:j < n) (hu:0 ≤ u ∧ u ≤ 255) :
  BOwns (w.setCell ⟨g,j,none⟩ (.int .u8 u)) base e (some ⟨g,0,none⟩) n cap (xs.set j u):=by
 have hl:=h.length
 refine ⟨?_,fun z hz => ?_,h.2.2⟩
 ·rw [← bys_set]
  exact (h.1.stored j (.int .u8 u)).1
 ·rcases List.mem_or_eq_of_mem_set hz with hz | rfl
  ·exact h.2.1 z hz
  ·exact hu

def blkOf (A:Option Addr):Option Nat:=A.map (·.block)
theorem blkOf_own (A:Option Addr) (n c:Nat):(Value.slice A n c).ownBlock = blkOf A:=by cases A <;> rfl
def sameOrNew (w:World) (A A':Option Addr):Prop:=∀ g,blkOf A' = some g → blkOf A = some g ∨ w.heap.size ≤ g
theorem sameOrNew.refl (w:World) (A:Option Addr):sameOrNew w A A:=fun _ h => .inl h
theorem sameOrNew.trans {w w1:World} {A B C:Option Addr} (h:sameOrNew w A B) (h':sameOrNew w1 B C) (hz:w.heap.size ≤ w1.heap.size):sameOrNew w A C:=fun g hg => by
 rcases h' g hg with h1 | h1
 ·exact h g h1
 ·exact .inr (by omega)
theorem grown_below {B:Nat} {a b:World} {A:Option Addr} (h:a.grownBy b (blkOf A)) (hB:B ≤ a.heap.size) (hg:∀ g,blkOf A = some g → B ≤ g):Below B a b:=(Below.refl _ _).grown h hB hg
theorem Reads.grown {w w':World} {size n:Nat} {A:Option Addr} {xs:List Value} {r:Option Nat} (h:Reads w size A n xs) (hg:w.grownBy w' r) (hne:0 < n → blkOf A ≠ r):Reads w' size A n xs :=
 ⟨h.1,fun hn => by
  obtain ⟨ad,rfl,hb,hc⟩:=h.2 hn
  refine ⟨ad,rfl,Nat.lt_of_lt_of_le hb hg.size,fun j u hu => (World.cell?_of_block (hg.block _ (by rw [block_of_add];exact hb) ?_)).trans (hc j u hu)⟩
  rw [block_of_add]
  exact hne hn⟩
theorem BReads.grown {w w':World} {n:Nat} {A:Option Addr} {xs:List Int} {r:Option Nat} (h:BReads w A n xs) (hg:w.grownBy w' r) (hne:0 < n → blkOf A ≠ r):BReads w' A n xs:=⟨h.1.grown hg hne,h.2⟩
theorem BOwns.grown {w w':World} {base:Nat} {e:TypeId} {A:Option Addr} {n cap:Nat} {xs:List Int} {r:Option Nat} (h:BOwns w base e A n cap xs) (hg:w.grownBy w' r) (hne:blkOf A = none ∨ blkOf A ≠ r):BOwns w' base e A n cap xs :=
 ⟨h.1.kept hg (by rw [blkOf_own];exact hne),h.2⟩

theorem append_bytes_at {P:Program} (w:World) {ops:Array Oper} {rest:List Oper} {o:Oper} {a:Act} {Q:Exit → Act → World → Prop} (hgd:o.guard = none) (s x:Operand) (t:TypeId)
  (ho:o.op = .call { callee:=.builtin .append,args:=#[s,x],argTypes:=#[t,t] })
  (base:Nat) (e:TypeId) (hrow:(P.info? e).map (fun i => (i.zero,i.size,i.bytes)) = some (some (.int .u8 0),1,1)) (ht:P.underlying t = some (.slice e))
  (A:Option Addr) (n cap:Nat) (xs:List Int) (hs:a.eval s = .slice A n cap) (hown:BOwns w base e A n cap xs)
  (A':Option Addr) (m c:Nat) (ys:List Int) (hx:a.eval x = .slice A' m c) (hr:BReads w A' m ys) (hm:0 < m)
  (hbd:n + m ≤ 140737488355328) (hbase:base ≤ w.heap.size) (H:Nat) (hH:w.heap.size = H)
  (h:∀ g cap2 w',BOwns w' base e (some ⟨g,0,none⟩) (n + m) cap2 (xs ++ ys) → w.grownBy w' (blkOf A) → (blkOf A = some g ∨ g = H) → g < w'.heap.size → wpList P ops Q rest (a.put o.dst (.slice (some ⟨g,0,none⟩) (n + m) cap2)) w'):wpList P ops Q (o :: rest) a w:=by
 obtain ⟨i0,hi,hz0,hz1,hz2⟩:=info_parts hrow
 obtain ⟨ad,rfl,hb,hc⟩:=hr.1.2 hm
 refine wpList_append_lies w hgd s x t ho base e i0 (.int .u8 0) 1 1 ht hi hz0 hz1 hz2 rfl (by decide) _ n (bys xs) hs hown.1 ad m c (bys ys) hx hr.1.1 hc (bys_one _) hm (by unfold maxLen;omega) (by omega) hbase H hH ?_
 intro g cap2 w' ho' hg hiff hlt
 rw [blkOf_own] at hg hiff
 have hm:bys xs ++ bys ys = bys (xs ++ ys):=by simp [bys]
 rw [hm] at ho'
 exact h g cap2 w' ⟨ho',(fun z hz => by
  rcases List.mem_append.1 hz with hz | hz
  ·exact hown.2.1 z hz
  ·exact hr.2 z hz),fun h => by cases h⟩ hg hiff hlt

def Blk (w:World) (g:Nat) (t:TypeId) (cs:Array Value):Prop:=w.heap[g]? = some (.cells cs t (0,0))
section
variable {w w':World} {g:Nat} {t:TypeId} {cs:Array Value}
theorem Blk.lt (h:Blk w g t cs):g < w.heap.size:=by
 rcases Nat.lt_or_ge g w.heap.size with h' | h'
 ·exact h'
 ·unfold Blk at h
  rw [Array.getElem?_eq_none h'] at h
  cases h
theorem Blk.at_ (h:Blk w g t cs) (i:Nat):w.cell? ⟨g,i,none⟩ = cs[i]?:=cell_of_row w g i cs t (0,0) h
theorem Blk.free (h:Blk w g t cs) (i:Nat):w.frozen? ⟨g,i,none⟩ = false:=by
 unfold Blk at h
 simp [World.frozen?,h]
theorem Blk.mk_ (w:World) (t:TypeId) (cs:Array Value) (k:Nat) (hk:w.heap.size = k):Blk (w.alloc (.cells cs t)) k t cs:=by
 subst hk
 show (w.heap.push _)[w.heap.size]? = _
 simp
theorem Blk.below {B:Nat} (h:Blk w g t cs) (hb:Below B w w') (hg:g < B):Blk w' g t cs:=(hb.block g hg).trans h
theorem Blk.call (h:Blk w g t cs) (hb:Below w.heap.size w w'):Blk w' g t cs:=h.below hb h.lt
theorem Blk.alloc (h:Blk w g t cs) (o:Obj):Blk (w.alloc o) g t cs:=h.call ((Below.refl _ _).alloc (Nat.le_refl _) o)
theorem Blk.drew (h:Blk w g t cs):Blk w.drew g t cs:=h
theorem Blk.drewN (h:Blk w g t cs) (k:Nat):Blk (w.drewN k) g t cs:=h
theorem Blk.far (h:Blk w g t cs) {p:Addr} (hp:g ≠ p.block) (u:Value):Blk (w.setCell p u) g t cs:=(Below.heap_setCell w p u g hp).trans h
theorem Blk.put (h:Blk w g t cs) (i:Nat) (u:Value):Blk (w.setCell ⟨g,i,none⟩ u) g t (cs.setIfInBounds i u):=by
 unfold Blk at h ⊢
 simp [World.setCell,Array.getElem?_modify,h]
theorem Blk.grown {row:Option Nat} (h:Blk w g t cs) (hg:w.grownBy w' row) (hne:some g ≠ row):Blk w' g t cs:=(hg.block g h.lt hne).trans h
end
end Go.Proofs.YtagpphelgghbpaaGreat
