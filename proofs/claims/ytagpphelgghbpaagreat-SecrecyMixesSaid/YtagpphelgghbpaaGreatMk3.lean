/-
  Texts: AppOp, BMem, Dr, Sm.
-/
import Derived.Test.YtagpphelgghbpaaGreatMk2
import Derived.Test.YtagpphelgghbpaaGreatMk1
import Derived.IntWalk
import Derived.Laws.CopyOwn
import Derived.Deep.QuietTactic
import Derived.BigQuiet
set_option linter.unusedSimpArgs false
set_option linter.unusedVariables false
namespace Go.Proofs.YtagpphelgghbpaaGreat
open Go.RowKit

theorem append_xr_op {P:Program} {w:World} {o:Oper} {a:Act} {K:Act → World → Prop} {Q:Exit → Act → World → Prop} (s x:Operand) (t:TypeId)
  (ho:o.op = .call { callee:=.builtin .append,args:=#[s,x],argTypes:=#[t,t] })
  (base:Nat) (e:TypeId) (z:Value) (size bytes:Nat) (hrow:(P.info? e).map (fun i => (i.zero,i.size,i.bytes)) = some (some z,size,bytes)) (ht:P.underlying t = some (.slice e)) (hzs:z.cells.size = size) (hsz:0 < size)
  (A:Option Addr) (n cap:Nat) (xs:List Value) (hs:a.eval s = .slice A n cap) (hown:XOwns w base e size A n cap xs)
  (A':Option Addr) (m c:Nat) (news:List Value) (hx:a.eval x = .slice A' m c) (hA:A' = none → c = 0) (hr:Reads w size A' m news) (h1:∀ u ∈ news,u.oneCell' = true)
  (hbd:(n + m) * bytes ≤ 140737488355328) (hbd2:n + m ≤ 140737488355328) (hbase:base ≤ w.heap.size)
  (h:∀ A2 cap2 w',XOwns w' base e size A2 (n + m) cap2 (xs ++ news) → Below base w w' → K (a.put o.dst (.slice A2 (n + m) cap2)) w'):o.wp P a w K Q:=by
 obtain ⟨i0,hi,hz0,hz1,hz2⟩:=info_parts hrow
 cases A' with
 | none =>
  have hc:=hA rfl
  subst hc
  have hm:m = 0:=by
   rcases Nat.eq_zero_or_pos m with h0 | h0
   ·exact h0
   ·obtain ⟨ad,e,_⟩:=hr.2 h0
    cases e
  subst hm
  have hn:news = []:=List.eq_nil_of_length_eq_zero (by rw [hr.1];simp)
  subst hn
  have hrun:=run_append_owned_none (P:=P) (w:=w) base t o.type e i0 size ht hi (.slice A n cap) n xs hown.1
  unfold Oper.wp
  simp [execOp,ho,resolve,invoke,builtin,hs,hx,hrun,Result.andThen]
  have:=h A cap w (by simpa using hown) (Below.refl _ _)
  rw [Nat.add_zero] at this
  exact this
 | some ad =>
  have hc:∀ j u,news[j]? = some u → w.cell? (ad.add j) = some u:=by
   intro j u hj
   have hm:0 < m:=by
    rcases Nat.eq_zero_or_pos m with h0 | h0
    ·subst h0
     have hn:news = []:=List.eq_nil_of_length_eq_zero (by rw [hr.1];simp)
     subst hn
     simp at hj
    ·exact h0
   obtain ⟨ad',e',_,hc⟩:=hr.2 hm
   injection e' with e'
   subst e'
   exact hc j u hj
  refine wp_append_own w s x t ho base e i0 z size bytes ht hi hz0 hz1 hz2 hzs hsz _ n xs hs hown.1 ad m c news hx hr.1 hc h1 (by unfold maxLen;omega) hbd hbase ?_
  intro v' w' ho' hg hiff
  have hb:Below base w w':=(Below.refl _ _).grown hg hbase (fun k hk => (hown.1.lt k hk).1)
  rcases ho'.2 with ⟨hv,hn⟩ | ⟨g,c2,cur,hv,h2⟩
  ·subst hv
   have:=h none 0 w' (by rw [hn];rw [hn] at ho';exact ⟨ho',fun _ => rfl⟩) hb
   rw [hn] at this
   exact this
  ·subst hv
   exact h _ c2 w' ⟨ho',fun h => by cases h⟩ hb
theorem append_xr {P:Program} {w:World} {ops:Array Oper} {rest:List Oper} {o:Oper} {a:Act} {Q:Exit → Act → World → Prop} (hgd:o.guard = none) (s x:Operand) (t:TypeId)
  (ho:o.op = .call { callee:=.builtin .append,args:=#[s,x],argTypes:=#[t,t] })
  (base:Nat) (e:TypeId) (z:Value) (size bytes:Nat) (hrow:(P.info? e).map (fun i => (i.zero,i.size,i.bytes)) = some (some z,size,bytes)) (ht:P.underlying t = some (.slice e)) (hzs:z.cells.size = size) (hsz:0 < size)
  (A:Option Addr) (n cap:Nat) (xs:List Value) (hs:a.eval s = .slice A n cap) (hown:XOwns w base e size A n cap xs)
  (A':Option Addr) (m c:Nat) (news:List Value) (hx:a.eval x = .slice A' m c) (hA:A' = none → c = 0) (hr:Reads w size A' m news) (h1:∀ u ∈ news,u.oneCell' = true)
  (hbd:(n + m) * bytes ≤ 140737488355328) (hbd2:n + m ≤ 140737488355328) (hbase:base ≤ w.heap.size)
  (h:∀ A2 cap2 w',XOwns w' base e size A2 (n + m) cap2 (xs ++ news) → Below base w w' → wpList P ops Q rest (a.put o.dst (.slice A2 (n + m) cap2)) w'):wpList P ops Q (o :: rest) a w :=
 wpList_plain hgd fun _ hK => append_xr_op s x t ho base e z size bytes hrow ht hzs hsz A n cap xs hs hown A' m c news hx hA hr h1 hbd hbd2 hbase fun A2 c2 w' h2 h3 => hK _ _ (h A2 c2 w' h2 h3)

def ics (l:List Int):List Value:=l.map (Value.int .i64)
theorem ics_one (l:List Int):∀ u ∈ ics l,u.oneCell' = true:=by
 intro u hu
 obtain ⟨x,_,rfl⟩:=List.mem_map.1 hu
 rfl
def ith (xs:List Int) (k:Nat):Int:=xs.getD k 0
theorem ith_get {xs:List Int} {k:Nat} (h:k < xs.length):xs[k]? = some (ith xs k):=by simp [ith,List.getD,List.getElem?_eq_getElem h]
theorem ith_mem {xs:List Int} {k:Nat} (h:k < xs.length):ith xs k ∈ xs:=List.mem_of_getElem? (ith_get h)
theorem ilen {w:World} {A:Option Addr} {n:Nat} {xs:List Int} (h:Reads w 1 A n (ics xs)):xs.length = n:=by have:=h.1;simpa [ics] using this
theorem int_at {w:World} {A:Option Addr} {n:Nat} {xs:List Int} (h:Reads w 1 A n (ics xs)) {k:Nat} (hk:k < n):∃ ad,A = some ad ∧ ad.block < w.heap.size ∧ w.cell? (ad.add k) = some (.int .i64 (ith xs k)):=by
 obtain ⟨ad,e,hb,hc⟩:=h.2 (by omega)
 refine ⟨ad,e,hb,hc k _ ?_⟩
 rw [ics,List.getElem?_map,ith_get (by have:=ilen h;omega)]
 rfl
theorem take_snoc {α:Type} [Inhabited α] {l:List α} {k:Nat} {x:α} (h:l[k]? = some x):l.take (k + 1) = l.take k ++ [x]:=by
 have hk:k < l.length:=by
  rcases Nat.lt_or_ge k l.length with h' | h'
  ·exact h'
  ·rw [List.getElem?_eq_none h'] at h;cases h
 rw [List.take_succ_eq_append_getElem hk]
 rw [List.getElem?_eq_getElem hk] at h
 rw [Option.some.inj h]

/-! ### Cells -/
def Ob.cells (o:Ob):List Value:=[.int .i64 o.id,.int .i64 o.card,.int .i64 o.own,.int .i64 o.pow,.int .i64 o.tou,.int .i64 o.dam,.int .i64 o.cnt,.int .i64 o.pp,.int .i64 o.pt,.bool o.tap,.bool o.sick,.bool o.doom]
def ocs (l:List Ob):List Value:=l.flatMap Ob.cells
def Tg.cells (t:Tg):List Value:=[.int .i64 t.id,.int .i64 t.pl]
def tcs (l:List Tg):List Value:=l.flatMap Tg.cells
def Bk.cells (x:Bk):List Value:=[.int .i64 x.b,.int .i64 x.a]
def bcs (l:List Bk):List Value:=l.flatMap Bk.cells
structure Sl where
 A:Option Addr
 c:Nat
deriving Inhabited
def Sl.v (s:Sl) (n:Nat):Value:=.slice s.A n s.c
def It.cells (x:It) (t:Sl):List Value:=[.int .i64 x.pl,.int .i64 x.id,.int .i64 x.card,.int .i64 x.trg,t.v x.tgs.length]
def itcs (l:List (It × Sl)):List Value:=l.flatMap fun p => p.1.cells p.2
structure SeM where
 L:Sl
 H:Sl
 F:Sl
 G:Sl
deriving Inhabited
structure BdM where
 O:Sl
 m0:SeM
 m1:SeM
 S:Sl
 Q:Sl
 ST:List Sl
 QT:List Sl
 AT:Sl
 BK:Sl
deriving Inhabited
def Se.cells (s:Se) (m:SeM):List Value:=[.int .i64 s.life,.int .i64 s.p0,.int .i64 s.p1,.int .i64 s.p2,.int .i64 s.p3,m.L.v s.lib.length,m.H.v s.hand.length,m.F.v s.fld.length,m.G.v s.grv.length,.bool s.emp,.bool s.ply,.bool s.kpt,.int .i64 s.mul,.int .i64 s.act]
def Bd.cells (b:Bd) (m:BdM):List Value:=m.O.v b.objs.length :: (b.s0.cells m.m0 ++ b.s1.cells m.m1 ++ [m.S.v b.stk.length,m.Q.v b.que.length,m.AT.v b.att.length,m.BK.v b.blk.length,.int .i64 b.turn,.int .i64 b.actv,.int .i64 b.phs,.int .i64 b.hold,.int .i64 b.pas])

/-! ### Rows at a place -/
section
variable {α:Type} {enc:α → List Value} {k:Nat}
theorem flatMap_len (hk:∀ x,(enc x).length = k):∀ l:List α,(l.flatMap enc).length = l.length * k
 | [] => by simp
 | x :: l => by rw [List.flatMap_cons,List.length_append,hk,flatMap_len hk l,List.length_cons,Nat.add_mul];omega
theorem flatMap_at (hk:∀ x,(enc x).length = k):∀ {l:List α} {i:Nat} {x:α},l[i]? = some x → ∀ {j:Nat},j < k → (l.flatMap enc)[i * k + j]? = (enc x)[j]?
 | [],i,x,h,_,_ => by simp at h
 | y :: l,0,x,h,j,hj => by
  simp at h
  subst h
  rw [List.flatMap_cons,List.getElem?_append_left (by rw [hk];omega)]
  simp
 | y :: l,i + 1,x,h,j,hj => by
  rw [List.flatMap_cons,List.getElem?_append_right (by rw [hk,Nat.add_mul];omega),hk,show (i + 1) * k + j - k = i * k + j by rw [Nat.add_mul];omega]
  exact flatMap_at hk (by simpa using h) hj
theorem rlen {w:World} {A:Option Addr} {n:Nat} {l:List α} (hk:∀ x,(enc x).length = k) (hk0:0 < k) (h:Reads w k A n (l.flatMap enc)):l.length = n:=by
 have:=h.1
 rw [flatMap_len hk] at this
 exact Nat.eq_of_mul_eq_mul_right hk0 this
theorem row_cell {w:World} {A:Option Addr} {n:Nat} {l:List α} (hk:∀ x,(enc x).length = k) (h:Reads w k A n (l.flatMap enc)) {i:Nat} {x:α} (hi:l[i]? = some x) (hin:i < n):∃ ad,A = some ad ∧ ad.block < w.heap.size ∧ ∀ j u,j < k → (enc x)[j]? = some u → w.cell? (ad.add (i * k + j)) = some u:=by
 obtain ⟨ad,e,hb,hc⟩:=h.2 (by omega)
 exact ⟨ad,e,hb,fun j u hj hu => hc _ u (by rw [flatMap_at hk hi hj];exact hu)⟩
end
theorem obj_at {w:World} {A:Option Addr} {n:Nat} {l:List Ob} (h:Reads w 12 A n (ocs l)) {i:Nat} {o:Ob} (hi:l[i]? = some o) (hin:i < n):∃ ad,A = some ad ∧ ad.block < w.heap.size ∧
  w.cell? (ad.add (i * 12)) = some (.int .i64 o.id) ∧ w.cell? ⟨(ad.add (i * 12)).block,(ad.add (i * 12)).off + 1,none⟩ = some (.int .i64 o.card) ∧ w.cell? ⟨(ad.add (i * 12)).block,(ad.add (i * 12)).off + 2,none⟩ = some (.int .i64 o.own) ∧
  w.cell? ⟨(ad.add (i * 12)).block,(ad.add (i * 12)).off + 3,none⟩ = some (.int .i64 o.pow) ∧ w.cell? ⟨(ad.add (i * 12)).block,(ad.add (i * 12)).off + 4,none⟩ = some (.int .i64 o.tou) ∧ w.cell? ⟨(ad.add (i * 12)).block,(ad.add (i * 12)).off + 5,none⟩ = some (.int .i64 o.dam) ∧
  w.cell? ⟨(ad.add (i * 12)).block,(ad.add (i * 12)).off + 6,none⟩ = some (.int .i64 o.cnt) ∧ w.cell? ⟨(ad.add (i * 12)).block,(ad.add (i * 12)).off + 7,none⟩ = some (.int .i64 o.pp) ∧ w.cell? ⟨(ad.add (i * 12)).block,(ad.add (i * 12)).off + 8,none⟩ = some (.int .i64 o.pt) ∧
  w.cell? ⟨(ad.add (i * 12)).block,(ad.add (i * 12)).off + 9,none⟩ = some (.bool o.tap) ∧ w.cell? ⟨(ad.add (i * 12)).block,(ad.add (i * 12)).off + 10,none⟩ = some (.bool o.sick) ∧ w.cell? ⟨(ad.add (i * 12)).block,(ad.add (i * 12)).off + 11,none⟩ = some (.bool o.doom):=by
 obtain ⟨ad,e,hb,hc⟩:=row_cell (enc:=Ob.cells) (fun _ => rfl) h hi hin
 exact ⟨ad,e,hb,hc 0 _ (by decide) rfl,part_at 0 (hc 1 _ (by decide) rfl),part_at 1 (hc 2 _ (by decide) rfl),part_at 2 (hc 3 _ (by decide) rfl),part_at 3 (hc 4 _ (by decide) rfl),part_at 4 (hc 5 _ (by decide) rfl),part_at 5 (hc 6 _ (by decide) rfl),part_at 6 (hc 7 _ (by decide) rfl),part_at 7 (hc 8 _ (by decide) rfl),part_at 8 (hc 9 _ (by decide) rfl),part_at 9 (hc 10 _ (by decide) rfl),part_at 10 (hc 11 _ (by decide) rfl)⟩
theorem tgt_at {w:World} {A:Option Addr} {n:Nat} {l:List Tg} (h:Reads w 2 A n (tcs l)) {i:Nat} {o:Tg} (hi:l[i]? = some o) (hin:i < n):∃ ad,A = some ad ∧ ad.block < w.heap.size ∧
  w.cell? (ad.add (i * 2)) = some (.int .i64 o.id) ∧ w.cell? ⟨(ad.add (i * 2)).block,(ad.add (i * 2)).off + 1,none⟩ = some (.int .i64 o.pl):=by
 obtain ⟨ad,e,hb,hc⟩:=row_cell (enc:=Tg.cells) (fun _ => rfl) h hi hin
 exact ⟨ad,e,hb,hc 0 _ (by decide) rfl,part_at 0 (hc 1 _ (by decide) rfl)⟩
theorem blk_at {w:World} {A:Option Addr} {n:Nat} {l:List Bk} (h:Reads w 2 A n (bcs l)) {i:Nat} {o:Bk} (hi:l[i]? = some o) (hin:i < n):∃ ad,A = some ad ∧ ad.block < w.heap.size ∧
  w.cell? (ad.add (i * 2)) = some (.int .i64 o.b) ∧ w.cell? ⟨(ad.add (i * 2)).block,(ad.add (i * 2)).off + 1,none⟩ = some (.int .i64 o.a):=by
 obtain ⟨ad,e,hb,hc⟩:=row_cell (enc:=Bk.cells) (fun _ => rfl) h hi hin
 exact ⟨ad,e,hb,hc 0 _ (by decide) rfl,part_at 0 (hc 1 _ (by decide) rfl)⟩
theorem item_at {w:World} {A:Option Addr} {n:Nat} {l:List (It × Sl)} (h:Reads w 5 A n (itcs l)) {i:Nat} {x:It} {t:Sl} (hi:l[i]? = some (x,t)) (hin:i < n):∃ ad,A = some ad ∧ ad.block < w.heap.size ∧
  w.cell? (ad.add (i * 5)) = some (.int .i64 x.pl) ∧ w.cell? ⟨(ad.add (i * 5)).block,(ad.add (i * 5)).off + 1,none⟩ = some (.int .i64 x.id) ∧ w.cell? ⟨(ad.add (i * 5)).block,(ad.add (i * 5)).off + 2,none⟩ = some (.int .i64 x.card) ∧
  w.cell? ⟨(ad.add (i * 5)).block,(ad.add (i * 5)).off + 3,none⟩ = some (.int .i64 x.trg) ∧ w.cell? ⟨(ad.add (i * 5)).block,(ad.add (i * 5)).off + 4,none⟩ = some (.slice t.A x.tgs.length t.c):=by
 obtain ⟨ad,e,hb,hc⟩:=row_cell (enc:=fun p:It × Sl => p.1.cells p.2) (fun _ => rfl) h hi hin
 exact ⟨ad,e,hb,hc 0 _ (by decide) rfl,part_at 0 (hc 1 _ (by decide) rfl),part_at 1 (hc 2 _ (by decide) rfl),part_at 2 (hc 3 _ (by decide) rfl),part_at 3 (hc 4 _ (by decide) rfl)⟩

/-! ### A board that reads -/
def Sl.ok (s:Sl) (n:Nat):Prop:=n ≤ s.c ∧ (s.A = none → s.c = 0) ∧ s.c ≤ 9223372036854775807
structure IsR (w:World) (s:Sl) (l:List It) (ts:List Sl):Prop where
 len:ts.length = l.length
 row:Reads w 5 s.A l.length (itcs (l.zip ts))
 ok:s.ok l.length
 tg:∀ (i:Nat) (x:It) (t:Sl),l[i]? = some x → ts[i]? = some t → Reads w 2 t.A x.tgs.length (tcs x.tgs) ∧ t.ok x.tgs.length
structure LsR (w:World) (s:Sl) (l:List Int):Prop where
 row:Reads w 1 s.A l.length (ics l)
 ok:s.ok l.length
 wf:∀ x ∈ l,wfI x
structure SeR (w:World) (s:Se) (m:SeM):Prop where
 L:LsR w m.L s.lib
 H:LsR w m.H s.hand
 F:LsR w m.F s.fld
 G:LsR w m.G s.grv
def wfO (o:Ob):Prop:=wfI o.id ∧ wfI o.card ∧ wfI o.own
def wfX (x:It):Prop:=wfI x.pl ∧ wfI x.id ∧ wfI x.card ∧ wfI x.trg
structure BdR (w:World) (b:Bd) (m:BdM):Prop where
 O:Reads w 12 m.O.A b.objs.length (ocs b.objs)
 Oo:m.O.ok b.objs.length
 Ow:∀ o ∈ b.objs,wfO o
 s0:SeR w b.s0 m.m0
 s1:SeR w b.s1 m.m1
 S:IsR w m.S b.stk m.ST
 Sw:∀ x ∈ b.stk,wfX x
 Q:IsR w m.Q b.que m.QT
 Qw:∀ x ∈ b.que,wfX x
 AT:LsR w m.AT b.att
 BK:Reads w 2 m.BK.A b.blk.length (bcs b.blk)
 Bo:m.BK.ok b.blk.length
 Bw:∀ x ∈ b.blk,wfI x.a ∧ wfI x.b
section
variable {w w':World}
theorem IsR.below {s:Sl} {l:List It} {ts:List Sl} (h:IsR w s l ts) (hb:Below w.heap.size w w'):IsR w' s l ts:=⟨h.len,h.row.below hb,h.ok,fun i x t h1 h2 => ⟨(h.tg i x t h1 h2).1.below hb,(h.tg i x t h1 h2).2⟩⟩
theorem LsR.below {s:Sl} {l:List Int} (h:LsR w s l) (hb:Below w.heap.size w w'):LsR w' s l:=⟨h.row.below hb,h.ok,h.wf⟩
theorem SeR.below {s:Se} {m:SeM} (h:SeR w s m) (hb:Below w.heap.size w w'):SeR w' s m:=⟨h.L.below hb,h.H.below hb,h.F.below hb,h.G.below hb⟩
theorem BdR.below {b:Bd} {m:BdM} (h:BdR w b m) (hb:Below w.heap.size w w'):BdR w' b m :=
 ⟨h.O.below hb,h.Oo,h.Ow,h.s0.below hb,h.s1.below hb,h.S.below hb,h.Sw,h.Q.below hb,h.Qw,h.AT.below hb,h.BK.below hb,h.Bo,h.Bw⟩
theorem IsR.at_ {s:Sl} {l:List It} {ts:List Sl} (h:IsR w s l ts) {i:Nat} {x:It} (hi:l[i]? = some x):∃ t,(l.zip ts)[i]? = some (x,t) ∧ ts[i]? = some t ∧ Reads w 2 t.A x.tgs.length (tcs x.tgs) ∧ t.ok x.tgs.length:=by
 have hl:i < l.length:=by
  rcases Nat.lt_or_ge i l.length with h' | h'
  ·exact h'
  ·rw [List.getElem?_eq_none h'] at hi;cases hi
 have ht:ts[i]? = some (ts[i]'(by rw [h.len];exact hl)):=List.getElem?_eq_getElem _
 exact ⟨_,by rw [List.getElem?_zip_eq_some];exact ⟨hi,ht⟩,ht,h.tg i x _ hi ht⟩
end

def ucs (l:List Int):List Value:=l.map (Value.int .u64)
theorem ucs_one (l:List Int):∀ u ∈ ucs l,u.oneCell' = true:=by
 intro u hu
 obtain ⟨x,_,rfl⟩:=List.mem_map.1 hu
 rfl
theorem ulen {w:World} {A:Option Addr} {n:Nat} {xs:List Int} (h:Reads w 1 A n (ucs xs)):xs.length = n:=by have:=h.1;simpa [ucs] using this
theorem tinfo_u64:(Tryz.prog.info? 59).map (fun i => (i.zero,i.size,i.bytes)) = some (some (.int .u64 0),1,8):=by kernel_rfl
theorem size_u64:(Tryz.prog.info? 59).map (·.size) = some 1:=by kernel_rfl
theorem made_blk {w1:World} {B e n g:Nat} {xs:List Value} (h:w1.ownsRow B e 1 (.slice (some ⟨g,0,none⟩) n n) n xs):∃ cur:List Value,Blk w1 g e cur.toArray ∧ cur.length = n:=by
 rcases h.2 with ⟨h0,_⟩ | ⟨g',c',cur,h1,h2,h3,h4,h5,h6,h7⟩
 ·cases h0
 ·injection h1 with h1 _ h1b
  injection h1 with h1
  injection h1 with h1
  subst h1 h1b
  exact ⟨cur.toList,h3,by simpa using h6⟩
def OwnEnd (us:List Int) (n:Nat) (w:World) (e:Ending) (w':World):Prop:=∃ g,e = .returned (.slice (some ⟨g,0,none⟩) n n) ∧ Blk w' g 59 (ucs us).toArray ∧ w.heap.size ≤ g ∧ Below w.heap.size w w'
set_option maxRecDepth 100000 in
set_option maxHeartbeats 1600000 in
theorem own_any (A:Option Addr) (n c:Nat) (us:List Int) (w:World) (hx:Reads w 1 A n (ucs us)) (hn:n ≤ 65536):Calls Tryz.prog 59 #[.slice A n c] w (OwnEnd us n w):=by
 have HX:=Lib.hid hx
 have HN:=Lib.hid hn
 have HL:=Lib.hid (ulen hx)
 clear hx
 obtain ⟨i0,hi,hz0,hz1,hz2⟩:=info_parts tinfo_u64
 have HI:=Lib.hid (And.intro hi (And.intro hz0 (And.intro hz1 hz2)))
 clear hi hz0 hz1 hz2
 go_enter Tryz.func59,Tryz.ntmps59
 go_wp2_with (first
  | (at_make;refine wpList_make_full w rfl (.tmp 5) (.tmp 5) 34 rfl w.heap.size 59 i0 (.int .u64 0) 1 Tryz.underlying34 HI.out.1 HI.out.2.1 HI.out.2.2.1 .i64 .i64 _ _ n rfl rfl rfl rfl (by rw [HI.out.2.2.2];omega) (by unfold maxLen;omega) (Nat.le_refl _) ?_;intro w1 ho1 hg1;obtain ⟨cur,hk1,hcz⟩:=made_blk ho1;have hb1:Below w.heap.size w w1:=(Below.refl _ _).grown hg1 (Nat.le_refl _) (fun k hk => by cases hk);have HX1:=Lib.hid (HX.out.below hb1);have HB1:=Lib.hid hb1;have HK1:=Lib.hid hk1;have HCZ:=Lib.hid hcz;clear ho1 hg1 hk1 hcz hb1)
  | (refine wpList_copy_splice rfl (.tmp 7) (.tmp 8) 34 34 rfl 59 Tryz.underlying34 size_u64 (some ⟨w.heap.size,0,none⟩) A n n n c rfl rfl w.heap.size 0 cur 59 HK1.out (ucs us) (by simp [ucs,HL.out]) (fun hpos => ⟨rfl,by obtain ⟨ad,e,hbl,hc⟩:=HX1.out.2 (by rw [← HL.out];simpa [ucs] using hpos);exact ⟨ad,e,hc⟩⟩) (by rw [HCZ.out];simp [ucs,HL.out]) (ucs_one us) w.heap.size w HB1.out (Nat.le_refl _) ?_;intro w2 hk2 hb2)
  | fail)
 go_ret
 refine ⟨w.heap.size,rfl,?_,Nat.le_refl _,hb2⟩
 have h:=hk2.out
 have hl:(ucs us).length = n:=by simp [ucs,HL.out]
 rw [show splice cur 0 (ucs us) = ucs us by simp [splice,hl,← HCZ.out]] at h
 exact h
def dzc (all:Value) (used:Int):Array Value:=#[.bool true,all,.int .i64 used]
def DnewEnd (us:List Int) (n:Nat) (w:World) (e:Ending) (w':World):Prop:=∃ gd gu,e = .returned (.tuple #[.pointer (some ⟨gd,0,none⟩),.int .i64 0]) ∧ Blk w' gd 117 (dzc (.slice (some ⟨gu,0,none⟩) n n) 0) ∧ Blk w' gu 59 (ucs us).toArray ∧ w.heap.size ≤ gd ∧ w.heap.size ≤ gu ∧ Below w.heap.size w w'
set_option maxRecDepth 100000 in
set_option maxHeartbeats 1600000 in
theorem dnew_ok (A:Option Addr) (n c:Nat) (us:List Int) (w:World) (hx:Reads w 1 A n (ucs us)) (hn:n ≤ 65536):Calls Tryz.prog 24 #[.slice A n c] w (DnewEnd us n w):=by
 have HO:=Lib.hid (own_any A n c us w hx hn)
 have hn':(n:Int) ≤ 65536:=by omega
 clear hx hn
 go_enter Tryz.func24,Tryz.ntmps24
 go_wp2_with (first
  | (go_at_call 59;refine HO.out.mono ?_;rintro e w1 ⟨gu,rfl,hk1,hg1,hb1⟩)
  | fail)
 go_ret2
 have hb2:∀ cs,Below w1.heap.size w1 (w1.alloc (.cells cs 117)):=fun cs => (Below.refl _ _).alloc (Nat.le_refl _) _
 exact ⟨_,gu,rfl,Blk.mk_ _ _ _ _ rfl,hk1.call (hb2 _),hb1.size,hg1,below_call hb1 (hb2 _) hb1.size⟩
structure DwS (W:World) (gd gu:Nat) (us:List Int) (used:Nat):Prop where
 D:Blk W gd 117 (dzc (.slice (some ⟨gu,0,none⟩) us.length us.length) used)
 U:Blk W gu 59 (ucs us).toArray
theorem DwS.below {W W':World} {gd gu used:Nat} {us:List Int} (h:DwS W gd gu us used) (hb:Below W.heap.size W W'):DwS W' gd gu us used:=⟨h.D.call hb,h.U.call hb⟩
set_option maxHeartbeats 1600000 in
theorem dzero_any (W:World) (gd gu:Nat) (us:List Int) (used:Nat) (h:DwS W gd gu us used):Calls Tryz.prog 98 #[.pointer (some ⟨gd,0,none⟩)] W fun e w' => e = .returned (.bool false) ∧ W = w':=by
 have c0:W.cell? ⟨gd,0,none⟩ = some (.bool true):=(h.D.at_ 0).trans rfl
 clear h
 go_enter Tryz.func98,Tryz.ntmps98
 go_wp2
 go_ret
 exact ⟨rfl,rfl⟩
set_option maxHeartbeats 1600000 in
theorem dleft_any (W:World) (gd gu:Nat) (us:List Int) (used:Nat) (h:DwS W gd gu us used) (hu:used ≤ us.length) (hn:us.length ≤ 65536):Calls Tryz.prog 99 #[.pointer (some ⟨gd,0,none⟩)] W fun e w' => e = .returned (.int .i64 ((us.length - used:Nat):Int)) ∧ Below W.heap.size W w':=by
 have c1:W.cell? ⟨gd,1,none⟩ = some (.slice (some ⟨gu,0,none⟩) us.length us.length):=(h.D.at_ 1).trans rfl
 have c2:W.cell? ⟨gd,2,none⟩ = some (.int .i64 used):=(h.D.at_ 2).trans rfl
 have HZ:=Lib.hid (dzero_any W gd gu us used h)
 have hl:=h.D.lt
 obtain ⟨n,hnn⟩:∃ n,us.length = n:=⟨_,rfl⟩
 rw [hnn] at c1 hu hn ⊢
 have hw:IntKind.i64.wrap ((n:Int) - used) = ((n - used:Nat):Int):=by rw [Int.ofNat_sub hu];exact IntWalk.i64_in _ (by omega)
 clear h hnn
 go_enter Tryz.func99,Tryz.ntmps99
 go_wp2_with (first
  | (go_at_call 98;refine HZ.out.mono ?_;rintro e w_ ⟨rfl,rfl⟩)
  | fail)
 go_quiet (fail)
 go_wp2_with fail
 go_ret
 exact ⟨rfl,below_drewN (Below.refl _ _) _⟩
def chkS (left needs wrong:Int):Int:=if wrong ≠ 0 then wrong else if left < needs then 16 else 0
set_option maxHeartbeats 1600000 in
theorem dcheck_any (W:World) (gd gu:Nat) (us:List Int) (used:Nat) (needs wrong:Int) (h:DwS W gd gu us used) (hu:used ≤ us.length) (hn:us.length ≤ 65536):Calls Tryz.prog 64 #[.pointer (some ⟨gd,0,none⟩),.int .i64 needs,.int .i64 wrong] W fun e w' => e = .returned (.int .i64 (chkS ((us.length - used:Nat):Int) needs wrong)) ∧ Below W.heap.size W w':=by
 have HZ:=Lib.hid (dzero_any W gd gu us used h)
 have HL:=Lib.hid (dleft_any W gd gu us used h hu hn)
 obtain ⟨lf,hlf⟩:∃ n,us.length - used = n:=⟨_,rfl⟩
 rw [hlf] at HL ⊢
 clear h hu hn hlf
 by_cases hw:wrong = 0
 ·by_cases hl:(lf:Int) < needs
  ·have HC:Hid (chkS lf needs wrong = 16):=Lib.hid (by unfold chkS;rw [if_neg (by simpa using hw),if_pos hl])
   have hw':(wrong == 0) = true:=by simpa using hw
   have hl':decide ((lf:Int) < needs) = true:=by simpa using hl
   clear hw
   go_enter Tryz.func64,Tryz.ntmps64
   go_wp2_with (first
    | (go_at_call 98;refine HZ.out.mono ?_;rintro e w_ ⟨rfl,rfl⟩)
    | (go_at_call 99;refine HL.out.mono ?_;rintro e w2 ⟨rfl,hb2⟩)
    | fail)
   go_ret
   exact ⟨by rw [HC.out];rfl,hb2⟩
  ·have HC:Hid (chkS lf needs wrong = 0):=Lib.hid (by unfold chkS;rw [if_neg (by simpa using hw),if_neg hl])
   have hw':(wrong == 0) = true:=by simpa using hw
   have hl':decide ((lf:Int) < needs) = false:=by simpa using hl
   clear hw
   go_enter Tryz.func64,Tryz.ntmps64
   go_wp2_with (first
    | (go_at_call 98;refine HZ.out.mono ?_;rintro e w_ ⟨rfl,rfl⟩)
    | (go_at_call 99;refine HL.out.mono ?_;rintro e w2 ⟨rfl,hb2⟩)
    | fail)
   go_ret
   exact ⟨by rw [HC.out];rfl,hb2⟩
 ·have HC:Hid (chkS lf needs wrong = wrong):=Lib.hid (by unfold chkS;rw [if_pos hw])
  have hw':(wrong == 0) = false:=by simpa using hw
  clear hw
  go_enter Tryz.func64,Tryz.ntmps64
  go_wp2_with (first
   | (go_at_call 98;refine HZ.out.mono ?_;rintro e w_ ⟨rfl,rfl⟩)
   | (go_at_call 99;refine HL.out.mono ?_;rintro e w2 ⟨rfl,hb2⟩)
   | fail)
  go_ret
  exact ⟨by rw [HC.out];rfl,Below.refl _ _⟩
theorem grownBy_below_ {W W':World} {row:Option Nat} (hb:Below W.heap.size W W'):W.grownBy W' row:=⟨hb.os,hb.tape,hb.output,hb.size,fun j hj _ => hb.block j hj⟩
set_option maxHeartbeats 1600000 in
theorem dchoose_any (W:World) (gd gu:Nat) (us:List Int) (used:Nat) (bound:Int) (h:DwS W gd gu us used) (hne:gd ≠ gu) (hu:used < us.length) (hn:us.length ≤ 65536) (hb:1 ≤ bound ∧ bound ≤ 65536) (hw:0 ≤ ith us used ∧ ith us used ≤ 18446744073709551615):Calls Tryz.prog 65 #[.pointer (some ⟨gd,0,none⟩),.int .i64 bound] W fun e w' => e = .returned (.int .i64 (ith us used % bound)) ∧ DwS w' gd gu us (used + 1) ∧ W.grownBy w' (some gd):=by
 have c1:W.cell? ⟨gd,1,none⟩ = some (.slice (some ⟨gu,0,none⟩) us.length us.length):=(h.D.at_ 1).trans rfl
 have c2:W.cell? ⟨gd,2,none⟩ = some (.int .i64 used):=(h.D.at_ 2).trans rfl
 have c3:W.cell? ⟨gu,used,none⟩ = some (.int .u64 (ith us used)):=(h.U.at_ used).trans (by simp only [List.getElem?_toArray];rw [ucs,List.getElem?_map,ith_get hu];rfl)
 have f2:=h.D.free 2
 have hl:=h.D.lt
 have hlu:=h.U.lt
 obtain ⟨u,hu0⟩:∃ u,ith us used = u:=⟨_,rfl⟩
 obtain ⟨n,hnn⟩:∃ n,us.length = n:=⟨_,rfl⟩
 rw [hu0] at c3 hw ⊢
 rw [hnn] at c1 hu hn
 have hu':(used:Int) < n:=by omega
 have hb64:IntKind.u64.wrap bound = bound:=IntWalk.u64_in _ (by omega)
 obtain ⟨r,hr⟩:∃ r,u % bound = r:=⟨_,rfl⟩
 have hr0:0 ≤ r ∧ r < bound:=by rw [← hr];exact ⟨Int.emod_nonneg _ (by omega),Int.emod_lt_of_pos _ (by omega)⟩
 have hrem:u.tmod bound = r:=by rw [← hr];exact Int.tmod_eq_emod_of_nonneg hw.1
 have hi1:IntKind.i64.wrap ((used:Int) + 1) = ((used + 1:Nat):Int):=IntWalk.i64_in _ (by omega)
 have hr64:IntKind.u64.wrap r = r:=IntWalk.u64_in _ (by omega)
 have hri:IntKind.i64.wrap r = r:=IntWalk.i64_in _ (by omega)
 have hbz:¬ bound = 0:=by omega
 have H:=Lib.hid h
 have HNE:=Lib.hid hne
 rw [hr]
 clear h hne hu0 hnn hw hn hr0 hr hb
 go_enter Tryz.func65,Tryz.ntmps65
 go_wp2_with fail
 go_quiet (fail)
 go_wp2_with fail
 go_ret
 have hbd:Below W.heap.size W (W.drewN nq):=below_drewN (Below.refl _ _) _
 have hp:=(H.out.D.call hbd).put 2 (.int .i64 ((used + 1:Nat):Int))
 have hgr:W.grownBy ((W.drewN nq).setCell ⟨gd,2,none⟩ (.int .i64 ((used + 1:Nat):Int))) (some gd):=only_setCell (grownBy_below_ hbd) (.inl rfl) _
 exact ⟨rfl,⟨hp,H.out.U.grown hgr (fun e => by injection e with e;exact HNE.out e.symm)⟩,hgr⟩

theorem within_any (n a b:Int) (w:World):Calls Tryz.prog 42 #[.int .i64 n,.int .i64 a,.int .i64 b] w fun e w' => e = .returned (.bool (inR n a b)) ∧ w = w':=by
 unfold inR
 by_cases h0:a ≤ n
 ·have h1:decide (a ≤ n) = true:=decide_eq_true h0
  rw [h1,Bool.true_and]
  go_enter Tryz.func42,Tryz.ntmps42
  go_wp2
  go_ret
  exact ⟨rfl,rfl⟩
 ·have h1:decide (a ≤ n) = false:=decide_eq_false h0
  have h2:(a ≤ n) = False:=eq_false h0
  rw [h1,Bool.false_and]
  go_enter Tryz.func42,Tryz.ntmps42
  go_wp2
  go_ret
  exact ⟨rfl,rfl⟩
theorem aimed_any (t:Tg) (w:World):Calls Tryz.prog 80 #[.agg #[.int .i64 t.id,.int .i64 t.pl]] w fun e w' => e = .returned (.bool (tgOk t)) ∧ Below w.heap.size w w':=by
 obtain ⟨i,p⟩:=t
 have hal:∀ cs,Below w.heap.size w (w.alloc (.cells cs 124)):=fun cs => (Below.refl _ _).alloc (Nat.le_refl _) _
 have HAL:=Lib.hid hal
 clear hal
 unfold tgOk
 simp only
 cases h1:inR i 0 500 with
 | false =>
  have H1:=Lib.hid h1
  clear h1
  go_enter Tryz.func80,Tryz.ntmps80
  go_wp2_with (go_at_call 42;refine (within_any _ _ _ _).mono ?_;rw [H1.out];rintro e w1 ⟨rfl,rfl⟩)
  go_ret
  exact ⟨rfl,HAL.out _⟩
 | true =>
  have H1:=Lib.hid h1
  clear h1
  cases h2:inR p 0 1 with
  | false =>
   have H2:=Lib.hid h2
   clear h2
   go_enter Tryz.func80,Tryz.ntmps80
   go_wp2_with (go_at_call 42;refine (within_any _ _ _ _).mono ?_;(first | rw [H1.out] | rw [H2.out]);rintro e w1 ⟨rfl,rfl⟩)
   go_ret
   exact ⟨rfl,HAL.out _⟩
  | true =>
   have H2:=Lib.hid h2
   clear h2
   by_cases h3:i = 0
   ·have h3':(i == 0) = true:=by rw [beq_iff_eq];exact h3
    have HD:Hid (decide (i = 0) = true):=Lib.hid (decide_eq_true h3)
    clear h3
    go_enter Tryz.func80,Tryz.ntmps80
    go_wp2_with (go_at_call 42;refine (within_any _ _ _ _).mono ?_;(first | rw [H1.out] | rw [H2.out]);rintro e w1 ⟨rfl,rfl⟩)
    go_ret
    exact ⟨by rw [HD.out];rfl,HAL.out _⟩
   ·have h3':(i == 0) = false:=by rw [beq_eq_false_iff_ne];exact h3
    have HD:Hid (decide (i = 0) = false):=Lib.hid (decide_eq_false h3)
    clear h3
    go_enter Tryz.func80,Tryz.ntmps80
    go_wp2_with (go_at_call 42;refine (within_any _ _ _ _).mono ?_;(first | rw [H1.out] | rw [H2.out]);rintro e w1 ⟨rfl,rfl⟩)
    go_ret
    exact ⟨by rw [HD.out];rfl,HAL.out _⟩
theorem naimed_any (t:Tg) (w:World):Calls Tryz.prog 79 #[.agg #[.int .i64 t.id,.int .i64 t.pl]] w fun e w' => e = .returned (.bool (!tgOk t)) ∧ Below w.heap.size w w':=by
 have hal:∀ cs,Below w.heap.size w (w.alloc (.cells cs 124)):=fun cs => (Below.refl _ _).alloc (Nat.le_refl _) _
 have HAL:=Lib.hid hal
 clear hal
 have HT:=Lib.hid (fun W => aimed_any t W)
 generalize tgOk t = d at *
 go_enter Tryz.func79,Tryz.ntmps79
 go_wp2_with fail
 refine (HT.out _).mono ?_
 rintro e w1 ⟨rfl,hb1⟩
 go_wp2
 go_ret
 exact ⟨rfl,below_call (HAL.out _) hb1 (HAL.out _).size⟩
end Go.Proofs.YtagpphelgghbpaaGreat
