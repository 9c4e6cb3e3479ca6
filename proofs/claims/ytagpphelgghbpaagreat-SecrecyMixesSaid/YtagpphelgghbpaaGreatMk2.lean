/-
  Texts: XOwn, OnlyF, Mp, RowR.
-/
import Derived.Test.YtagpphelgghbpaaGreatMk1
import Derived.Laws.AppendOwnNone
import Derived.Maps.OwnSet
set_option linter.unusedSimpArgs false
set_option linter.unusedVariables false
namespace Go.Proofs.YtagpphelgghbpaaGreat
open Go.RowKit

def XOwns (w:World) (base:Nat) (e:TypeId) (size:Nat) (A:Option Addr) (n cap:Nat) (xs:List Value):Prop:=w.ownsRow base e size (.slice A n cap) n xs ∧ (A = none → cap = 0)
section
variable {w w':World} {base base':Nat} {e e':TypeId} {size size':Nat} {A A':Option Addr} {n n' cap cap':Nat} {xs xs':List Value} {r:Option Nat}
theorem XOwns.blk (h:XOwns w base e size A n cap xs):blkOf A = none ∨ ∃ g cur,blkOf A = some g ∧ base ≤ g ∧ w.heap[g]? = some (.cells cur e (0,0)):=by
 rcases h.1.2 with ⟨h0,_⟩ | ⟨g,c,cur,h1,h2,h3,_⟩
 ·injection h0 with h0
  exact .inl (by rw [h0];rfl)
 ·injection h1 with h1
  exact .inr ⟨g,cur,by rw [h1];rfl,h2,h3⟩
theorem XOwns.apart (h:XOwns w base e size A n cap xs) (h':XOwns w base' e' size' A' n' cap' xs') (hne:e ≠ e'):blkOf A = none ∨ blkOf A ≠ blkOf A':=by
 rcases h.blk with h0 | ⟨g,cur,h1,_,h2⟩
 ·exact .inl h0
 ·refine .inr fun he => ?_
  rw [h1] at he
  rcases h'.blk with h0 | ⟨g',cur',h1',_,h2'⟩
  ·rw [h0] at he;cases he
  ·rw [h1'] at he
   injection he with he
   subst he
   rw [h2] at h2'
   injection h2' with h2'
   injection h2' with _ h2'
   exact hne h2'
theorem XOwns.apart_blk {p:Nat} {t:TypeId} {cs:Array Value} (h:XOwns w base e size A n cap xs) (hb:Blk w p t cs) (hne:e ≠ t):blkOf A ≠ some p:=by
 intro he
 rcases h.blk with h0 | ⟨g,cur,h1,_,h2⟩
 ·rw [h0] at he;cases he
 ·rw [h1] at he
  injection he with he
  subst he
  unfold Blk at hb
  rw [h2] at hb
  injection hb with hb
  injection hb with _ hb
  exact hne hb
theorem XOwns.grown (h:XOwns w base e size A n cap xs) (hg:w.grownBy w' r) (hne:blkOf A = none ∨ blkOf A ≠ r):XOwns w' base e size A n cap xs:=⟨h.1.kept hg (by rw [blkOf_own];exact hne),h.2⟩
theorem XOwns.below (h:XOwns w base e size A n cap xs) (hb:Below w.heap.size w w'):XOwns w' base e size A n cap xs:=⟨own_below h.1 hb,h.2⟩
theorem XOwns.put {p:Nat} {i:Nat} {u:Value} (h:XOwns w base e size A n cap xs) (hne:blkOf A ≠ some p):XOwns (w.setCell ⟨p,i,none⟩ u) base e size A n cap xs:=h.grown (only_setCell (only_refl _ _) (.inl rfl) _) (.inr hne)
theorem XOwns.lt (h:XOwns w base e size A n cap xs):∀ g,blkOf A = some g → base ≤ g ∧ g < w.heap.size:=fun g hg => h.1.lt g (by rw [blkOf_own];exact hg)
theorem XOwns.len (h:XOwns w base e size A n cap xs):xs.length = n * size:=h.1.1
theorem XOwns.reads (h:XOwns w base e size A n cap xs):Reads w size A n xs:=Reads.of_own h.1
end
theorem BOwns.x {w:World} {base:Nat} {e:TypeId} {A:Option Addr} {n cap:Nat} {xs:List Int} (h:BOwns w base e A n cap xs):XOwns w base e 1 A n cap (bys xs):=⟨h.1,h.2.2⟩
theorem XOwns.b {w:World} {base:Nat} {e:TypeId} {A:Option Addr} {n cap:Nat} {xs:List Int} (h:XOwns w base e 1 A n cap (bys xs)) (hb:IsBytes xs):BOwns w base e A n cap xs:=⟨h.1,hb,h.2⟩


theorem append_x_op {P:Program} {w:World} {o:Oper} {a:Act} {K:Act → World → Prop} {Q:Exit → Act → World → Prop} (s x:Operand) (t:TypeId)
  (ho:o.op = .call { callee:=.builtin .append,args:=#[s,x],argTypes:=#[t,t] })
  (base:Nat) (e:TypeId) (z:Value) (size bytes:Nat) (hrow:(P.info? e).map (fun i => (i.zero,i.size,i.bytes)) = some (some z,size,bytes)) (ht:P.underlying t = some (.slice e)) (hzs:z.cells.size = size) (hsz:0 < size)
  (A:Option Addr) (n cap:Nat) (xs:List Value) (hs:a.eval s = .slice A n cap) (hown:XOwns w base e size A n cap xs)
  (A':Option Addr) (m c:Nat) (news:List Value) (hx:a.eval x = .slice A' m c) (hr:Reads w size A' m news) (h1:∀ u ∈ news,u.oneCell' = true) (hm:0 < m)
  (hbd:(n + m) * bytes ≤ 140737488355328) (hbd2:n + m ≤ 140737488355328) (hbase:base ≤ w.heap.size) (H:Nat) (hH:w.heap.size = H)
  (h:∀ g cap2 w',XOwns w' base e size (some ⟨g,0,none⟩) (n + m) cap2 (xs ++ news) → w.grownBy w' (blkOf A) → (blkOf A = some g ∨ g = H) → g < w'.heap.size → K (a.put o.dst (.slice (some ⟨g,0,none⟩) (n + m) cap2)) w'):o.wp P a w K Q:=by
 obtain ⟨i0,hi,hz0,hz1,hz2⟩:=info_parts hrow
 obtain ⟨ad,rfl,hb,hc⟩:=hr.2 hm
 refine wp_append_lies w s x t ho base e i0 z size bytes ht hi hz0 hz1 hz2 hzs hsz _ n xs hs hown.1 ad m c news hx hr.1 hc h1 hm (by unfold maxLen;omega) hbd hbase H hH ?_
 intro g cap2 w' ho' hg hiff hlt
 rw [blkOf_own] at hg hiff
 exact h g cap2 w' ⟨ho',fun h => by cases h⟩ hg hiff hlt
theorem append_x {P:Program} {w:World} {ops:Array Oper} {rest:List Oper} {o:Oper} {a:Act} {Q:Exit → Act → World → Prop} (hgd:o.guard = none) (s x:Operand) (t:TypeId)
  (ho:o.op = .call { callee:=.builtin .append,args:=#[s,x],argTypes:=#[t,t] })
  (base:Nat) (e:TypeId) (z:Value) (size bytes:Nat) (hrow:(P.info? e).map (fun i => (i.zero,i.size,i.bytes)) = some (some z,size,bytes)) (ht:P.underlying t = some (.slice e)) (hzs:z.cells.size = size) (hsz:0 < size)
  (A:Option Addr) (n cap:Nat) (xs:List Value) (hs:a.eval s = .slice A n cap) (hown:XOwns w base e size A n cap xs)
  (A':Option Addr) (m c:Nat) (news:List Value) (hx:a.eval x = .slice A' m c) (hr:Reads w size A' m news) (h1:∀ u ∈ news,u.oneCell' = true) (hm:0 < m)
  (hbd:(n + m) * bytes ≤ 140737488355328) (hbd2:n + m ≤ 140737488355328) (hbase:base ≤ w.heap.size) (H:Nat) (hH:w.heap.size = H)
  (h:∀ g cap2 w',XOwns w' base e size (some ⟨g,0,none⟩) (n + m) cap2 (xs ++ news) → w.grownBy w' (blkOf A) → (blkOf A = some g ∨ g = H) → g < w'.heap.size → wpList P ops Q rest (a.put o.dst (.slice (some ⟨g,0,none⟩) (n + m) cap2)) w'):wpList P ops Q (o :: rest) a w :=
 wpList_plain hgd fun _ hK => append_x_op s x t ho base e z size bytes hrow ht hzs hsz A n cap xs hs hown A' m c news hx hr h1 hm hbd hbd2 hbase H hH fun g cap2 w' h2 h3 h4 h5 => hK _ _ (h g cap2 w' h2 h3 h4 h5)
theorem append_nil_op {P:Program} {w:World} {o:Oper} {a:Act} {K:Act → World → Prop} {Q:Exit → Act → World → Prop} (s x:Operand) (t:TypeId)
  (ho:o.op = .call { callee:=.builtin .append,args:=#[s,x],argTypes:=#[t,t] })
  (e:TypeId) (z:Value) (size bytes:Nat) (hrow:(P.info? e).map (fun i => (i.zero,i.size,i.bytes)) = some (some z,size,bytes)) (ht:P.underlying t = some (.slice e)) (hzs:z.cells.size = size) (hsz:0 < size)
  (hs:a.eval s = .slice none 0 0) (A:Option Addr) (m c:Nat) (news:List Value) (hx:a.eval x = .slice A m c) (hA:A = none → c = 0) (hr:Reads w size A m news) (h1:∀ u ∈ news,u.oneCell' = true)
  (hbd:m * bytes ≤ 140737488355328) (hbd2:m ≤ 140737488355328)
  (h:∀ A2 c2 w',XOwns w' w.heap.size e size A2 m c2 news → Below w.heap.size w w' → K (a.put o.dst (.slice A2 m c2)) w'):o.wp P a w K Q:=by
 obtain ⟨i0,hi,hz0,hz1,hz2⟩:=info_parts hrow
 cases A with
 | none =>
  have hc:=hA rfl
  subst hc
  have hm:m = 0:=by
   rcases Nat.eq_zero_or_pos m with h0 | h0
   ·exact h0
   ·obtain ⟨ad,e,_⟩:=hr.2 h0
    cases e
  subst hm
  have hn:news = []:=List.eq_nil_of_length_eq_zero (by rw [hr.1];simp)
  subst hn
  have hrun:=run_append_owned_none (P:=P) (w:=w) w.heap.size t o.type e i0 size ht hi (.slice none 0 0) 0 [] (World.ownsRow_nil _ _ _ _)
  unfold Oper.wp
  simp [execOp,ho,resolve,invoke,builtin,hs,hx,hrun,Result.andThen]
  exact h none 0 w ⟨World.ownsRow_nil _ _ _ _,fun _ => rfl⟩ (Below.refl _ _)
 | some ad =>
  have hc:∀ j u,news[j]? = some u → w.cell? (ad.add j) = some u:=by
   intro j u hj
   have hm:0 < m:=by
    rcases Nat.eq_zero_or_pos m with h0 | h0
    ·subst h0
     have hn:news = []:=List.eq_nil_of_length_eq_zero (by rw [hr.1];simp)
     subst hn
     simp at hj
    ·exact h0
   obtain ⟨ad',e',_,hc⟩:=hr.2 hm
   injection e' with e'
   subst e'
   exact hc j u hj
  refine wp_append_own w s x t ho w.heap.size e i0 z size bytes ht hi hz0 hz1 hz2 hzs hsz (.slice none 0 0) 0 [] hs (World.ownsRow_nil _ _ _ _) ad m c news hx hr.1 hc h1 (by unfold maxLen;omega) (by simpa using hbd) (Nat.le_refl _) ?_
  intro v' w' h2 hg _
  rw [Nat.zero_add,List.nil_append] at h2
  have hb:Below w.heap.size w w':=(Below.refl _ _).grown hg (Nat.le_refl _) (fun k hk => by cases hk)
  rcases h2.2 with ⟨h0,h00⟩ | ⟨g,cap,cur,h0,_⟩
  ·subst h0
   subst h00
   exact h none 0 w' ⟨h2,fun _ => rfl⟩ hb
  ·subst h0
   exact h _ cap w' ⟨h2,fun h => by cases h⟩ hb
theorem append_nil {P:Program} {w:World} {ops:Array Oper} {rest:List Oper} {o:Oper} {a:Act} {Q:Exit → Act → World → Prop} (hgd:o.guard = none) (s x:Operand) (t:TypeId)
  (ho:o.op = .call { callee:=.builtin .append,args:=#[s,x],argTypes:=#[t,t] })
  (e:TypeId) (z:Value) (size bytes:Nat) (hrow:(P.info? e).map (fun i => (i.zero,i.size,i.bytes)) = some (some z,size,bytes)) (ht:P.underlying t = some (.slice e)) (hzs:z.cells.size = size) (hsz:0 < size)
  (hs:a.eval s = .slice none 0 0) (A:Option Addr) (m c:Nat) (news:List Value) (hx:a.eval x = .slice A m c) (hA:A = none → c = 0) (hr:Reads w size A m news) (h1:∀ u ∈ news,u.oneCell' = true)
  (hbd:m * bytes ≤ 140737488355328) (hbd2:m ≤ 140737488355328)
  (h:∀ A2 c2 w',XOwns w' w.heap.size e size A2 m c2 news → Below w.heap.size w w' → wpList P ops Q rest (a.put o.dst (.slice A2 m c2)) w'):wpList P ops Q (o :: rest) a w :=
 wpList_plain hgd fun _ hK => append_nil_op s x t ho e z size bytes hrow ht hzs hsz hs A m c news hx hA hr h1 hbd hbd2 fun A2 c2 w' h2 h3 => hK _ _ (h A2 c2 w' h2 h3)
theorem reads_block {w:World} {g:Nat} {t:TypeId} {cs:Array Value} (h:Blk w g t cs) (size n:Nat) (hn:cs.size = n * size):Reads w size (some ⟨g,0,none⟩) n cs.toList :=
 ⟨by simpa using hn,fun _ => ⟨_,rfl,h.lt,fun j u hu => by
  have e:(⟨g,0,none⟩:Addr).add j = ⟨g,j,none⟩:=by unfold Addr.add;split <;> simp_all
  rw [e,h.at_]
  simpa using hu⟩⟩

structure OnlyF (F:Nat → Prop) (w w':World):Prop where
 os:w'.os = w.os
 tape:w'.tape = w.tape
 output:w'.output = w.output
 size:w.heap.size ≤ w'.heap.size
 block:∀ i,i < w.heap.size → ¬ F i → w'.heap[i]? = w.heap[i]?
theorem OnlyF.below {F:Nat → Prop} {B:Nat} {w w':World} (h:OnlyF F w w') (hB:B ≤ w.heap.size) (hF:∀ i,F i → B ≤ i):Below B w w' :=
 ⟨h.os,h.tape,h.output,h.size,fun i hi => h.block i (by omega) fun hf => by have:=hF i hf;omega⟩
theorem OnlyF.of_grown {F:Nat → Prop} {w w':World} {r:Option Nat} (h:w.grownBy w' r) (hF:∀ i,r = some i → F i):OnlyF F w w' :=
 ⟨h.os,h.tape,h.output,h.size,fun i hi hn => h.block i hi fun e => hn (hF i e.symm)⟩
theorem OnlyF.of_below {F:Nat → Prop} {w w':World} (h:Below w.heap.size w w'):OnlyF F w w':=⟨h.os,h.tape,h.output,h.size,fun i hi _ => h.block i hi⟩
theorem OnlyF.refl {F:Nat → Prop} (w:World):OnlyF F w w:=OnlyF.of_below (Below.refl _ _)
theorem OnlyF.trans {F G:Nat → Prop} {a b c:World} (h:OnlyF F a b) (h':OnlyF G b c) (hG:∀ i,G i → i < a.heap.size → F i):OnlyF F a c :=
 ⟨h'.os.trans h.os,h'.tape.trans h.tape,h'.output.trans h.output,Nat.le_trans h.size h'.size,fun i hi hn => (h'.block i (Nat.lt_of_lt_of_le hi h.size) fun hg => hn (hG i hg hi)).trans (h.block i hi hn)⟩
theorem OnlyF.more {F G:Nat → Prop} {w w':World} (h:OnlyF F w w') (hG:∀ i,F i → G i):OnlyF G w w':=⟨h.os,h.tape,h.output,h.size,fun i hi hn => h.block i hi fun hf => hn (hG i hf)⟩
theorem OnlyF.then {F:Nat → Prop} {a b c:World} (h:OnlyF F a b) (h':Below b.heap.size b c):OnlyF F a c:=h.trans (OnlyF.of_below (F:=fun _ => False) h') fun _ hf => hf.elim
theorem OnlyF.drew {F:Nat → Prop} {w w':World} (h:OnlyF F w w'):OnlyF F w w'.drew:=h.then (Below.refl _ _).drew
theorem OnlyF.alloc {F:Nat → Prop} {w w':World} (h:OnlyF F w w') (o:Obj):OnlyF F w (w'.alloc o):=h.then ((Below.refl _ _).alloc (Nat.le_refl _) o)
theorem OnlyF.put {F:Nat → Prop} {w w':World} (h:OnlyF F w w') {p:Addr} (hp:F p.block ∨ w.heap.size ≤ p.block) (u:Value):OnlyF F w (w'.setCell p u) :=
 ⟨h.os,h.tape,h.output,by simpa [World.setCell] using h.size,fun i hi hn => (Below.heap_setCell w' p u i (by
  rintro rfl
  rcases hp with hp | hp
  ·exact hn hp
  ·omega)).trans (h.block i hi hn)⟩
section
variable {w w':World}
theorem Reads.onlyF {F:Nat → Prop} {size n:Nat} {A:Option Addr} {xs:List Value} (h:Reads w size A n xs) (ho:OnlyF F w w') (hF:0 < n → ∀ i,blkOf A = some i → ¬ F i):Reads w' size A n xs :=
 ⟨h.1,fun hn => by
  obtain ⟨ad,rfl,hb,hc⟩:=h.2 hn
  refine ⟨ad,rfl,Nat.lt_of_lt_of_le hb ho.size,fun j u hu => (World.cell?_of_block (ho.block _ (by rw [block_of_add];exact hb) ?_)).trans (hc j u hu)⟩
  rw [block_of_add]
  exact hF hn _ rfl⟩
theorem Blk.onlyF {F:Nat → Prop} {g:Nat} {t:TypeId} {cs:Array Value} (h:Blk w g t cs) (ho:OnlyF F w w') (hF:¬ F g):Blk w' g t cs:=(ho.block g h.lt hF).trans h
theorem XOwns.onlyF {F:Nat → Prop} {base:Nat} {e:TypeId} {size:Nat} {A:Option Addr} {n cap:Nat} {xs:List Value} (h:XOwns w base e size A n cap xs) (ho:OnlyF F w w') (hF:∀ i,blkOf A = some i → ¬ F i):XOwns w' base e size A n cap xs:=by
 refine ⟨⟨h.1.1,?_⟩,h.2⟩
 rcases h.1.2 with h0 | ⟨g,c,cur,h1,h2,h3,h4⟩
 ·exact .inl h0
 ·refine .inr ⟨g,c,cur,h1,h2,?_,h4⟩
  injection h1 with h1
  have hlt:g < w.heap.size:=by
   rcases Nat.lt_or_ge g w.heap.size with h' | h'
   ·exact h'
   ·rw [Array.getElem?_eq_none h'] at h3;cases h3
  exact (ho.block g hlt (hF g (by rw [h1];rfl))).trans h3
theorem XOwns.more {base base':Nat} {e:TypeId} {size:Nat} {A:Option Addr} {n cap:Nat} {xs:List Value} (h:XOwns w base e size A n cap xs) (hb:base' ≤ base):XOwns w base' e size A n cap xs:=by
 refine ⟨⟨h.1.1,?_⟩,h.2⟩
 rcases h.1.2 with h0 | ⟨g,c,cur,h1,h2,h3⟩
 ·exact .inl h0
 ·exact .inr ⟨g,c,cur,h1,by omega,h3⟩
theorem XOwns.capOk {base:Nat} {e:TypeId} {size:Nat} {A:Option Addr} {n cap:Nat} {xs:List Value} (h:XOwns w base e size A n cap xs):n ≤ cap ∧ cap ≤ 9223372036854775807:=by
 rcases h.1.2 with ⟨h0,h1⟩ | ⟨g,c,cur,h1,h2,h3,h4,h5,_⟩
 ·injection h0 with _ _ h0
  omega
 ·injection h1 with _ _ h1
  unfold maxLen at h5
  omega
theorem XOwns.nil_ (w:World) (base:Nat) (e:TypeId) (size:Nat):XOwns w base e size none 0 0 []:=⟨World.ownsRow_nil _ _ _ _,fun _ => rfl⟩
theorem XOwns.cell {base:Nat} {e:TypeId} {size:Nat} {A:Option Addr} {n cap:Nat} {xs:List Value} (h:XOwns w base e size A n cap xs) {j:Nat} {u:Value} (hj:xs[j]? = some u):∃ g,A = some ⟨g,0,none⟩ ∧ base ≤ g ∧ g < w.heap.size ∧ w.cell? ⟨g,j,none⟩ = some u ∧ w.frozen? ⟨g,j,none⟩ = false:=by
 have hn:0 < n:=by
  rcases Nat.eq_zero_or_pos n with h0 | h0
  ·subst h0
   have:=h.1.1
   simp at this
   subst this
   simp at hj
  ·exact h0
 obtain ⟨g,c,hv,h1,h2⟩:=h.1.form hn
 injection hv with hv
 subst hv
 refine ⟨g,rfl,h1,h2,?_,h.1.frozenAt j⟩
 have:=h.1.cells (g:=g) rfl j u hj
 have e:(⟨g,0,none⟩:Addr).add j = ⟨g,j,none⟩:=by unfold Addr.add;split <;> simp_all
 rwa [e] at this
end

def wfI (x:Int):Prop:=-9223372036854775808 ≤ x ∧ x ≤ 9223372036854775807
theorem wfI.lit {x:Int} (h:wfI x):(Lit.int .i64 x).wf = true:=by
 unfold wfI at h
 simp [Lit.wf,IntKind.min,IntKind.max,IntKind.signed,IntKind.bits]
 omega
theorem keyI:Go.Maps.Keyed Tryz.prog 3:=Go.Maps.int_keyed Tryz.underlying3
theorem keyOfI {x:Int} (h:wfI x):keyOf Tryz.prog 3 (.int .i64 x) = some (.int .i64 x):=Go.Maps.keyOf_int_mk Tryz.underlying3 h.lit
theorem isKeyI (x:Int):WideAt.IsKeyLit (.int .i64 x):=trivial
theorem litNe {x y:Int} (h:x ≠ y):(Lit.int .i64 x) ≠ Lit.int .i64 y:=fun e => h (by injection e)
theorem zero3 (w:World):(zeroValue 3).run Tryz.prog w = .ok (.int .i64 0) w:=by kernel_rfl
theorem zero4 (w:World):(zeroValue 4).run Tryz.prog w = .ok (.bool false) w:=by kernel_rfl

structure MapR (R:Value → Option (DataW Unit × List MemPlace)) (w:World) (g n:Nat) (f:Int → Option (DataW Unit)) (D:DataW Unit):Prop where
 own:w.ownsMap Tryz.prog 3 R g n D
 size:Maps.size D = n
 has:∀ x,wfI x → Maps.has D (.int .i64 x) = (f x).isSome
 at_:∀ x d z,wfI x → f x = some d → D.atKey (.int .i64 x) z = d
section
variable {R:Value → Option (DataW Unit × List MemPlace)} {w w':World} {g n:Nat} {f:Int → Option (DataW Unit)} {D:DataW Unit}
theorem own_tight {m:Nat} (h:w.ownsMap Tryz.prog 3 R g m D):w.ownsMap Tryz.prog 3 R g (Maps.size D) D:=by
 obtain ⟨es,clock,hb,F,hs,hD⟩:=h
 refine ⟨es,clock,hb,F,?_,hD⟩
 rw [hD]
 simp [Maps.size,length_sorted]
theorem MapR.make (w:World) (R:Value → Option (DataW Unit × List MemPlace)):MapR R (w.alloc (.map #[] 0)) w.heap.size 0 (fun _ => none) (.map []) :=
 ⟨World.ownsMap_made _ _ _ _,rfl,fun x _ => rfl,fun x d z _ h => by cases h⟩
theorem MapR.lt (h:MapR R w g n f D):g < w.heap.size:=h.own.lt
theorem MapR.kept {row:Option Nat} (h:MapR R w g n f D) (hg:w.grownBy w' row) (hne:some g ≠ row):MapR R w' g n f D:=⟨h.own.kept hg hne,h.size,h.has,h.at_⟩
theorem MapR.below (h:MapR R w g n f D) (hb:Below w.heap.size w w'):MapR R w' g n f D:=by
 obtain ⟨es,clock,h1,F,hs,hD⟩:=h.own
 exact ⟨⟨es,clock,(hb.block g h.lt).trans h1,F,hs,hD⟩,h.size,h.has,h.at_⟩
theorem MapR.onlyF {F:Nat → Prop} (h:MapR R w g n f D) (ho:OnlyF F w w') (hF:¬ F g):MapR R w' g n f D:=by
 obtain ⟨es,clock,h1,F2,hs,hD⟩:=h.own
 exact ⟨⟨es,clock,(ho.block g h.lt hF).trans h1,F2,hs,hD⟩,h.size,h.has,h.at_⟩
theorem MapR.far (h:MapR R w g n f D) {p:Addr} (hp:g ≠ p.block) (u:Value):MapR R (w.setCell p u) g n f D:=⟨h.own.setCell hp u,h.size,h.has,h.at_⟩
theorem MapR.put {t e:TypeId} (h:MapR R w g n f D) (ht:Tryz.prog.underlying t = some (.map 3 e)) {x:Int} (hx:wfI x) {v:Value} {d:DataW Unit} {ps:List MemPlace} (hv:R v = some (d,ps)) (hn:n < maxLen) :
  ∃ w',(Instr.mapUpdate t (.map (some g)) (.int .i64 x) v).run Tryz.prog w = .ok () w' ∧ MapR R w' g (if (f x).isSome then n else n + 1) (fun y => if y = x then some d else f y) (D.put (.int .i64 x) d) ∧ w.grownBy w' (some g):=by
 obtain ⟨w',hrun,hown,hgr⟩:=h.own.update keyI ht hn (keyOfI hx) hv
 have hT:=h.own.tidy keyI
 have hM:=h.own.isMap
 have hsz:=Maps.size_put (k:=.int .i64 x) hT d
 rw [h.has x hx,h.size] at hsz
 refine ⟨w',hrun,⟨?_,hsz,fun y hy => ?_,fun y d' z hy hf => ?_⟩,hgr⟩
 ·have:=own_tight hown
  rwa [hsz] at this
 ·by_cases e:y = x
  ·subst e
   rw [Maps.has_put_same hM (isKeyI y) d,if_pos rfl]
   rfl
  ·rw [Maps.has_put_other (litNe e) d,h.has y hy,if_neg e]
 ·by_cases e:y = x
  ·subst e
   rw [if_pos rfl] at hf
   rw [Maps.atKey_put_same hM (isKeyI y) d z,Option.some.inj hf]
  ·rw [if_neg e] at hf
   rw [Maps.atKey_put_other (litNe e) d z,h.at_ y d' z hy hf]
theorem MapR.look {t e:TypeId} (h:MapR R w g n f D) (ht:Tryz.prog.underlying t = some (.map 3 e)) {z:Value} (hz:(zeroValue e).run Tryz.prog w = .ok z w) {zd:DataW Unit} {zp:List MemPlace} (hzd:R z = some (zd,zp)) {x:Int} (hx:wfI x) :
  ∃ v ps,(Instr.lookup t (.map (some g)) (.int .i64 x) true).run Tryz.prog w = .ok (.tuple #[v,.bool (f x).isSome]) w ∧ R v = some ((f x).getD zd,ps):=by
 obtain ⟨v,ps,hrun,hv⟩:=h.own.look_ok keyI ht hz hzd (keyOfI hx)
 rw [h.has x hx] at hrun
 refine ⟨v,ps,hrun,?_⟩
 rw [hv]
 cases hf:f x with
 | none => rw [Maps.atKey_of_not_has (by rw [h.has x hx,hf];rfl)];rfl
 | some d => rw [h.at_ x d zd hx hf];rfl
theorem MapR.get {t e:TypeId} (h:MapR R w g n f D) (ht:Tryz.prog.underlying t = some (.map 3 e)) {z:Value} (hz:(zeroValue e).run Tryz.prog w = .ok z w) {zd:DataW Unit} {zp:List MemPlace} (hzd:R z = some (zd,zp)) {x:Int} (hx:wfI x) :
  ∃ v ps,(Instr.lookup t (.map (some g)) (.int .i64 x) false).run Tryz.prog w = .ok v w ∧ R v = some ((f x).getD zd,ps):=by
 obtain ⟨v,ps,hrun,hv⟩:=h.own.lookup keyI ht hz hzd (keyOfI hx)
 refine ⟨v,ps,hrun,?_⟩
 rw [hv]
 cases hf:f x with
 | none => rw [Maps.atKey_of_not_has (by rw [h.has x hx,hf];rfl)];rfl
 | some d => rw [h.at_ x d zd hx hf];rfl
theorem MapR.len {t e:TypeId} (h:MapR R w g n f D) (ht:Tryz.prog.underlying t = some (.map 3 e)) (ty:TypeId):(Builtin.len_ #[t] ty #[.map (some g)]).run Tryz.prog w = .ok (.int .i64 n) w:=by
 rw [h.own.len ht ty,h.size]
end

/-! ### To numbers -/
def MapN (w:World) (g n:Nat) (f:Int → Option Int):Prop:=∃ D,MapR (plainElem Tryz.prog 3) w g n (fun x => (f x).map fun v => .lit (.int .i64 v)) D
def putF {α:Type} (f:Int → Option α) (x:Int) (v:α):Int → Option α:=fun y => if y = x then some v else f y
section
variable {w w':World} {g n:Nat} {f:Int → Option Int}
theorem MapN.make (w:World):MapN (w.alloc (.map #[] 0)) w.heap.size 0 (fun _ => none):=⟨_,MapR.make w _⟩
theorem MapN.lt (h:MapN w g n f):g < w.heap.size:=h.choose_spec.lt
theorem MapN.below (h:MapN w g n f) (hb:Below w.heap.size w w'):MapN w' g n f:=⟨_,h.choose_spec.below hb⟩
theorem MapN.kept {row:Option Nat} (h:MapN w g n f) (hg:w.grownBy w' row) (hne:some g ≠ row):MapN w' g n f:=⟨_,h.choose_spec.kept hg hne⟩
theorem MapN.far (h:MapN w g n f) {p:Addr} (hp:g ≠ p.block) (u:Value):MapN (w.setCell p u) g n f:=⟨_,h.choose_spec.far hp u⟩
theorem MapN.put (h:MapN w g n f) {x v:Int} (hx:wfI x) (hv:wfI v) (hn:n < maxLen) :
  ∃ w',(Instr.mapUpdate 52 (.map (some g)) (.int .i64 x) (.int .i64 v)).run Tryz.prog w = .ok () w' ∧ MapN w' g (if (f x).isSome then n else n + 1) (putF f x v) ∧ w.grownBy w' (some g):=by
 obtain ⟨D,h⟩:=h
 obtain ⟨w',hrun,hm,hg⟩:=h.put Tryz.underlying52 hx (plainElem_int Tryz.underlying3 hv.lit) hn
 refine ⟨w',hrun,⟨D.put (.int .i64 x) (.lit (.int .i64 v)),?_⟩,hg⟩
 have e:(fun y => (putF f x v y).map fun v => DataW.lit (.int .i64 v)) = fun y => if y = x then some (DataW.lit (.int .i64 v)) else (f y).map fun v => DataW.lit (H:=Unit) (.int .i64 v):=by
  funext y
  unfold putF
  split <;> rfl
 rw [e]
 simpa using hm
theorem MapN.look (h:MapN w g n f) {x:Int} (hx:wfI x):(Instr.lookup 52 (.map (some g)) (.int .i64 x) true).run Tryz.prog w = .ok (.tuple #[.int .i64 ((f x).getD 0),.bool (f x).isSome]) w:=by
 obtain ⟨D,h⟩:=h
 obtain ⟨v,ps,hrun,hv⟩:=h.look Tryz.underlying52 (zero3 w) (plainElem_int (H:=Unit) Tryz.underlying3 (a:=0) (by decide)) hx
 rw [hrun]
 obtain ⟨a,rfl,he,_⟩:=plainElem_int_inv Tryz.underlying3 hv
 have he1:=congrArg Prod.fst he
 cases hf:f x with
 | none =>
  rw [hf] at he1
  simp only [Option.map_none,Option.getD_none,DataW.lit.injEq,Lit.int.injEq,true_and] at he1
  rw [← he1]
  rfl
 | some c =>
  rw [hf] at he1
  simp only [Option.map_some,Option.getD_some,DataW.lit.injEq,Lit.int.injEq,true_and] at he1
  rw [← he1]
  rfl
theorem MapN.len (h:MapN w g n f) (ty:TypeId):(Builtin.len_ #[52] ty #[.map (some g)]).run Tryz.prog w = .ok (.int .i64 n) w:=h.choose_spec.len Tryz.underlying52 ty
end
/-! ### To truths -/
theorem plainElem_bool_inv {H:Type} {P:Program} {e:TypeId} (he:P.underlying e = some .bool) {v:Value} {z:DataW H × List MemPlace} (h:plainElem P e v = some z):∃ x,v = .bool x ∧ z = (.lit (.bool x),[]):=by
 unfold plainElem at h
 rw [he] at h
 cases v <;> simp at h
 exact ⟨_,rfl,h.symm⟩
def MapB (w:World) (g n:Nat) (f:Int → Option Bool):Prop:=∃ D,MapR (plainElem Tryz.prog 4) w g n (fun x => (f x).map fun v => .lit (.bool v)) D
section
variable {w w':World} {g n:Nat} {f:Int → Option Bool}
theorem MapB.make (w:World):MapB (w.alloc (.map #[] 0)) w.heap.size 0 (fun _ => none):=⟨_,MapR.make w _⟩
theorem MapB.lt (h:MapB w g n f):g < w.heap.size:=h.choose_spec.lt
theorem MapB.below (h:MapB w g n f) (hb:Below w.heap.size w w'):MapB w' g n f:=⟨_,h.choose_spec.below hb⟩
theorem MapB.kept {row:Option Nat} (h:MapB w g n f) (hg:w.grownBy w' row) (hne:some g ≠ row):MapB w' g n f:=⟨_,h.choose_spec.kept hg hne⟩
theorem MapB.far (h:MapB w g n f) {p:Addr} (hp:g ≠ p.block) (u:Value):MapB (w.setCell p u) g n f:=⟨_,h.choose_spec.far hp u⟩
theorem MapB.put (h:MapB w g n f) {x:Int} {v:Bool} (hx:wfI x) (hn:n < maxLen) :
  ∃ w',(Instr.mapUpdate 69 (.map (some g)) (.int .i64 x) (.bool v)).run Tryz.prog w = .ok () w' ∧ MapB w' g (if (f x).isSome then n else n + 1) (putF f x v) ∧ w.grownBy w' (some g):=by
 obtain ⟨D,h⟩:=h
 obtain ⟨w',hrun,hm,hg⟩:=h.put Tryz.underlying69 hx (plainElem_bool Tryz.underlying4 v) hn
 refine ⟨w',hrun,⟨D.put (.int .i64 x) (.lit (.bool v)),?_⟩,hg⟩
 have e:(fun y => (putF f x v y).map fun v => DataW.lit (.bool v)) = fun y => if y = x then some (DataW.lit (.bool v)) else (f y).map fun v => DataW.lit (H:=Unit) (.bool v):=by
  funext y
  unfold putF
  split <;> rfl
 rw [e]
 simpa using hm
theorem MapB.get (h:MapB w g n f) {x:Int} (hx:wfI x):(Instr.lookup 69 (.map (some g)) (.int .i64 x) false).run Tryz.prog w = .ok (.bool ((f x).getD false)) w:=by
 obtain ⟨D,h⟩:=h
 obtain ⟨v,ps,hrun,hv⟩:=h.get Tryz.underlying69 (zero4 w) (plainElem_bool (H:=Unit) Tryz.underlying4 false) hx
 rw [hrun]
 obtain ⟨a,rfl,he⟩:=plainElem_bool_inv Tryz.underlying4 hv
 have he1:=congrArg Prod.fst he
 cases hf:f x with
 | none =>
  rw [hf] at he1
  simp only [Option.map_none,Option.getD_none,DataW.lit.injEq,Lit.bool.injEq] at he1
  rw [← he1]
  rfl
 | some c =>
  rw [hf] at he1
  simp only [Option.map_some,Option.getD_some,DataW.lit.injEq,Lit.bool.injEq] at he1
  rw [← he1]
  rfl
end

def RowR (w:World) (size:Nat) (A:Option Addr) (n:Nat) (rows:List (List Value)):Prop :=
 Reads w size A n rows.flatten ∧ (∀ r ∈ rows,r.length = size) ∧ rows.length = n
theorem flatten_at {size:Nat}:∀ (rows:List (List Value)),(∀ r ∈ rows,r.length = size) → ∀ (k:Nat) (r:List Value),rows[k]? = some r → ∀ j,j < size → rows.flatten[k * size + j]? = r[j]?
 | [],_,k,r,h,_,_ => by simp at h
 | q :: rows,hs,k,r,h,j,hj => by
  have hq:=hs q (List.mem_cons_self ..)
  match k,h with
  | 0,h =>
   simp at h
   subst h
   rw [List.flatten_cons,List.getElem?_append_left (by omega)]
   simp
  | k + 1,h =>
   rw [List.flatten_cons,List.getElem?_append_right (by rw [hq,Nat.add_mul];omega),show (k + 1) * size + j - q.length = k * size + j from by rw [hq,Nat.add_mul];omega]
   exact flatten_at rows (fun r hr => hs r (List.mem_cons_of_mem _ hr)) k r (by simpa using h) j hj
section
variable {w w':World} {size n:Nat} {A:Option Addr} {rows:List (List Value)}
theorem RowR.below (h:RowR w size A n rows) (hb:Below w.heap.size w w'):RowR w' size A n rows:=⟨h.1.below hb,h.2⟩
theorem RowR.nil (w:World) (size:Nat):RowR w size none 0 []:=⟨Reads.none_,(fun _ h => by cases h),rfl⟩
theorem RowR.at_ (h:RowR w size A n rows) {k:Nat} (hk:k < n):∃ (ad:Addr) (r:List Value),A = some ad ∧ ad.block < w.heap.size ∧ rows[k]? = some r ∧ r.length = size ∧ ∀ j u,r[j]? = some u → w.cell? (ad.add (k * size + j)) = some u:=by
 obtain ⟨h1,h2,h3⟩:=h
 obtain ⟨ad,e,hb,hc⟩:=h1.2 (by omega)
 have hg:rows[k]? = some (rows[k]'(by omega)):=List.getElem?_eq_getElem (by omega)
 have hr:=h2 _ (List.getElem_mem (by omega:k < rows.length))
 refine ⟨ad,_,e,hb,hg,hr,fun j u hu => hc _ _ ?_⟩
 have hj:j < size:=by
  rcases Nat.lt_or_ge j size with h' | h'
  ·exact h'
  ·rw [List.getElem?_eq_none (by omega)] at hu;cases hu
 rw [flatten_at rows h2 k _ hg j hj]
 exact hu
end
theorem part_at {w:World} {a:Addr} {i:Nat} {v:Value} (j:Nat) (h:w.cell? (a.add (i + (j + 1))) = some v):w.cell? ⟨(a.add i).block,(a.add i).off + (j + 1),none⟩ = some v:=by
 rw [← add_of_add] at h
 generalize a.add i = b at *
 simpa [Addr.add] using h
end Go.Proofs.YtagpphelgghbpaaGreat
