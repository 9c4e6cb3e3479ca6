/-
  Texts: Mxa.
-/
import Derived.Test.YtagpphelgghbpaaGreatMk18
import Derived.Test.YtagpphelgghbpaaGreatMk17
set_option linter.unusedSimpArgs false
set_option linter.unusedVariables false
namespace Go.Proofs.YtagpphelgghbpaaGreat
open Go.RowKit

theorem XOwns.ofBlk_ {W:World} {B e size n c:Nat} {A:Option Addr} {xs:List Value} (h:XOwns W B e size A n c xs) (hn:0 < n):∃ g cur,A = some ⟨g,0,none⟩ ∧ B ≤ g ∧ Blk W g e cur ∧ cur.toList.take (n * size) = xs:=by
 rcases h.1.2 with ⟨h0,h1⟩ | ⟨g,c',cur,h1,h2,h3,h4,h5,h6,h7⟩
 ·injection h0 with h0 h0b h0c
  omega
 ·injection h1 with h1 h1b h1c
  exact ⟨g,cur,h1,h2,h3,h7⟩
theorem MapB.del {w:World} {g n:Nat} {f:Int → Option Bool} (h:MapB w g n f) {x:Int} (hx:wfI x) (ty:TypeId) :
  ∃ w' n',(Builtin.delete_ #[69,3] ty #[.map (some g),.int .i64 x]).run Tryz.prog w = .ok (.tuple #[]) w' ∧ MapB w' g n' (fun y => if y = x then none else f y) ∧ w.grownBy w' (some g):=by
 obtain ⟨D,h⟩:=h
 obtain ⟨w',hrun,hown,ht⟩:=h.own.drop keyI Tryz.underlying69 (keyOfI hx) ty
 refine ⟨w',Maps.size (D.del (.int .i64 x)),hrun,⟨D.del (.int .i64 x),own_tight hown,rfl,fun y hy => ?_,fun y d z hy hf => ?_⟩,ht.grown⟩
 ·dsimp only
  by_cases e:y = x
  ·subst e
   rw [Maps.has_del_same,if_pos rfl]
   rfl
  ·rw [Maps.has_del_other (litNe e),h.has y hy,if_neg e]
 ·dsimp only at hf
  by_cases e:y = x
  ·subst e
   rw [if_pos rfl] at hf
   cases hf
  ·rw [if_neg e] at hf
   rw [Maps.atKey_del_other (litNe e)]
   exact h.at_ y d z hy hf
theorem delete_op {P:Program} {w w':World} {o:Oper} {a:Act} {K:Act → World → Prop} {Q:Exit → Act → World → Prop} (m x:Operand) (t k:TypeId)
  (ho:o.op = .call { callee:=.builtin .delete,args:=#[m,x],argTypes:=#[t,k] }) (g:Nat) (key:Value) (hm:a.eval m = .map (some g)) (hx:a.eval x = key)
  (hrun:(Builtin.delete_ #[t,k] o.type #[.map (some g),key]).run P w = .ok (.tuple #[]) w') (h:K (a.put o.dst (.tuple #[])) w'):o.wp P a w K Q:=by
 unfold Oper.wp
 simp [execOp,ho,resolve,invoke,builtin,hm,hx,hrun,Result.andThen]
 exact h
structure CellK (W:World) (g o:Nat) (v:Value):Prop where
 lt:g < W.heap.size
 c:W.cell? ⟨g,o,none⟩ = some v
theorem CellK.call {W W':World} {g o:Nat} {v:Value} (h:CellK W g o v) (hb:Below W.heap.size W W'):CellK W' g o v:=⟨Nat.lt_of_lt_of_le h.lt hb.size,(keep_at hb g h.lt o).trans h.c⟩
theorem CellK.grown {W W':World} {g o k:Nat} {v:Value} (h:CellK W g o v) (hg:W.grownBy W' (some k)) (hne:g ≠ k):CellK W' g o v:=⟨Nat.lt_of_lt_of_le h.lt hg.size,(only_cell hg g h.lt hne o).trans h.c⟩
theorem CellK.drew {W:World} {g o:Nat} {v:Value} (h:CellK W g o v):CellK W.drew g o v:=⟨h.lt,h.c⟩
theorem CellK.onlyF {W W':World} {F:Nat → Prop} {g o:Nat} {v:Value} (h:CellK W g o v) (ho:OnlyF F W W') (hF:¬ F g):CellK W' g o v:=⟨Nat.lt_of_lt_of_le h.lt ho.size,(World.cell?_of_block (ho.block g h.lt hF)).trans h.c⟩
theorem low_ne {W:World} {B e size n c g:Nat} {A:Option Addr} {xs:List Value} (h:XOwns W B e size A n c xs) (hlt:g < B):blkOf A = none ∨ blkOf A ≠ some g:=by
 cases hA:blkOf A with
 | none => exact .inl rfl
 | some k => exact .inr (fun e => by have:=(h.lt k hA).1;injection e with e;omega)
theorem IsO.low {W W':World} {B g:Nat} {s:Sl} {l:List It} {ts:List Sl} (h:IsO W B s l ts) (hg:W.grownBy W' (some g)) (hlt:g < B):IsO W' B s l ts :=
 ⟨h.len,h.row.grown hg (low_ne h.row hlt),fun i x t h1 h2 => (h.tg i x t h1 h2).grown hg (low_ne (h.tg i x t h1 h2) hlt)⟩
theorem BdO.low {W W':World} {B g:Nat} {b:Bd} {m:BdM} (h:BdO W B b m) (hg:W.grownBy W' (some g)) (hlt:g < B):BdO W' B b m :=
 ⟨h.O.grown hg (low_ne h.O hlt),fun q hq => (h.l q hq).grown hg (low_ne (h.l q hq) hlt),h.ap,h.S.low hg hlt,h.Q.low hg hlt,h.BK.grown hg (low_ne h.BK hlt)⟩
theorem off_ints:offT 25:=by unfold offT;decide
theorem ocs_set {l:List Ob} {i:Nat} {o:Ob} (hi:l[i]? = some o) (x:Int):(ocs l).set (i * 12 + 1) (.int .i64 x) = ocs (l.set i { o with card:=x }):=by
 unfold ocs
 induction l generalizing i with
 | nil => simp at hi
 | cons p l ih =>
  cases i with
  | zero =>
   simp at hi
   subst hi
   simp [Ob.cells]
  | succ i =>
   rw [List.set_cons_succ,List.flatMap_cons,List.flatMap_cons,← ih (i:=i) (by simpa using hi),List.set_append_right _ _ (by simp [Ob.cells];omega)]
   congr 2
   simp [Ob.cells]
   omega
theorem BdO.objs {W W':World} {B gB:Nat} {b:Bd} {m:BdM} {l:List Ob} (h:BdO W B b m) (hA:m.O.A = some ⟨gB,0,none⟩) (hg:W.grownBy W' (some gB)) (hn:0 < b.objs.length) (hX:XOwns W' B 46 12 m.O.A l.length m.O.c (ocs l)):BdO W' B { b with objs:=l } m:=by
 obtain ⟨g,cur,e,_,hk,_⟩:=h.O.ofBlk_ hn
 rw [hA] at e
 injection e with e
 injection e with e
 subst e
 exact ⟨hX,fun q hq => by have:=(h.l q hq).blk_ hk hg (by decide);rcases q with _ | _ | _ | _ | _ | _ | _ | _ | q <;> exact this,h.ap,h.S.blk hk hg (by decide) (by decide),h.Q.blk hk hg (by decide) (by decide),h.BK.blk_ hk hg (by decide)⟩
set_option maxRecDepth 100000 in
set_option maxHeartbeats 1600000 in
theorem mine_any (o:Ob) (own:Int) (gO gH gM nM:Nat) (f:Int → Option Bool) (H:Int → Bool) (w:World) (hO:w.cell? ⟨gO,0,none⟩ = some (.int .i64 own)) (hlO:gO < w.heap.size) (hH:w.cell? ⟨gH,0,none⟩ = some (.map (some gM))) (hlH:gH < w.heap.size) (hM:MapB w gM nM f) (hw:wfI o.id) (hf:o.own = own → (f o.id).getD false = H o.id) :
  Calls Tryz.prog 26 #[.agg o.cells.toArray,.pointer (some ⟨gO,0,none⟩),.pointer (some ⟨gH,0,none⟩)] w fun e w' => e = .returned (.bool (mine own H o)) ∧ Below w.heap.size w w':=by
 obtain ⟨i,c,ow,pw,to,da,cn,pp,pt,ta,si,dm⟩:=o
 have hal:∀ cs,Below w.heap.size w (w.alloc (.cells cs 46)):=fun cs => (Below.refl _ _).alloc (Nat.le_refl _) _
 have HAL:=Lib.hid hal
 have hlk:=fun cs => (hM.below (hal cs)).get (x:=i) hw
 simp only at hf hlk
 obtain ⟨hb,hhb⟩:∃ b,H i = b:=⟨_,rfl⟩
 simp only [Ob.cells]
 have HE:Hid (∀ r,(decide (ow = own) && (decide (0 ≤ c) && hb)) = r → mine own H ⟨i,c,ow,pw,to,da,cn,pp,pt,ta,si,dm⟩ = r):=Lib.hid (fun r h => by rw [← h];unfold mine;rw [hhb])
 clear hal hM hw
 by_cases h1:ow = own
 ·rw [hf h1,hhb] at hlk
  clear hf hhb
  have h1':(ow == own) = true:=by simpa using h1
  by_cases h2:0 ≤ c
  ·have h2':decide (0 ≤ c) = true:=by simpa using h2
   have HR:=Lib.hid (HE.out hb (by simp [h1,h2]))
   clear h1 HE
   go_enter Tryz.func26,Tryz.ntmps26
   go_wp2
   go_ret
   exact ⟨by (rw [HR.out];rfl),HAL.out _⟩
  ·have h2':decide (0 ≤ c) = false:=by simpa using h2
   have HR:=Lib.hid (HE.out false (by simp [h1,h2]))
   clear h1 HE
   go_enter Tryz.func26,Tryz.ntmps26
   go_wp2
   go_ret
   exact ⟨by (rw [HR.out];rfl),HAL.out _⟩
 ·clear hf hhb hlk
  have h1':(ow == own) = false:=by simpa using h1
  have HR:=Lib.hid (HE.out false (by simp [h1]))
  clear HE
  go_enter Tryz.func26,Tryz.ntmps26
  go_wp2
  go_ret
  exact ⟨by (rw [HR.out];rfl),HAL.out _⟩
set_option maxRecDepth 100000 in
set_option maxHeartbeats 3200000 in
theorem mx_col (W:World) (B gC gB off:Nat) (A:Option Addr) (n c:Nat) (cs:List Int) (x:Int) (hC:Blk W gC 25 #[.slice A n c]) (hX:XOwns W B 3 1 A n c (ics cs)) (hB:B ≤ W.heap.size) (hcell:CellK W gB (off + 1) (.int .i64 x)) (hn:n ≤ 1000) (Q:Exit → Act → World → Prop) (t2 t3 t4 t5 t6 t7 t8 t9:Value)
  (hQ:∀ d v c a w,Q (.panic c) (Act.put a d v) w → Q (.panic c) a w)
  (hK:∀ (u3 u4 u5 u6 u7 u8 u9:Value) (A':Option Addr) (c':Nat) (W9:World),Blk W9 gC 25 #[.slice A' (n + 1) c'] ∧ XOwns W9 B 3 1 A' (n + 1) c' (ics (cs ++ [x])) ∧ OnlyF (fun j => j = gC ∨ B ≤ j) W W9 → Q .normal ⟨#[.pointer (some ⟨gB,off,none⟩),.pointer (some ⟨gC,0,none⟩),t2,u3,u4,u5,u6,u7,u8,u9],[]⟩ W9) :
  Code.wp Tryz.prog (regOf Tryz.f28 0) Q ⟨#[.pointer (some ⟨gB,off,none⟩),.pointer (some ⟨gC,0,none⟩),t2,t3,t4,t5,t6,t7,t8,t9],[]⟩ W:=by
 have HKK:=Lib.hid hK
 clear hK
 conv => arg 2;whnf
 have HC:=Lib.hid hC
 have HX:=Lib.hid hX
 have HB0:=Lib.hid hB
 have HQ:=Lib.hid hQ
 have HCE:=Lib.hid hcell
 have hne_:Nonempty (In (fun W' => Blk W' gC 25 #[.slice A n c] ∧ CellK W' gB (off + 1) (.int .i64 x))):=⟨⟨W,hC,hcell⟩⟩
 have x0:∀ s:In (fun W' => Blk W' gC 25 #[.slice A n c] ∧ CellK W' gB (off + 1) (.int .i64 x)),s.W.cell? ⟨gC,0,none⟩ = some (.slice A n c):=fun s => (s.h.1.at_ 0).trans rfl
 have x1:∀ s:In (fun W' => Blk W' gC 25 #[.slice A n c] ∧ CellK W' gB (off + 1) (.int .i64 x)),s.W.cell? ⟨gB,off + 1,none⟩ = some (.int .i64 x):=fun s => s.h.2.c
 clear hC hX hQ hcell hB
 have hneT:Nonempty (In (fun _ => True)):=⟨⟨W,trivial⟩⟩
 refine wp_region_late2 (Ph (fun w' => ∃ s:In (fun W' => Blk W' gC 25 #[.slice A n c] ∧ CellK W' gB (off + 1) (.int .i64 x)),w' = s.W) (fun w' => ∃ s:In (fun _ => True),w' = s.W)) (fun w' => ∃ s:In (fun _ => True),w' = s.W) (fun w => ⟨⟨w,trivial⟩,rfl⟩) [6,7] [1,2,3] [0,4] (.one 5 [] (.one 6 [] (.one 7 [] .done))) (by kernel_rfl) (by kernel_rfl) HQ.out ⟨⟨_,⟨HC.out.drew,HCE.out.drew⟩⟩,rfl⟩ ?_
 refine quiet_as (C':=(fun w' => ∃ s:In (fun _ => True),w' = s.W)) rfl ?_
 simp only [opsAt,List.getElem?_toArray,List.getElem?_cons_succ,List.getElem?_cons_zero]
 repeat (go_big_quiet_step (fail))
 refine wpQuiet_nil ?_
 refine quiet_as (C':=(fun w' => ∃ s:In (fun W' => Blk W' gC 25 #[.slice A n c] ∧ CellK W' gB (off + 1) (.int .i64 x)),w' = s.W)) rfl ?_
 try simp only [opsAt,List.getElem?_toArray,List.getElem?_cons_succ,List.getElem?_cons_zero]
 repeat (go_big_quiet_step (fail))
 refine wpQuiet_nil ?_
 obtain ⟨W_d,hwd⟩:∃ v,W.drew = v:=⟨_,rfl⟩
 have HBW_1:Hid (Below W.heap.size W W_d):=Lib.hid (by rw [← hwd];exact (Below.refl _ _).drew)
 have HBR_1:Hid (Below W.heap.size W W_d):=Lib.hid (by rw [← hwd];exact (Below.refl _ _).drew)
 have PC_1:=Lib.hid ((HC.out).call (show Below W.heap.size W W_d by rw [← hwd];exact (Below.refl _ _).drew))
 have FX_1:=Lib.hid ((HX.out).below (show Below W.heap.size W W_d by rw [← hwd];exact (Below.refl _ _).drew))
 have CX_1:=Lib.hid ((HCE.out).call (show Below W.heap.size W W_d by rw [← hwd];exact (Below.refl _ _).drew))
 rw [hwd]
 clear hwd
 refine eff_as (C':=(fun w' => ∃ s:In (fun W' => Blk W' gC 25 #[.slice A n c] ∧ CellK W' gB (off + 1) (.int .i64 x)),w' = s.W)) rfl ?_
 (refine eff_lit rfl rfl (fun K hK => ?_))
 go_big_op
 obtain ⟨W_2,hvW_2⟩:∃ v,(W_d.alloc (.cells #[.int .i64 x] 3)) = v:=⟨_,rfl⟩
 have hbW_2:Below W_d.heap.size W_d W_2:=by rw [← hvW_2];exact (Below.refl _ _).alloc (Nat.le_refl _) _
 obtain ⟨gL,hggL⟩:∃ v,W_d.heap.size = v:=⟨_,rfl⟩
 have hkW_2:Blk W_2 gL 3 #[.int .i64 x]:=by rw [← hvW_2];exact Blk.mk_ _ _ _ _ hggL
 have HNgL:Hid (W.heap.size ≤ gL ∧ W.heap.size ≤ gL):=Lib.hid ⟨by rw [← hggL];exact HBR_1.out.size,by rw [← hggL];exact HBW_1.out.size⟩
 rw [hvW_2,hggL]
 have LT_3:=Lib.hid (hkW_2)
 have HBW_3:=Lib.hid (below_call HBW_1.out hbW_2 HBW_1.out.size)
 clear HBW_1
 have HBR_3:=Lib.hid (below_call HBR_1.out hbW_2 HBR_1.out.size)
 clear HBR_1
 have PC_3:=Lib.hid (PC_1.out.call hbW_2)
 clear PC_1
 have FX_3:=Lib.hid (FX_1.out.below hbW_2)
 clear FX_1
 have CX_3:=Lib.hid (CX_1.out.call hbW_2)
 clear CX_1
 clear hkW_2 hvW_2 hggL hbW_2
 refine hK _ _ ⟨⟨_,⟨PC_3.out,CX_3.out⟩⟩,rfl⟩ ?_
 clear hK K
 try simp only [opsAt,List.getElem?_toArray,List.getElem?_cons_succ,List.getElem?_cons_zero]
 refine wpQuiet_nil ?_
 refine eff_as (C':=(fun w' => ∃ s:In (fun _ => True),w' = s.W)) rfl ?_
 (refine eff_lit rfl rfl (fun K hK => ?_))
 refine append_x_op (w:=W_2) (.tmp 3) (.tmp 8) 25 rfl B 3 _ 1 8 tinfo_ints Tryz.underlying25 rfl (by decide) A n c (ics cs) rfl FX_3.out (some ⟨gL,0,none⟩) 1 1 (ics [x]) rfl (reads_block LT_3.out 1 1 rfl) (ics_one _) (by decide) (by omega) (by omega) (Nat.le_trans HB0.out HBR_3.out.size) _ rfl ?_
 intro g8 c8 W_4 ho8 hg8 hi8 hl8
 simp only [Act.put,List.setIfInBounds_toArray,List.set_cons_succ,List.set_cons_zero]
 have hoo:=FX_3.out
 have hpp:=PC_3.out
 have hcc:=HBR_3.out
 have PC_5:=Lib.hid (hpp.grown hg8 (fun e => hoo.apart_blk hpp (by decide) e.symm))
 have OF_5:Hid (OnlyF (fun j => j = gC ∨ B ≤ j) W W_4):=Lib.hid ((OnlyF.of_below hcc).trans (OnlyF.of_grown hg8 (F:=fun j => j = gC ∨ B ≤ j) (fun i hi => .inr (hoo.lt i hi).1)) (fun i h _ => h))
 have FN_5:=Lib.hid ho8
 clear ho8 hg8 hi8 hl8 hoo hpp hcc
 refine hK _ _ ⟨⟨_,trivial⟩,rfl⟩ ?_
 clear hK K
 try simp only [opsAt,List.getElem?_toArray,List.getElem?_cons_succ,List.getElem?_cons_zero]
 refine wpQuiet_nil ?_
 refine eff_as (C':=(fun w' => ∃ s:In (fun _ => True),w' = s.W)) rfl ?_
 (refine eff_lit rfl rfl (fun K hK => ?_))
 have q9:=(PC_5.out.at_ 0).trans rfl
 have f9:=PC_5.out.free 0
 have l9:=PC_5.out.lt
 go_big_op
 obtain ⟨W_6,hv9⟩:∃ v,W_4.setCell ⟨gC,0,none⟩ (.slice (some ⟨g8,0,none⟩) (n + 1) c8) = v:=⟨_,rfl⟩
 have hg9:W_4.grownBy W_6 (some gC):=by rw [← hv9];exact only_setCell (only_refl _ _) (.inl rfl) _
 have hk9:=PC_5.out.put 0 (.slice (some ⟨g8,0,none⟩) (n + 1) c8)
 rw [hv9] at hk9
 rw [hv9]
 clear q9 f9 l9 hv9
 have HE9:Hid (Blk W_6 gC 25 #[.slice (some ⟨g8,0,none⟩) (n + 1) c8] ∧ XOwns W_6 B 3 1 (some ⟨g8,0,none⟩) (n + 1) c8 (ics (cs ++ [x])) ∧ OnlyF (fun j => j = gC ∨ B ≤ j) W W_6):=Lib.hid ⟨hk9,by rw [show ics (cs ++ [x]) = ics cs ++ ics [x] by simp [ics]];exact FN_5.out.blk_ PC_5.out hg9 (by decide),OF_5.out.trans (OnlyF.of_grown hg9 (F:=fun j => j = gC ∨ B ≤ j) (fun i hi => .inl (by injection hi with hi;exact hi.symm))) (fun i h _ => h)⟩
 clear hk9 hg9
 refine hK _ _ ⟨⟨_,trivial⟩,rfl⟩ ?_
 clear hK K
 try simp only [opsAt,List.getElem?_toArray,List.getElem?_cons_succ,List.getElem?_cons_zero]
 refine wpQuiet_nil ?_
 refine effs_done ?_
 exact HKK.out _ _ _ _ _ _ _ _ _ _ HE9.out

set_option maxRecDepth 100000 in
set_option maxHeartbeats 3200000 in
theorem mx_put (W:World) (B gC gB g q k c i:Nat) (b:Bd) (m:BdM) (o:Ob) (x:Int) (hC:Blk W gC 25 #[.slice (some ⟨g,q,none⟩) (k + 1) c]) (hcell:CellK W g q (.int .i64 x)) (hgb:g ≠ gB) (hkc:k + 1 ≤ c ∧ c ≤ 9223372036854775807) (hO:BdO W B b m) (hA:m.O.A = some ⟨gB,0,none⟩) (hi:b.objs[i]? = some o) (A9:Option Addr) (hA9:(if c = 1 then (some ⟨g,q,none⟩:Option Addr) else some ⟨g,q + 1,none⟩) = A9) (Q:Exit → Act → World → Prop) (t2 t3 t4 t5 t6 t7 t8 t9 t10 t11 t12 t13 t14 t15 t16:Value)
  (hQ:∀ d v c a w,Q (.panic c) (Act.put a d v) w → Q (.panic c) a w)
  (hK:∀ (u4 u5 u6 u7 u8 u9 u10 u11:Value)  (W9:World),Blk W9 gC 25 #[.slice A9 k (c - 1)] ∧ BdO W9 B { b with objs:=b.objs.set i { o with card:=x } } m ∧ OnlyF (fun j => j = gC ∨ j = gB) W W9 → Q .normal ⟨#[.pointer (some ⟨gB,i * 12,none⟩),.pointer (some ⟨gC,0,none⟩),t2,t3,u4,u5,u6,u7,u8,u9,u10,u11,t12,t13,t14,t15,t16],[]⟩ W9) :
  Code.wp Tryz.prog (regOf Tryz.f30 0) Q ⟨#[.pointer (some ⟨gB,i * 12,none⟩),.pointer (some ⟨gC,0,none⟩),t2,t3,t4,t5,t6,t7,t8,t9,t10,t11,t12,t13,t14,t15,t16],[]⟩ W:=by
 have HKK:=Lib.hid hK
 clear hK
 conv => arg 2;whnf
 have HC:=Lib.hid hC
 have HO:=Lib.hid hO
 have HA:=Lib.hid hA
 have HI:=Lib.hid hi
 have HQ:=Lib.hid hQ
 have HCE:=Lib.hid hcell
 have HGB:=Lib.hid hgb
 have hne_:Nonempty (In (fun W' => Blk W' gC 25 #[.slice (some ⟨g,q,none⟩) (k + 1) c] ∧ CellK W' g q (.int .i64 x))):=⟨⟨W,hC,hcell⟩⟩
 have x0:∀ s:In (fun W' => Blk W' gC 25 #[.slice (some ⟨g,q,none⟩) (k + 1) c] ∧ CellK W' g q (.int .i64 x)),s.W.cell? ⟨gC,0,none⟩ = some (.slice (some ⟨g,q,none⟩) (k + 1) c):=fun s => (s.h.1.at_ 0).trans rfl
 have x1:∀ s:In (fun W' => Blk W' gC 25 #[.slice (some ⟨g,q,none⟩) (k + 1) c] ∧ CellK W' g q (.int .i64 x)),s.W.cell? ⟨g,q,none⟩ = some (.int .i64 x):=fun s => s.h.2.c
 have hkc1:(1:Int) ≤ (k:Int) + 1:=by omega
 have HA9:=Lib.hid hA9
 clear hA9
 clear hC hO hA hi hQ hcell hgb
 have hneT:Nonempty (In (fun _ => True)):=⟨⟨W,trivial⟩⟩
 refine wp_region_late2 (Ph (fun w' => ∃ s:In (fun W' => Blk W' gC 25 #[.slice (some ⟨g,q,none⟩) (k + 1) c] ∧ CellK W' g q (.int .i64 x)),w' = s.W) (fun w' => ∃ s:In (fun _ => True),w' = s.W)) (fun w' => ∃ s:In (fun _ => True),w' = s.W) (fun w => ⟨⟨w,trivial⟩,rfl⟩) [9] [0] [1,2,3,4,5,6,7] (.one 8 [] (.one 9 [] .done)) (by kernel_rfl) (by kernel_rfl) HQ.out ⟨⟨_,⟨HC.out.drew,HCE.out.drew⟩⟩,rfl⟩ ?_
 refine quiet_as (C':=(fun w' => ∃ s:In (fun _ => True),w' = s.W)) rfl ?_
 simp only [opsAt,List.getElem?_toArray,List.getElem?_cons_succ,List.getElem?_cons_zero]
 repeat (go_big_quiet_step (fail))
 refine wpQuiet_nil ?_
 refine quiet_as (C':=(fun w' => ∃ s:In (fun W' => Blk W' gC 25 #[.slice (some ⟨g,q,none⟩) (k + 1) c] ∧ CellK W' g q (.int .i64 x)),w' = s.W)) rfl ?_
 try simp only [opsAt,List.getElem?_toArray,List.getElem?_cons_succ,List.getElem?_cons_zero]
 repeat (go_big_quiet_step (fail))
 refine wpQuiet_nil ?_
 obtain ⟨W_d,hwd⟩:∃ v,W.drew = v:=⟨_,rfl⟩
 have HBW_1:Hid (Below W.heap.size W W_d):=Lib.hid (by rw [← hwd];exact (Below.refl _ _).drew)
 have HBR_1:Hid (Below W.heap.size W W_d):=Lib.hid (by rw [← hwd];exact (Below.refl _ _).drew)
 have PC_1:=Lib.hid ((HC.out).call (show Below W.heap.size W W_d by rw [← hwd];exact (Below.refl _ _).drew))
 have BD_1:=Lib.hid ((HO.out).below (show Below W.heap.size W W_d by rw [← hwd];exact (Below.refl _ _).drew))
 have CX_1:=Lib.hid ((HCE.out).call (show Below W.heap.size W W_d by rw [← hwd];exact (Below.refl _ _).drew))
 rw [hwd]
 clear hwd
 refine eff_as (C':=(fun w' => ∃ s:In (fun W' => Blk W' gC 25 #[.slice (some ⟨g,q,none⟩) (k + 1) c] ∧ CellK W' g q (.int .i64 x)),w' = s.W)) rfl ?_
 (refine eff_lit rfl rfl (fun K hK => ?_))
 have hd9:=BD_1.out
 have hX9:=hd9.O
 rw [HA.out] at hX9
 have hc9:(ocs b.objs)[i * 12 + 1]? = some (.int .i64 o.card):=by rw [ocs,flatMap_at (enc:=Ob.cells) (k:=12) (fun _ => rfl) HI.out (by decide)];rfl
 obtain ⟨g9,e9,-,l9,q9,f9⟩:=hX9.cell hc9
 injection e9 with e9
 injection e9 with e9
 subst e9
 go_big_op
 obtain ⟨W_2,hv9⟩:∃ v,W_d.setCell ⟨gB,i * 12 + 1,none⟩ (.int .i64 x) = v:=⟨_,rfl⟩
 have hg9:W_d.grownBy W_2 (some gB):=by rw [← hv9];exact only_setCell (only_refl _ _) (.inl rfl) _
 have hs9:=hX9.setX (i * 12 + 1) (.int .i64 x)
 rw [hv9,ocs_set HI.out,← HA.out] at hs9
 rw [hv9]
 clear q9 f9 l9 hv9 hc9
 have hlt9:0 < b.objs.length:=by have:=(List.getElem?_eq_some_iff.1 HI.out).1;omega
 have BE_3:=Lib.hid (hd9.objs HA.out hg9 hlt9 (l:=b.objs.set i { o with card:=x }) (by rw [List.length_set];exact hs9))
 have PC_3:=Lib.hid (PC_1.out.grown hg9 (fun e => hX9.apart_blk PC_1.out (by decide) e.symm))
 have OF_3:Hid (OnlyF (fun j => j = gC ∨ j = gB) W W_2):=Lib.hid ((OnlyF.of_below HBR_1.out).trans (OnlyF.of_grown hg9 (F:=fun j => j = gC ∨ j = gB) (fun i hi => .inr (by injection hi with hi;exact hi.symm))) (fun i h _ => h))
 have CX_3:=Lib.hid (CX_1.out.grown hg9 HGB.out)
 clear hs9 hg9 hX9 hd9 hlt9
 refine hK _ _ ⟨⟨_,⟨PC_3.out,CX_3.out⟩⟩,rfl⟩ ?_
 clear hK K
 try simp only [opsAt,List.getElem?_toArray,List.getElem?_cons_succ,List.getElem?_cons_zero]
 refine wpQuiet_nil ?_
 refine eff_as (C':=(fun w' => ∃ s:In (fun _ => True),w' = s.W)) rfl ?_
 (refine eff_lit rfl rfl (fun K hK => ?_))
 have q9:=(PC_3.out.at_ 0).trans rfl
 have f9:=PC_3.out.free 0
 have l9:=PC_3.out.lt
 go_big_op
 try rw [HA9.out]
 obtain ⟨W_4,hv9⟩:∃ v,W_2.setCell ⟨gC,0,none⟩ (.slice A9 k (c - 1)) = v:=⟨_,rfl⟩
 have hg9:W_2.grownBy W_4 (some gC):=by rw [← hv9];exact only_setCell (only_refl _ _) (.inl rfl) _
 have hk9:=PC_3.out.put 0 (.slice A9 k (c - 1))
 rw [hv9] at hk9
 rw [hv9]
 clear q9 f9 l9 hv9
 have HE9:Hid (Blk W_4 gC 25 #[.slice A9 k (c - 1)] ∧ BdO W_4 B { b with objs:=b.objs.set i { o with card:=x } } m ∧ OnlyF (fun j => j = gC ∨ j = gB) W W_4):=Lib.hid ⟨hk9,BE_3.out.blk PC_3.out hg9 off_ints,OF_3.out.trans (OnlyF.of_grown hg9 (F:=fun j => j = gC ∨ j = gB) (fun i hi => .inl (by injection hi with hi;exact hi.symm))) (fun i h _ => h)⟩
 clear hk9 hg9
 refine hK _ _ ⟨⟨_,trivial⟩,rfl⟩ ?_
 clear hK K
 try simp only [opsAt,List.getElem?_toArray,List.getElem?_cons_succ,List.getElem?_cons_zero]
 refine wpQuiet_nil ?_
 refine effs_done ?_
 exact HKK.out _ _ _ _ _ _ _ _ _ HE9.out

set_option maxRecDepth 100000 in
set_option maxHeartbeats 1600000 in
theorem col_any (W:World) (B gC gB off:Nat) (A:Option Addr) (n c:Nat) (cs:List Int) (x:Int) (hC:Blk W gC 25 #[.slice A n c]) (hX:XOwns W B 3 1 A n c (ics cs)) (hB:B ≤ W.heap.size) (hcell:CellK W gB (off + 1) (.int .i64 x)) (hn:n ≤ 1000) :
  Calls Tryz.prog 28 #[.pointer (some ⟨gB,off,none⟩),.pointer (some ⟨gC,0,none⟩)] W fun e W9 => e = .returned (.tuple #[]) ∧ ∃ A' c',Blk W9 gC 25 #[.slice A' (n + 1) c'] ∧ XOwns W9 B 3 1 A' (n + 1) c' (ics (cs ++ [x])) ∧ OnlyF (fun j => j = gC ∨ B ≤ j) W W9:=by
 have HC:=Lib.hid hC
 have HX:=Lib.hid hX
 have HB0:=Lib.hid hB
 have HCE:=Lib.hid hcell
 have HN:=Lib.hid hn
 clear hC hX hB hcell hn
 go_enter Tryz.func28,Tryz.ntmps28
 refine mx_col W B gC gB off A n c cs x HC.out HX.out HB0.out HCE.out HN.out _ _ _ _ _ _ _ _ _ ?_ ?_
 ·exact fun d _ _ _ _ h => by cases d <;> exact h
 intro v3 v4 v5 v6 v7 v8 v9 A' c' W9 h9
 have HE:=Lib.hid h9
 clear h9
 refine bodyPost_end (v:=.tuple #[]) (by simp [results,Tryz.f28]) rfl ⟨rfl,A',c',HE.out⟩
set_option maxRecDepth 100000 in
set_option maxHeartbeats 1600000 in
theorem put_any3 (W:World) (B gC gB g gH gM nM q k c i:Nat) (b:Bd) (m:BdM) (o:Ob) (x:Int) (f:Int → Option Bool) (hC:Blk W gC 25 #[.slice (some ⟨g,q,none⟩) (k + 1) c]) (hcell:CellK W g q (.int .i64 x)) (hgb:g ≠ gB) (hkc:k + 1 ≤ c ∧ c ≤ 9223372036854775807) (hO:BdO W B b m) (hA:m.O.A = some ⟨gB,0,none⟩) (hi:b.objs[i]? = some o)
  (hH:Blk W gH 69 #[.map (some gM)]) (hM:MapB W gM nM f) (hlow:gH < B ∧ gM < B) (hCB:gC ≠ gM) (hw:wfI o.id) :
  Calls Tryz.prog 30 #[.pointer (some ⟨gB,i * 12,none⟩),.pointer (some ⟨gC,0,none⟩),.pointer (some ⟨gH,0,none⟩)] W fun e W9 => e = .returned (.tuple #[]) ∧ ∃ A9 nM',(0 < k → A9 = some ⟨g,q + 1,none⟩) ∧ Blk W9 gC 25 #[.slice A9 k (c - 1)] ∧ BdO W9 B { b with objs:=b.objs.set i { o with card:=x } } m ∧ MapB W9 gM nM' (fun y => if y = o.id then none else f y) ∧ OnlyF (fun j => j = gC ∨ j = gB ∨ j = gM) W W9:=by
 have hgM:=hM.lt
 have hbB:B ≤ gB:=by
  have hX:=hO.O
  obtain ⟨g',cur,e,h1,-,-⟩:=hX.ofBlk_ (by have:=(List.getElem?_eq_some_iff.1 hi).1;omega)
  rw [hA] at e
  injection e with e
  injection e with e
  omega
 obtain ⟨A9,hA9⟩:∃ A9,(if c = 1 then (some ⟨g,q,none⟩:Option Addr) else some ⟨g,q + 1,none⟩) = A9:=⟨_,rfl⟩
 have HA9:Hid (0 < k → A9 = some ⟨g,q + 1,none⟩):=Lib.hid (fun h => by rw [← hA9,if_neg (by omega)])
 have HC:=Lib.hid hC
 have HCE:=Lib.hid hcell
 have HR:=Lib.hid (And.intro hgb (And.intro hkc (And.intro hO (And.intro hA (And.intro hi (And.intro hH (And.intro hM (And.intro hlow (And.intro hCB (And.intro hgM (And.intro hbB (And.intro hw hA9))))))))))))
 clear hC hcell hgb hkc hO hA hi hH hM hlow hCB hgM hbB hw hA9
 go_enter Tryz.func30,Tryz.ntmps30
 go_wp2_with fail
 refine mx_put W B gC gB g q k c i b m o x HC.out HCE.out HR.out.1 HR.out.2.1 HR.out.2.2.1 HR.out.2.2.2.1 HR.out.2.2.2.2.1 A9 HR.out.2.2.2.2.2.2.2.2.2.2.2.2 _ _ _ _ _ _ _ _ _ _ _ _ _ _ _ _ ?_ ?_
 ·exact fun d _ _ _ _ h => by cases d <;> exact h
 intro v4 v5 v6 v7 v8 v9 v10 v11 W9 h9
 obtain ⟨-,-,-,-,hi,hH,hM,hlow,hCB,hgM,hbB,hw,-⟩:=HR.out
 have hF:¬ (gH = gC ∨ gH = gB):=by
  rintro (e | e)
  ·subst e
   have h1:=HC.out
   unfold Blk at h1 hH
   rw [h1] at hH
   injection hH with hH
   injection hH with hH _
   simp at hH
  ·omega
 have hMF:¬ (gM = gC ∨ gM = gB):=by
  rintro (e | e)
  ·exact hCB e.symm
  ·omega
 have hH9:=hH.onlyF h9.2.2 hF
 have hM9:MapB W9 gM nM f:=⟨_,hM.choose_spec.onlyF h9.2.2 hMF⟩
 obtain ⟨o',ho',hid'⟩:∃ o',(b.objs.set i { o with card:=x })[i]? = some o' ∧ o'.id = o.id:=⟨{ o with card:=x },List.getElem?_set_self (List.getElem?_eq_some_iff.1 hi).1,rfl⟩
 have hX9:=h9.2.1.O
 have cH:CellK W9 gH 0 (.map (some gM)):=⟨hH9.lt,(hH9.at_ 0).trans rfl⟩
 have cI:CellK W9 gB (i * 12) (.int .i64 o.id):=by
  have hX:=h9.2.1.O
  rw [HR.out.2.2.2.1] at hX
  obtain ⟨g9,e9,-,l9,q9,-⟩:=hX.cell (j:=i * 12) (u:=.int .i64 o.id) (by
   have:=flatMap_at (enc:=Ob.cells) (k:=12) (fun _ => rfl) ho' (j:=0) (by decide)
   rw [Nat.add_zero] at this
   rw [ocs,this,← hid']
   rfl)
  injection e9 with e9
  injection e9 with e9
  subst e9
  exact ⟨l9,q9⟩
 have HF9:Hid (Blk W9 gC 25 #[.slice A9 k (c - 1)] ∧ BdO W9 B { b with objs:=b.objs.set i { o with card:=x } } m ∧ MapB W9 gM nM f ∧ OnlyF (fun j => j = gC ∨ j = gB ∨ j = gM) W W9):=Lib.hid ⟨h9.1,h9.2.1,hM9,h9.2.2.more (G:=fun j => j = gC ∨ j = gB ∨ j = gM) (fun i h => by rcases h with h | h <;> simp [h])⟩
 have HW:=Lib.hid (And.intro hw (And.intro hCB hlow))
 have hne_:Nonempty (In (fun W' => CellK W' gH 0 (.map (some gM)) ∧ CellK W' gB (i * 12) (.int .i64 o.id))):=⟨⟨W9,cH,cI⟩⟩
 have x0:∀ s:In (fun W' => CellK W' gH 0 (.map (some gM)) ∧ CellK W' gB (i * 12) (.int .i64 o.id)),s.W.cell? ⟨gH,0,none⟩ = some (.map (some gM)):=fun s => s.h.1.c
 have x1:∀ s:In (fun W' => CellK W' gH 0 (.map (some gM)) ∧ CellK W' gB (i * 12) (.int .i64 o.id)),s.W.cell? ⟨gB,i * 12,none⟩ = some (.int .i64 o.id):=fun s => s.h.2.c
 have CH:=Lib.hid (And.intro cH cI)
 clear h9 hi hH hM hlow hCB hgM hbB hw hF hMF hH9 hM9 ho' hid' cH cI
 go_wp2_with fail
 have hneT:Nonempty (In (fun _ => True)):=⟨⟨W9,trivial⟩⟩
 refine wp_region_late2 (Ph (fun w' => ∃ s:In (fun W' => CellK W' gH 0 (.map (some gM)) ∧ CellK W' gB (i * 12) (.int .i64 o.id)),w' = s.W) (fun w' => ∃ s:In (fun _ => True),w' = s.W)) (fun w' => ∃ s:In (fun _ => True),w' = s.W) (fun w => ⟨⟨w,trivial⟩,rfl⟩) [5] [1,2,3] [0,4] (.one 5 [] .done) (by kernel_rfl) (by kernel_rfl) (fun d _ _ _ _ h => by cases d <;> exact h) ⟨⟨_,⟨CH.out.1.drew,CH.out.2.drew⟩⟩,rfl⟩ ?_
 refine quiet_as (C':=(fun w' => ∃ s:In (fun _ => True),w' = s.W)) rfl ?_
 simp only [opsAt,List.getElem?_toArray,List.getElem?_cons_succ,List.getElem?_cons_zero]
 repeat (go_big_quiet_step (fail))
 refine wpQuiet_nil ?_
 refine quiet_as (C':=(fun w' => ∃ s:In (fun W' => CellK W' gH 0 (.map (some gM)) ∧ CellK W' gB (i * 12) (.int .i64 o.id)),w' = s.W)) rfl ?_
 try simp only [opsAt,List.getElem?_toArray,List.getElem?_cons_succ,List.getElem?_cons_zero]
 repeat (go_big_quiet_step (fail))
 refine wpQuiet_nil ?_
 obtain ⟨W9_d,hwd⟩:∃ v,W9.drew = v:=⟨_,rfl⟩
 have HBW_1:Hid (Below W9.heap.size W9 W9_d):=Lib.hid (by rw [← hwd];exact (Below.refl _ _).drew)
 have HBR_1:Hid (Below W9.heap.size W9 W9_d):=Lib.hid (by rw [← hwd];exact (Below.refl _ _).drew)
 have PC_1:=Lib.hid ((HF9.out.1).call (show Below W9.heap.size W9 W9_d by rw [← hwd];exact (Below.refl _ _).drew))
 have BD_1:=Lib.hid ((HF9.out.2.1).below (show Below W9.heap.size W9 W9_d by rw [← hwd];exact (Below.refl _ _).drew))
 have MB_1:=Lib.hid ((HF9.out.2.2.1).below (show Below W9.heap.size W9 W9_d by rw [← hwd];exact (Below.refl _ _).drew))
 have OF_1:=Lib.hid ((HF9.out.2.2.2).then (show Below W9.heap.size W9 W9_d by rw [← hwd];exact (Below.refl _ _).drew))
 rw [hwd]
 clear hwd
 refine eff_as (C':=(fun w' => ∃ s:In (fun _ => True),w' = s.W)) rfl ?_
 (refine eff_lit rfl rfl (fun K hK => ?_))
 obtain ⟨w9,n9,hrun,hm9,hg9⟩:=MB_1.out.del (x:=o.id) HW.out.1 0
 have HE9:Hid (Blk w9 gC 25 #[.slice A9 k (c - 1)] ∧ BdO w9 B { b with objs:=b.objs.set i { o with card:=x } } m ∧ MapB w9 gM n9 (fun y => if y = o.id then none else f y) ∧ OnlyF (fun j => j = gC ∨ j = gB ∨ j = gM) W w9):=Lib.hid ⟨PC_1.out.grown hg9 (fun e => HW.out.2.1 (by injection e)),BD_1.out.low hg9 HW.out.2.2.2,hm9,OF_1.out.trans (OnlyF.of_grown hg9 (F:=fun j => j = gC ∨ j = gB ∨ j = gM) (fun i hi => .inr (.inr (by injection hi with hi;exact hi.symm)))) (fun i h _ => h)⟩
 refine delete_op (.tmp 12) (.tmp 16) 69 3 rfl gM _ rfl rfl hrun ?_
 simp only [Act.put,List.setIfInBounds_toArray,List.set_cons_succ,List.set_cons_zero]
 clear hm9 hg9 hrun
 refine hK _ _ ⟨⟨_,trivial⟩,rfl⟩ ?_
 clear hK K
 try simp only [opsAt,List.getElem?_toArray,List.getElem?_cons_succ,List.getElem?_cons_zero]
 refine wpQuiet_nil ?_
 refine effs_done ?_
 refine bodyPost_end (v:=.tuple #[]) (by simp [results,Tryz.f30]) rfl ⟨rfl,A9,n9,HA9.out,HE9.out⟩
end Go.Proofs.YtagpphelgghbpaaGreat
