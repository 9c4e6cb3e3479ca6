/-
  Texts: Who, Sched2.
-/
import Derived.Test.YtagpphelgghbpaaGreatMk12
import Derived.Test.YtagpphelgghbpaaGreatMk5
set_option linter.unusedSimpArgs false
set_option linter.unusedVariables false
namespace Go.Proofs.YtagpphelgghbpaaGreat
open Go.RowKit

def findR (n:Nat):Code → Option Code
 | .region m ops b => if m = n then some (.region m ops b) else Option.none
 | .loop c => findR n c
 | .seq a b => match findR n a with
  | some c => some c
  | Option.none => findR n b
 | .block _ c => findR n c
 | .scope c => findR n c
 | .cond _ a b => match findR n a with
  | some c => some c
  | Option.none => findR n b
 | _ => Option.none
def regOf (f:Func) (n:Nat):Code:=(f.body.bind (findR n)).getD .skip
theorem ret_cell2 {fn:Func} {p q:Tmp} {ty:TypeId} {tmps:Array Value} {w:World} {g t:Nat} {cs:Array Value} {d:TypeDesc} (h:fn.results = #[.cell p ty,.tmp q]) (hp:tmps.getD p undef = .pointer (some ⟨g,0,none⟩)) (hb:Blk w g t cs)
  (hu:Tryz.prog.underlying ty = some d) (hd:d.isRow = true) (hi:(Tryz.prog.info? ty).map (·.size) = some cs.size):(results fn tmps).run Tryz.prog w = .ok (.tuple #[.agg cs,tmps.getD q undef]) w:=by
 have hp':tmps[p]?.getD undef = .pointer (some ⟨g,0,none⟩):=by simpa using hp
 simp [results,h,hp',asAddr,run_loadVar_row w g t ty cs (0,0) d hb hu (by cases d <;> simp_all) hi]
set_option maxRecDepth 100000 in
theorem size_seat:(Tryz.prog.info? 27).map (·.size) = some 14:=by decide +kernel
theorem one_se (v:Se) (m:SeM):∀ u ∈ v.cells m,u.oneCell' = true:=by
 intro u hu
 simp only [Se.cells,Sl.v,List.mem_cons,List.not_mem_nil,or_false] at hu
 rcases hu with rfl | rfl | rfl | rfl | rfl | rfl | rfl | rfl | rfl | rfl | rfl | rfl | rfl | rfl <;> rfl
theorem one_vs (v:Vs) (m:VsM):∀ u ∈ v.cells m,u.oneCell' = true:=by
 intro u hu
 simp only [Vs.cells,Sl.v,List.mem_cons,List.not_mem_nil,or_false] at hu
 rcases hu with rfl | rfl | rfl | rfl | rfl | rfl | rfl | rfl | rfl | rfl | rfl | rfl | rfl | rfl <;> rfl
theorem one_bcs (l:List Bk):∀ u ∈ bcs l,u.oneCell' = true:=by
 intro u hu
 unfold bcs at hu
 obtain ⟨p,_,hp⟩:=List.mem_flatMap.1 hu
 simp only [Bk.cells,List.mem_cons,List.not_mem_nil,or_false] at hp
 rcases hp with rfl | rfl <;> rfl
theorem wpQuiet_load_by {P:Program} {ops:Array Oper} {C:World → Prop} {Qa:Act → Prop} {rest:List Oper} {op:Oper} {a:Act} {ty:TypeId} {x:Operand} {p v:Value} (hl:∀ w,C w → (Instr.loadAt ty p).run P w = .ok v w)
  (hC:∃ w,C w) (ho:op.op = .load ty x) (hw:Region.wanted op (yielded ops a.tmps) = true) (hx:a.eval x = p) (h:wpQuiet P ops C Qa rest (a.put op.dst v)):wpQuiet P ops C Qa (op :: rest) a:=by
 unfold wpQuiet
 rw [if_pos hw]
 refine ⟨v,fun w hc => ?_,h⟩
 unfold Oper.quietAt execOp
 simp only [ho,hx,hl w hc,Sem.run_bind,Sem.run_pure,Result.andThen_ok,Oper.quietUpon]
 exact ⟨trivial,trivial⟩
theorem wp_store_by {P:Program} {op:Oper} {a:Act} {w w':World} {K:Act → World → Prop} {Q:Exit → Act → World → Prop} {ty:TypeId} {x y:Operand} {p v:Value} (hl:(Instr.storeAt ty p v).run P w = .ok () w')
  (ho:op.op = .store ty x y) (hx:a.eval x = p) (hy:a.eval y = v) (h:K (a.put op.dst undef) w'):op.wp P a w K Q:=by
 unfold Oper.wp execOp
 simp only [ho,hx,hy,hl,Sem.run_bind,Sem.run_pure,Result.andThen_ok]
 exact h
theorem setCells_mid {g t:Nat}:∀ (vs:List Value) (o:Nat) (w:World) (cs:List Value),Blk w g t cs.toArray → o + vs.length ≤ cs.length → Blk (w.setCells g o vs) g t (cs.take o ++ vs ++ cs.drop (o + vs.length)).toArray
 | [],o,w,cs,h,hl => by
  simp only [List.append_nil,List.length_nil,Nat.add_zero,List.take_append_drop]
  exact h
 | v :: r,o,w,cs,h,hl => by
  have h1:=h.put o v
  rw [List.setIfInBounds_toArray] at h1
  have h2:=setCells_mid r (o + 1) _ (cs.set o v) h1 (by simp at hl ⊢;omega)
  rw [take_set_ v cs o (by simp at hl;omega),List.append_assoc,List.drop_set_of_lt (by omega)] at h2
  rw [show o + 1 + r.length = o + (v :: r).length by simp;omega] at h2
  refine (congrArg (fun l:List Value => Blk (w.setCells g o (v :: r)) g t l.toArray) ?_).mp h2
  simp
theorem Blk.storeMid {W:World} {g t ty:Nat} {cs:List Value} (h:Blk W g t cs.toArray) (o:Nat) (vs:List Value) (hl:o + vs.length ≤ cs.length) (hi:(Tryz.prog.info? ty).map (·.size) = some vs.length) (h1:∀ v ∈ vs,v.oneCell' = true) :
  ∃ w',(Instr.storeAt ty (.pointer (some ⟨g,o,none⟩)) (.agg vs.toArray)).run Tryz.prog W = .ok () w' ∧ Blk w' g t (cs.take o ++ vs ++ cs.drop (o + vs.length)).toArray ∧ W.grownBy w' (some g):=by
 refine ⟨_,run_storeAt_mid W g o ty vs.toArray (fun j hj => ⟨?_,h.free _⟩) (by simpa using hi) (all_oneCell_toArray h1),?_,?_⟩
 ·rw [h.at_]
  have:o + j < cs.length:=by
   have:j < vs.length:=by simpa using hj
   omega
  simp [this]
 ·exact setCells_mid vs o W cs h hl
 ·exact setCells_only _ _ _ (only_refl _ _)
section
variable {P:Program} {ops:Array Oper} {Q:Exit → Act → World → Prop} {md:Region.Mode} {late:List Nat} {T:Bool → World → Prop}

def pureB (md:Region.Mode) (ops:Array Oper) (late:List Nat):List Nat → Array Bool → Option (Array Bool)
 | [],l => some l
 | i :: is,l => if (Region.ready md ops l).contains i && Region.free md ops l i && ((ops[i]?).map (valOp ·.op)).getD false && !late.contains i then pureB md ops late is (l.setIfInBounds i true) else none
theorem pure_take (hsel:Region.noSelect ops = true) (hQ:∀ d v c a w,Q (.panic c) (Act.put a d v) w → Q (.panic c) a w) {b:Bool} {w:World} (hT:T b w) {C:World → Prop} (hC:∀ w,C w) {Qa:Act → Prop} {f:Nat} {l':Array Bool}
  (hk:∀ a',Closed md ops l' → early late l' = b → Qa a' → wpG P md ops Q late T f l' a' w):∀ (hs:List Nat) (l:Array Bool) (a:Act),Closed md ops l → early late l = b → pureB md ops late hs l = some l' → wpQuiet P ops C Qa (opsAt ops hs) a → wpG P md ops Q late T (hs.length + f) l a w
 | [],l,a,hc,he,hB,h => by
  simp only [pureB,Option.some.injEq] at hB
  subst hB
  simpa [opsAt,wpQuiet] using hk _ hc he h
 | i :: is,l,a,hc,he,hB,h => by
  simp only [pureB] at hB
  split at hB
  ·rename_i hcond
   simp only [Bool.and_eq_true,Bool.not_eq_true'] at hcond
   obtain ⟨⟨⟨hr,hf⟩,hv⟩,hni⟩:=hcond
   cases ho:ops[i]? with
   | none => rw [ho] at hv;cases hv
   | some o =>
    rw [ho] at hv
    simp only [Option.map_some,Option.getD_some] at hv
    simp only [opsAt,ho,wpQuiet] at h
    have hrm:i ∈ Region.ready md ops l:=by simpa using hr
    have hnext:=fun v hn => pure_take hsel hQ hT hC hk is (l.setIfInBounds i true) (a.put o.dst v) (closed_set hc hrm) (by rw [early_set hni];exact he) hB hn
    rw [show (i :: is).length + f = (is.length + f) + 1 by simp only [List.length_cons];omega]
    by_cases hwt:Region.wanted o (yielded ops a.tmps) = true
    ·rw [if_pos hwt] at h
     obtain ⟨v,hy,hn⟩:=yields_of_quiet hv hwt h
     exact wpG_first (C:=C) (b:=b) ho hsel hQ hni (fun _ _ _ _ w _ => hC w) _ l a w hc (fun hb => by rw [he,hb]) (Region.free_spec ho hf) hrm hy (by rw [he];exact hT) (hnext v hn)
    ·rw [if_neg hwt] at h
     exact wpG_first (C:=C) (b:=b) ho hsel hQ hni (fun _ _ _ _ w _ => hC w) _ l a w hc (fun hb => by rw [he,hb]) (Region.free_spec ho hf) hrm (.inr ⟨by simpa using hwt,rfl⟩) (by rw [he];exact hT) (hnext undef h)
  ·cases hB
theorem wp_region_late2 {id:Nat} {a:Act} {w:World} {l:List Oper} (T:Bool → World → Prop) (C:World → Prop) (hC:∀ w,C w) (late:List Nat) (hsP hs0:List Nat) (t:Tr) (hm:P.follows .mixedOrders = true)
  (hB:(Region.noSelect l.toArray && decide (hsP.length + hs0.length + schedLen t ≤ l.toArray.size) && match pureB .any l.toArray late hsP (Array.replicate l.toArray.size false) with
   | some l1 => (match heldB .any l.toArray late true hs0 l1 with | some l' => schedB .any l.toArray late t true l' | none => false)
   | none => false) = true)
  (hQ:∀ d v c a w,Q (.panic c) (Act.put a d v) w → Q (.panic c) a w) (hT:T true w.drew)
  (h:wpQuiet P l.toArray C (fun a1 => wpQuiet P l.toArray (T true) (fun a' => wpEffs P l.toArray late T Q t true a' w.drew) (opsAt l.toArray hs0) a1) (opsAt l.toArray hsP) a):(Code.region id l.toArray true).wp P Q a w:=by
 simp only [Bool.and_eq_true,decide_eq_true_eq] at hB
 obtain ⟨⟨hsel,hlen⟩,hB⟩:=hB
 refine wp_region_any hm (wpAny_of_G (late:=late) (T:=T) _ _ _ _ ?_)
 have hg:∀ j,(Array.replicate l.toArray.size false).getD j false = false:=fun j => by
  simp only [Array.getD_eq_getD_getElem?,Array.getElem?_replicate]
  split <;> rfl
 have hc0:Closed .any l.toArray (Array.replicate l.toArray.size false):=fun j o _ hj => by rw [hg j] at hj;cases hj
 have he0:early late (Array.replicate l.toArray.size false) = true:=by
  unfold early
  rw [List.all_eq_true]
  intro j _
  rw [hg j]
  rfl
 cases h1:pureB .any l.toArray late hsP (Array.replicate l.toArray.size false) with
 | none => rw [h1] at hB;cases hB
 | some l1 =>
  rw [h1] at hB
  simp only at hB
  cases hh:heldB .any l.toArray late true hs0 l1 with
  | none => rw [hh] at hB;cases hB
  | some l' =>
   rw [hh] at hB
   simp only at hB
   have:=pure_take (md:=.any) (late:=late) (T:=T) (f:=hs0.length + (l.toArray.size - hsP.length - hs0.length)) hsel hQ hT hC (fun a1 hc1 he1 ha1 =>
    held_take (md:=.any) (late:=late) (T:=T) (f:=l.toArray.size - hsP.length - hs0.length) hsel hQ hT (fun a' hc' he' ha => effs_walk hsel hQ t true (l.toArray.size - hsP.length - hs0.length) l' a' w.drew (by omega) hB hc' he' hT ha) hs0 l1 a1 hc1 he1 hh ha1) hsP _ a hc0 he0 h1 h
   rw [show hsP.length + (hs0.length + (l.toArray.size - hsP.length - hs0.length)) = l.toArray.size by omega] at this
   exact this
end
end Go.Proofs.YtagpphelgghbpaaGreat
