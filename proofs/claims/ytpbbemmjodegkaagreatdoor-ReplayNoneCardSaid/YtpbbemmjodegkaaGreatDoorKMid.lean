/-
  Whole structs: loaded, stored, returned.
-/
import Derived.Test.YtpbbemmjodegkaaGreatDoorOnlyF
import Derived.Test.YtpbbemmjodegkaaGreatDoorBlk
import Derived.Test.YtpbbemmjodegkaaGreatDoorLater
import Derived.Deep.MidRow
set_option linter.unusedSimpArgs false
set_option linter.unusedVariables false
namespace Go.Proofs.YtpbbemmjodegkaaGreatDoor
open Go.RowKit

theorem Blk.mid {W : World} {g o ty t : Nat} {cs : Array Value} (h : Blk W g t cs) (vs : List Value) (d : TypeDesc) (hr : ∀ (j : Nat) (v : Value), vs[j]? = some v → cs[o + j]? = some v)
    (hu : Tryz.prog.underlying ty = some d) (hd : d.isRow = true) (hi : (Tryz.prog.info? ty).map (·.size) = some vs.length) :
    (Instr.loadAt ty (.pointer (some ⟨g, o, none⟩))).run Tryz.prog W = .ok (.agg vs.toArray) W :=
  run_loadAt_mid W g o ty vs d (fun j v hj => (h.at_ (o + j)).trans (hr j v hj)) hu hd hi
theorem wpList_load_by {P : Program} {ops : Array Oper} {rest : List Oper} {op : Oper} {a : Act} {w : World} {Q : Exit → Act → World → Prop} {ty : TypeId} {x : Operand} {p v : Value} (hl : (Instr.loadAt ty p).run P w = .ok v w)
    (ho : op.op = .load ty x) (hw : Region.wanted op (yielded ops a.tmps) = true) (hx : a.eval x = p) (h : wpList P ops Q rest (a.put op.dst v) w) : wpList P ops Q (op :: rest) a w :=
  wpList_step fun K hK => by
    simp only [hw, if_true]
    unfold Oper.wp execOp
    simp only [ho, hx, hl, Sem.run_bind, Sem.run_pure, Result.andThen_ok]
    exact hK _ _ h
theorem XOwns.setX {w : World} {base : Nat} {e : TypeId} {size g n c : Nat} {xs : List Value} (h : XOwns w base e size (some ⟨g, 0, none⟩) n c xs) (j : Nat) (u : Value) : XOwns (w.setCell ⟨g, j, none⟩ u) base e size (some ⟨g, 0, none⟩) n c (xs.set j u) :=
  ⟨(h.1.stored j u).1, h.2⟩
theorem XOwns.blk_ {W W' : World} {base e size n c g t : Nat} {A : Option Addr} {xs : List Value} {cs : Array Value} (h : XOwns W base e size A n c xs) (hk : Blk W g t cs) (hg : W.grownBy W' (some g)) (h1 : e ≠ t) : XOwns W' base e size A n c xs := h.grown hg (.inr (h.apart_blk hk h1))
/-- A part of a function's code: region n. -/
def findR (n : Nat) : Code → Option Code
  | .region m ops b => if m = n then some (.region m ops b) else Option.none
  | .loop c => findR n c
  | .seq a b => match findR n a with
    | some c => some c
    | Option.none => findR n b
  | .block _ c => findR n c
  | .scope c => findR n c
  | .cond _ a b => match findR n a with
    | some c => some c
    | Option.none => findR n b
  | _ => Option.none
def regOf (f : Func) (n : Nat) : Code := (f.body.bind (findR n)).getD .skip
theorem wpQuiet_load_by {P : Program} {ops : Array Oper} {C : World → Prop} {Qa : Act → Prop} {rest : List Oper} {op : Oper} {a : Act} {ty : TypeId} {x : Operand} {p v : Value} (hl : ∀ w, C w → (Instr.loadAt ty p).run P w = .ok v w)
    (hC : ∃ w, C w) (ho : op.op = .load ty x) (hw : Region.wanted op (yielded ops a.tmps) = true) (hx : a.eval x = p) (h : wpQuiet P ops C Qa rest (a.put op.dst v)) : wpQuiet P ops C Qa (op :: rest) a := by
  unfold wpQuiet
  rw [if_pos hw]
  refine ⟨v, fun w hc => ?_, h⟩
  unfold Oper.quietAt execOp
  simp only [ho, hx, hl w hc, Sem.run_bind, Sem.run_pure, Result.andThen_ok, Oper.quietUpon]
  exact ⟨trivial, trivial⟩
theorem ret_cell {fn : Func} {p : Tmp} {ty : TypeId} {tmps : Array Value} {w : World} {g t : Nat} {cs : Array Value} {d : TypeDesc} (h : fn.results = #[.cell p ty]) (hp : tmps.getD p undef = .pointer (some ⟨g, 0, none⟩)) (hb : Blk w g t cs)
    (hu : Tryz.prog.underlying ty = some d) (hd : d.isRow = true) (hi : (Tryz.prog.info? ty).map (·.size) = some cs.size) : (results fn tmps).run Tryz.prog w = .ok (.agg cs) w := by
  unfold Blk at hb
  exact results_cell_row h tmps w g t cs (0, 0) d hp hb hu (by cases d <;> simp_all) hi
theorem take_set_ {α : Type} (v : α) : ∀ (cs : List α) (o : Nat), o < cs.length → (cs.set o v).take (o + 1) = cs.take o ++ [v]
  | [], _, h => by simp at h
  | c :: cs, 0, _ => by simp
  | c :: cs, o + 1, h => by
    have := take_set_ v cs o (by simpa using h)
    simp [this]
theorem setCells_blk {g t : Nat} : ∀ (vs : List Value) (o : Nat) (w : World) (cs : List Value), Blk w g t cs.toArray → o + vs.length = cs.length → Blk (w.setCells g o vs) g t (cs.take o ++ vs).toArray
  | [], o, w, cs, h, hl => by
    rw [List.take_of_length_le (by simp at hl; omega), List.append_nil]
    exact h
  | v :: r, o, w, cs, h, hl => by
    have h1 := h.put o v
    rw [List.setIfInBounds_toArray] at h1
    have h2 := setCells_blk r (o + 1) _ (cs.set o v) h1 (by simp at hl ⊢; omega)
    rw [take_set_ v cs o (by simp at hl; omega), List.append_assoc] at h2
    exact h2
theorem setCells_only {g : Nat} {a : World} : ∀ (vs : List Value) (o : Nat) (w : World), a.grownBy w (some g) → a.grownBy (w.setCells g o vs) (some g)
  | [], _, _, h => h
  | v :: r, o, w, h => setCells_only r (o + 1) _ (only_setCell h (.inl rfl) v)
theorem Blk.storeAll {W : World} {g t ty : Nat} {cs : Array Value} (h : Blk W g t cs) (vs : List Value) (hl : vs.length = cs.size) (hi : (Tryz.prog.info? ty).map (·.size) = some vs.length) (h1 : ∀ v ∈ vs, v.oneCell' = true) :
    ∃ w', (Instr.storeAt ty (.pointer (some ⟨g, 0, none⟩)) (.agg vs.toArray)).run Tryz.prog W = .ok () w' ∧ Blk w' g t vs.toArray ∧ W.grownBy w' (some g) := by
  refine ⟨_, run_storeAt_mid W g 0 ty vs.toArray (fun j hj => ⟨?_, h.free _⟩) (by simpa using hi) (all_oneCell_toArray h1), ?_, ?_⟩
  · rw [h.at_, Nat.zero_add]
    have : j < cs.size := by rw [← hl]; simpa using hj
    simp [this]
  · have := setCells_blk vs 0 W cs.toList h (by simp [hl])
    simpa using this
  · exact setCells_only _ _ _ (only_refl _ _)
theorem wpList_store_by {P : Program} {ops : Array Oper} {rest : List Oper} {op : Oper} {a : Act} {w w' : World} {Q : Exit → Act → World → Prop} {ty : TypeId} {x y : Operand} {p v : Value} (hl : (Instr.storeAt ty p v).run P w = .ok () w')
    (ho : op.op = .store ty x y) (hw : Region.wanted op (yielded ops a.tmps) = true) (hx : a.eval x = p) (hy : a.eval y = v) (h : wpList P ops Q rest (a.put op.dst undef) w') : wpList P ops Q (op :: rest) a w :=
  wpList_step fun K hK => by
    simp only [hw, if_true]
    unfold Oper.wp execOp
    simp only [ho, hx, hy, hl, Sem.run_bind, Sem.run_pure, Result.andThen_ok]
    exact hK _ _ h
/-- An operation of a plain walk, by an equation on its run. -/
theorem wp_op_by {P : Program} {op : Oper} {a : Act} {w w' : World} {K : Act → World → Prop} {Q : Exit → Act → World → Prop} {v : Value} (h : (execOp a.eval op).run P w = .ok (.value v) w') (hk : K (a.put op.dst v) w') : op.wp P a w K Q := by
  unfold Oper.wp
  rw [h]
  exact hk
theorem wpQuiet_op_by {P : Program} {ops : Array Oper} {C : World → Prop} {Qa : Act → Prop} {rest : List Oper} {op : Oper} {a : Act} {v : Value} (hl : ∀ w, C w → (execOp a.eval op).run P w = .ok (.value v) w)
    (hw : Region.wanted op (yielded ops a.tmps) = true) (h : wpQuiet P ops C Qa rest (a.put op.dst v)) : wpQuiet P ops C Qa (op :: rest) a := by
  unfold wpQuiet
  rw [if_pos hw]
  refine ⟨v, fun w hc => ?_, h⟩
  unfold Oper.quietAt
  simp only [hl w hc, Oper.quietUpon]
  exact ⟨trivial, trivial⟩
theorem run_of_build {P : Program} {op : Oper} {ev : Operand → Value} {ty : TypeId} {parts : Array (Nat × Operand)} {parts' : Array (Nat × Value)} {w : World} {cells : Array Value} (ho : op.op = .build ty parts) (hp : parts.map (fun (i, x) => (i, ev x)) = parts') (hb : P.built ty parts'.toList = some cells) :
    (execOp ev op).run P w = .ok (.value (.agg cells)) w := by
  unfold execOp
  simp only [ho, hp, run_build w ty _ cells hb, Sem.run_bind, Sem.run_pure, Result.andThen_ok]
theorem run_of_slice {P : Program} {op : Oper} {ev : Operand → Value} {ty : TypeId} {n : Nat} {parts : Array (Nat × Operand)} {parts' : Array (Nat × Value)} {w w' : World} {v : Value} (ho : op.op = .buildSlice ty n parts) (hp : parts.map (fun (i, x) => (i, ev x)) = parts') (hb : (Instr.buildSlice ty n parts').run P w = .ok v w') :
    (execOp ev op).run P w = .ok (.value v) w' := by
  unfold execOp
  simp only [ho, hp, hb, Sem.run_bind, Sem.run_pure, Result.andThen_ok]
end Go.Proofs.YtpbbemmjodegkaaGreatDoor
