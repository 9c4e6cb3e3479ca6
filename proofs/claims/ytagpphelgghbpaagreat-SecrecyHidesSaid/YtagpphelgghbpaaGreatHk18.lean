/-
  Texts: Lit, Mpo.
-/
import Derived.Test.YtagpphelgghbpaaGreatHk15
/-
  What is shown: the literals.
-/
set_option linter.unusedSimpArgs false
set_option linter.unusedVariables false
namespace Go.Proofs.YtagpphelgghbpaaGreat
open Go.RowKit
/-- An operation of a plain walk, by an equation on its run. -/
theorem wp_op_by {P : Program} {op : Oper} {a : Act} {w w' : World} {K : Act → World → Prop} {Q : Exit → Act → World → Prop} {v : Value} (h : (execOp a.eval op).run P w = .ok (.value v) w') (hk : K (a.put op.dst v) w') : op.wp P a w K Q := by
  unfold Oper.wp
  rw [h]
  exact hk
theorem wpQuiet_op_by {P : Program} {ops : Array Oper} {C : World → Prop} {Qa : Act → Prop} {rest : List Oper} {op : Oper} {a : Act} {v : Value} (hl : ∀ w, C w → (execOp a.eval op).run P w = .ok (.value v) w)
    (hw : Region.wanted op (yielded ops a.tmps) = true) (h : wpQuiet P ops C Qa rest (a.put op.dst v)) : wpQuiet P ops C Qa (op :: rest) a := by
  unfold wpQuiet
  rw [if_pos hw]
  refine ⟨v, fun w hc => ?_, h⟩
  unfold Oper.quietAt
  simp only [hl w hc, Oper.quietUpon]
  exact ⟨trivial, trivial⟩
theorem run_of_build {P : Program} {op : Oper} {ev : Operand → Value} {ty : TypeId} {parts : Array (Nat × Operand)} {parts' : Array (Nat × Value)} {w : World} {cells : Array Value} (ho : op.op = .build ty parts) (hp : parts.map (fun (i, x) => (i, ev x)) = parts') (hb : P.built ty parts'.toList = some cells) :
    (execOp ev op).run P w = .ok (.value (.agg cells)) w := by
  unfold execOp
  simp only [ho, hp, run_build w ty _ cells hb, Sem.run_bind, Sem.run_pure, Result.andThen_ok]
theorem run_of_slice {P : Program} {op : Oper} {ev : Operand → Value} {ty : TypeId} {n : Nat} {parts : Array (Nat × Operand)} {parts' : Array (Nat × Value)} {w w' : World} {v : Value} (ho : op.op = .buildSlice ty n parts) (hp : parts.map (fun (i, x) => (i, ev x)) = parts') (hb : (Instr.buildSlice ty n parts').run P w = .ok v w') :
    (execOp ev op).run P w = .ok (.value v) w' := by
  unfold execOp
  simp only [ho, hp, hb, Sem.run_bind, Sem.run_pure, Result.andThen_ok]
end Go.Proofs.YtagpphelgghbpaaGreat

/-
  Maps from numbers to objects; the view's list of the objects with some ids.
-/
set_option linter.unusedSimpArgs false
set_option linter.unusedVariables false
namespace Go.Proofs.YtagpphelgghbpaaGreat
open Go.RowKit

def zvs : List Value := [.int .i64 0, .int .i64 0, .int .i64 0, .int .i64 0, .int .i64 0, .int .i64 0, .int .i64 0, .slice none 0 0, .slice none 0 0, .bool false, .bool false, .bool false, .int .i64 0, .int .i64 0]
set_option maxRecDepth 100000 in
theorem size_vseat : (Tryz.prog.info? 95).map (·.size) = some 14 := by decide +kernel
theorem player0 (w : World) : Calls Tryz.prog 56 #[.int .i64 0] w fun e w' => e = .returned (.bool true) ∧ w = w' := by
  go_enter Tryz.func56, Tryz.ntmps56
  go_wp2
  go_ret
  exact ⟨rfl, rfl⟩
theorem player1 (w : World) : Calls Tryz.prog 56 #[.int .i64 1] w fun e w' => e = .returned (.bool true) ∧ w = w' := by
  go_enter Tryz.func56, Tryz.ntmps56
  go_wp2
  go_ret
  exact ⟨rfl, rfl⟩

def obD (o : Ob) : DataW Unit := .agg [.lit (.int .i64 o.id), .lit (.int .i64 o.card), .lit (.int .i64 o.own), .lit (.int .i64 o.pow), .lit (.int .i64 o.tou), .lit (.int .i64 o.dam), .lit (.int .i64 o.cnt), .lit (.int .i64 o.pp), .lit (.int .i64 o.pt), .lit (.bool o.tap), .lit (.bool o.sick), .lit (.bool o.doom)]
theorem obD_inj {a b : Ob} (h : obD a = obD b) : a = b := by
  obtain ⟨a1, a2, a3, a4, a5, a6, a7, a8, a9, a10, a11, a12⟩ := a
  obtain ⟨b1, b2, b3, b4, b5, b6, b7, b8, b9, b10, b11, b12⟩ := b
  unfold obD at h
  simp only [DataW.agg.injEq, List.cons.injEq, DataW.lit.injEq, Lit.int.injEq, Lit.bool.injEq, true_and, and_true] at h
  obtain ⟨h1, h2, h3, h4, h5, h6, h7, h8, h9, h10, h11, h12⟩ := h
  subst h1 h2 h3 h4 h5 h6 h7 h8 h9 h10 h11 h12
  rfl
theorem cells_inj {a b : Ob} (h : (Value.agg a.cells.toArray) = .agg b.cells.toArray) : a = b := by
  obtain ⟨a1, a2, a3, a4, a5, a6, a7, a8, a9, a10, a11, a12⟩ := a
  obtain ⟨b1, b2, b3, b4, b5, b6, b7, b8, b9, b10, b11, b12⟩ := b
  have h0 : [Value.int .i64 a1, .int .i64 a2, .int .i64 a3, .int .i64 a4, .int .i64 a5, .int .i64 a6, .int .i64 a7, .int .i64 a8, .int .i64 a9, .bool a10, .bool a11, .bool a12] = [Value.int .i64 b1, .int .i64 b2, .int .i64 b3, .int .i64 b4, .int .i64 b5, .int .i64 b6, .int .i64 b7, .int .i64 b8, .int .i64 b9, .bool b10, .bool b11, .bool b12] := by
    injection h with h
    have := congrArg Array.toList h
    exact this
  simp only [List.cons.injEq, Value.int.injEq, Value.bool.injEq, true_and, and_true] at h0
  obtain ⟨h1, h2, h3, h4, h5, h6, h7, h8, h9, h10, h11, h12⟩ := h0
  subst h1 h2 h3 h4 h5 h6 h7 h8 h9 h10 h11 h12
  rfl
open Classical in
noncomputable def robj (v : Value) : Option (DataW Unit × List MemPlace) := if h : ∃ o : Ob, v = .agg o.cells.toArray then some (obD h.choose, []) else none
theorem robj_of (o : Ob) : robj (.agg o.cells.toArray) = some (obD o, []) := by
  unfold robj
  have h : ∃ p : Ob, Value.agg o.cells.toArray = .agg p.cells.toArray := ⟨o, rfl⟩
  rw [dif_pos h, cells_inj h.choose_spec.symm]
theorem robj_inv {v : Value} {o : Ob} {ps : List MemPlace} (h : robj v = some (obD o, ps)) : v = .agg o.cells.toArray := by
  unfold robj at h
  split at h
  · rename_i hx
    have h1 := hx.choose_spec
    simp only [Option.some.injEq, Prod.mk.injEq] at h
    rw [h1, obD_inj h.1]
  · cases h
def ob0 : Ob := ⟨0, 0, 0, 0, 0, 0, 0, 0, 0, false, false, false⟩
set_option maxRecDepth 100000 in
theorem zero_obj (w : World) : (zeroValue 46).run Tryz.prog w = .ok (.agg ob0.cells.toArray) w := by kernel_rfl
/-- Block g is a map of n objects by numbers: f. -/
def MapO (w : World) (g n : Nat) (f : Int → Option Ob) : Prop := ∃ D, MapR robj w g n (fun x => (f x).map obD) D
section
variable {w w' : World} {g n : Nat} {f : Int → Option Ob}
theorem MapO.make (w : World) : MapO (w.alloc (.map #[] 0)) w.heap.size 0 (fun _ => none) := ⟨_, MapR.make w _⟩
theorem MapO.lt (h : MapO w g n f) : g < w.heap.size := h.choose_spec.lt
theorem MapO.below (h : MapO w g n f) (hb : Below w.heap.size w w') : MapO w' g n f := ⟨_, h.choose_spec.below hb⟩
theorem MapO.kept {row : Option Nat} (h : MapO w g n f) (hg : w.grownBy w' row) (hne : some g ≠ row) : MapO w' g n f := ⟨_, h.choose_spec.kept hg hne⟩
theorem MapO.put (h : MapO w g n f) {x : Int} {o : Ob} (hx : wfI x) (hn : n < maxLen) :
    ∃ w', (Instr.mapUpdate 155 (.map (some g)) (.int .i64 x) (.agg o.cells.toArray)).run Tryz.prog w = .ok () w' ∧ MapO w' g (if (f x).isSome then n else n + 1) (putF f x o) ∧ w.grownBy w' (some g) := by
  obtain ⟨D, h⟩ := h
  obtain ⟨w', hrun, hm, hg⟩ := h.put Tryz.underlying155 hx (robj_of o) hn
  refine ⟨w', hrun, ⟨D.put (.int .i64 x) (obD o), ?_⟩, hg⟩
  have e : (fun y => (putF f x o y).map obD) = fun y => if y = x then some (obD o) else (f y).map obD := by
    funext y
    unfold putF
    split <;> rfl
  rw [e]
  simpa using hm
theorem MapO.get (h : MapO w g n f) {x : Int} (hx : wfI x) : (Instr.lookup 155 (.map (some g)) (.int .i64 x) false).run Tryz.prog w = .ok (.agg ((f x).getD ob0).cells.toArray) w := by
  obtain ⟨D, h⟩ := h
  obtain ⟨v, ps, hrun, hv⟩ := h.get Tryz.underlying155 (zero_obj w) (robj_of ob0) hx
  rw [hrun]
  cases hf : f x with
  | none =>
    rw [hf] at hv
    rw [robj_inv (o := ob0) hv]
    rfl
  | some o =>
    rw [hf] at hv
    rw [robj_inv (o := o) hv]
    rfl
end
set_option maxRecDepth 100000 in
set_option maxHeartbeats 1600000 in
theorem allf_any (l : List Ob) (f : Int → Option Ob) (gM gB nM : Nat) (s : Sl) (ids : List Int) (w : World) (hM : MapO w gB nM f) (hbox : w.cell? ⟨gM, 0, none⟩ = some (.map (some gB))) (hgM : gM < w.heap.size) (hf : ∀ i ∈ ids, f i = some (obI l i)) (hl : LsR w s ids) (hn : ids.length ≤ 500) :
    Calls Tryz.prog 101 #[.slice s.A ids.length s.c, .pointer (some ⟨gM, 0, none⟩)] w (SobEnd l ids w) := by
  obtain ⟨⟨IA, Ic⟩, hI⟩ : ∃ t, s = t := ⟨_, rfl⟩
  subst hI
  obtain ⟨ni, hni⟩ : ∃ n, ids.length = n := ⟨_, rfl⟩
  have HL := Lib.hid hl.row
  have HW := Lib.hid hl.wf
  simp only [hni] at HL hn ⊢
  have HNI := Lib.hid hni
  have HM := Lib.hid hM
  have HF := Lib.hid hf
  have HBX := Lib.hid hbox
  have HGM := Lib.hid hgM
  clear hl hM hf hbox hni hgM
  go_enter Tryz.func101, Tryz.ntmps101
  go_wp2_with fail
  have HX0 : Hid (XOwns w w.heap.size 46 12 none 0 0 (ocs ((ids.take 0).map (obI l)))) := Lib.hid (XOwns.nil_ _ _ _ _)
  go_loopw [4, 9] (fun a i W => ∃ (k : Nat) (A : Option Addr) (c : Nat), k ≤ ni ∧ i = .int .i64 k ∧ a = .slice A k c ∧ Hid (XOwns W w.heap.size 46 12 A k c (ocs ((ids.take k).map (obI l)))) ∧ Hid (Below w.heap.size w W)) (fun _ i _ => ni - (intOf i).toNat)
  case atStart => exact ⟨0, none, 0, Nat.zero_le _, rfl, rfl, HX0, Lib.hid (Below.refl _ _)⟩
  case round =>
    obtain ⟨k, A, c, hk, rfl, rfl, HX, HB⟩ := hrel
    clear HX0
    by_cases hkn : k < ni
    · have hkn' : (k : Int) < ni := by omega
      obtain ⟨ad, rfl, hadl, c0⟩ := int_at (HL.out.below HB.out) hkn
      have hget := ith_get (xs := ids) (k := k) (by rw [HNI.out]; exact hkn)
      generalize ith ids k = x at *
      have HGET := Lib.hid hget
      clear hget
      have hmem := List.mem_of_getElem? HGET.out
      have cM : wr.cell? ⟨gM, 0, none⟩ = some (.map (some gB)) := by rw [keep_at HB.out gM HGM.out]; exact HBX.out
      have hlk := (HM.out.below HB.out).get (x := x) (HW.out x hmem)
      rw [HF.out x hmem] at hlk
      obtain ⟨p, hp⟩ : ∃ p, obI l x = p := ⟨_, rfl⟩
      rw [hp] at hlk
      simp only [Option.getD_some, Ob.cells] at hlk
      have HSP := Lib.hid (show (ids.take (k + 1)).map (obI l) = (ids.take k).map (obI l) ++ [p] by rw [take_snoc HGET.out, List.map_append, List.map_cons, List.map_nil, hp])
      have HXO := HX
      clear HX
      obtain ⟨L, hL⟩ : ∃ L, (ids.take k).map (obI l) = L := ⟨_, rfl⟩
      rw [hL] at HSP HXO
      clear hL hp hmem
      obtain ⟨w7, hw7⟩ : ∃ w7, wr.alloc (.cells #[.int .i64 p.id, .int .i64 p.card, .int .i64 p.own, .int .i64 p.pow, .int .i64 p.tou, .int .i64 p.dam, .int .i64 p.cnt, .int .i64 p.pp, .int .i64 p.pt, .bool p.tap, .bool p.sick, .bool p.doom] 46) = w7 := ⟨_, rfl⟩
      have HBK : Hid (Blk w7 wr.heap.size 46 #[.int .i64 p.id, .int .i64 p.card, .int .i64 p.own, .int .i64 p.pow, .int .i64 p.tou, .int .i64 p.dam, .int .i64 p.cnt, .int .i64 p.pp, .int .i64 p.pt, .bool p.tap, .bool p.sick, .bool p.doom]) := Lib.hid (by rw [← hw7]; exact Blk.mk_ wr _ _ _ rfl)
      have hal7 : Below wr.heap.size wr w7 := by rw [← hw7]; exact (Below.refl _ _).alloc (Nat.le_refl _) _
      have HB7 := Lib.hid (below_call HB.out hal7 HB.out.size)
      have HXO7 := Lib.hid (HXO.out.below hal7)
      clear hal7
      have hzb : w.heap.size ≤ w7.heap.size := HB7.out.size
      go_wp2_with (at_builtin; refine append_xr (w := w7) ?_ (.tmp 13) (.tmp 17) 22 ?_ w.heap.size 46 _ 12 80 tinfo_objs Tryz.underlying22 rfl (by decide) A k c (ocs L) ?_ HXO7.out (some ⟨wr.heap.size, 0, none⟩) 1 1 (ocs [p]) ?_ (fun h => by cases h) (reads_block HBK.out 12 1 rfl) (one_ocs _) ?_ ?_ ?_ ?_; rfl; rfl; rfl; rfl; omega; omega; exact hzb; intro A8 c8 w8 ho8 hb8)
      have HB8 := Lib.hid (HB7.out.trans hb8)
      go_roundw
      case rel => exact ⟨k + 1, A8, c8, by omega, by go_num, rfl, Lib.hid (by rw [HSP.out]; (have h := ho8; rw [show ocs L ++ ocs [p] = ocs (L ++ [p]) by simp [ocs]] at h; exact h)), HB8⟩
      case measure => simp [intOf]; omega
    · have HKE : Hid (k = ni) := Lib.hid (by omega)
      clear hk
      go_wp2_with fail
      go_ret
      refine ⟨A, c, by rw [HNI.out, HKE.out]; rfl, ?_, HB.out⟩
      have h := HX.out
      rw [List.take_of_length_le (by rw [HNI.out, HKE.out]; exact Nat.le_refl _)] at h
      rw [HNI.out, ← HKE.out]
      exact h
end Go.Proofs.YtagpphelgghbpaaGreat
