/-
  Texts: Copm, Std, Lit, Drn.
-/
import Derived.Test.YtagpphelgghbpaaTk22
import Derived.Test.YtagpphelgghbpaaTk20
/-
  spectate.copied: what shares no memory.
-/
set_option linter.unusedSimpArgs false
set_option linter.unusedVariables false
namespace Go.Proofs.Ytagpphelgghbpaa
open Go.RowKit

structure CpS (w : World) (p : Pu) (m : PuM) (k : Nat) (m' : PuM) (W : World) : Prop where
  P : Blk W w.heap.size 59 (p.cells m').toArray
  T : PuT W w.heap.size p m'
  res : Blk W (w.heap.size + 1) 59 zpu
  bel : Below w.heap.size w W
  e0 : k = 0 → m'.m0 = m.m0
  o0 : 1 ≤ k → VsO W w.heap.size p.v0 m'.m0
  e1 : k < 2 → m'.m1 = m.m1
  o1 : 2 ≤ k → VsO W w.heap.size p.v1 m'.m1
def CopEnd (p : Pu) (w : World) (e : Ending) (w' : World) : Prop := ∃ m', e = .returned (.agg (p.cells m').toArray) ∧ PuO w' w.heap.size p m' ∧ Below w.heap.size w w'
set_option maxRecDepth 100000 in
set_option maxHeartbeats 3200000 in
theorem copied_any (p : Pu) (m : PuM) (w : World) (hR : PuR w p m) (hsm : PuSm p) : Calls Try.prog 42 #[.agg (p.cells m).toArray] w (CopEnd p w) := by
  have HR := Lib.hid hR
  have HSM := Lib.hid hsm
  obtain ⟨cs, hcs⟩ : ∃ cs, (p.cells m).toArray = cs := ⟨_, rfl⟩
  obtain ⟨w2, hw2⟩ : ∃ w2, (w.alloc (.cells cs 59)).alloc (.cells zpu 59) = w2 := ⟨_, rfl⟩
  have HB2 : Hid (Below w.heap.size w w2) := Lib.hid (by rw [← hw2]; exact ((Below.refl _ _).alloc (Nat.le_refl _) _).alloc (by simp) _)
  have HBX2 : Hid (Blk w2 w.heap.size 59 (p.cells m).toArray) := Lib.hid (by rw [← hw2, hcs]; exact (Blk.mk_ w _ _ _ rfl).alloc _)
  have HRS2 : Hid (Blk w2 (w.heap.size + 1) 59 zpu) := Lib.hid (by rw [← hw2]; exact Blk.mk_ _ _ _ _ (by simp))
  rw [hcs]
  unfold zpu at hw2
  clear hR hsm hcs
  go_enter Try.func42, Try.ntmps42
  go_wp2_with fail
  refine cp_lists w w2 p m HR.out HSM.out HB2.out HBX2.out HRS2.out _ _ _ _ _ _ _ _ _ _ _ _ _ _ _ _ _ _ _ _ _ _ _ _ _ _ _ _ _ _ _ _ _ _ _ _ _ _ _ _ _ _ _ _ _ ?_ ?_
  · exact fun d _ _ _ _ h => by cases d <;> exact h
  intro v4 v5 v6 v7 v8 v9 v10 v11 v12 v13 v14 v15 v16 v17 v18 v19 m1 W1 h1
  have HF1 : Hid (CpS w p m 0 m1 W1) := Lib.hid ⟨h1.2.2.2.1, h1.2.2.1, h1.2.2.2.2.1, h1.2.2.2.2.2, fun _ => h1.1, fun h => absurd h (by omega), fun _ => h1.2.1, fun h => absurd h (by omega)⟩
  clear h1 hw2 HB2 HBX2 HRS2
  go_wp2_with fail
  go_loopw [20] (fun i W => ∃ (k : Nat) (m' : PuM), k ≤ 2 ∧ i = .int .i64 k ∧ Hid (CpS w p m k m' W)) (fun i _ => 2 - (intOf i).toNat)
  case atStart => exact ⟨0, m1, by omega, rfl, HF1⟩
  case round =>
    obtain ⟨k, m', hk, rfl, HF⟩ := hrel
    clear HF1
    by_cases hk2 : k < 2
    · have hk2' : (k : Int) < 2 := by omega
      have HK2 := Lib.hid hk2
      clear hk2
      go_wp2_with fail
      have h01 : k = 0 ∨ k = 1 := by have := HK2.out; omega
      rcases h01 with h0 | h0
      · have H0 := Lib.hid h0
        clear h0
        refine cp_seat0 k H0.out w wr p m' ?_ HSM.out HF.out.bel HF.out.P HF.out.T HF.out.res _ _ _ _ _ _ _ _ _ _ _ _ _ _ _ _ _ _ _ _ _ _ _ _ _ _ _ _ _ _ _ _ _ _ _ _ _ _ _ _ _ _ _ _ ?_ ?_
        · have h := HF.out.e0 H0.out
          rw [h]
          exact HR.out.v0
        · exact fun d _ _ _ _ h => by cases d <;> exact h
        intro v23 v24 v25 v26 v27 v28 v29 v30 v31 v32 v33 v34 v35 v36 v37 v38 v39 v40 v41 v42 v' W9 h9
        have HF9 : Hid (CpS w p m (k + 1) { m' with m0 := v' } W9) := Lib.hid ⟨h9.2.1, ⟨h9.2.2.1.S, h9.2.2.1.Q, h9.2.2.1.AT, h9.2.2.1.BK⟩, h9.2.2.2.1, h9.2.2.2.2, fun h => absurd h (by omega), fun _ => h9.1, fun _ => HF.out.e1 HK2.out, fun h => absurd h (by have := H0.out; omega)⟩
        clear h9 HF
        go_wp2_with fail
        go_roundw
        case rel => exact ⟨k + 1, _, by have := HK2.out; omega, by go_num, HF9⟩
        case measure => simp [intOf]; have := HK2.out; omega
      · have H0 := Lib.hid h0
        clear h0
        refine cp_seat1 k H0.out w wr p m' ?_ HSM.out HF.out.bel HF.out.P HF.out.T HF.out.res (HF.out.o0 (by have := H0.out; omega)) _ _ _ _ _ _ _ _ _ _ _ _ _ _ _ _ _ _ _ _ _ _ _ _ _ _ _ _ _ _ _ _ _ _ _ _ _ _ _ _ _ _ _ _ ?_ ?_
        · have h := HF.out.e1 HK2.out
          rw [h]
          exact HR.out.v1
        · exact fun d _ _ _ _ h => by cases d <;> exact h
        intro v23 v24 v25 v26 v27 v28 v29 v30 v31 v32 v33 v34 v35 v36 v37 v38 v39 v40 v41 v42 v' W9 h9
        have HF9 : Hid (CpS w p m (k + 1) { m' with m1 := v' } W9) := Lib.hid ⟨h9.2.1, ⟨h9.2.2.1.S, h9.2.2.1.Q, h9.2.2.1.AT, h9.2.2.1.BK⟩, h9.2.2.2.1, h9.2.2.2.2.1, fun h => absurd h (by omega), fun _ => h9.2.2.2.2.2, fun h => absurd h (by have := H0.out; omega), fun _ => h9.1⟩
        clear h9 HF
        go_wp2_with fail
        go_roundw
        case rel => exact ⟨k + 1, _, by have := HK2.out; omega, by go_num, HF9⟩
        case measure => simp [intOf]; have := HK2.out; omega
    · have hk2' : decide ((k : Int) < 2) = false := by simp; omega
      have hb := HF.out.P
      have hone := one_pu p m'
      have hlen : (p.cells m').length = 37 := rfl
      obtain ⟨PC, hPC⟩ : ∃ l, p.cells m' = l := ⟨_, rfl⟩
      rw [hPC] at hb hone hlen
      have HLP : Hid ((Instr.loadAt 59 (.pointer (some ⟨w.heap.size, 0, none⟩))).run Try.prog wr = .ok (.agg PC.toArray) wr) := Lib.hid (hb.mid PC _ (fun j v hj => by rw [Nat.zero_add]; simpa using hj) Try.underlying59 rfl (by rw [size_public, hlen]))
      obtain ⟨W8, hst, hB8, hg8⟩ := HF.out.res.storeAll (ty := 59) PC (by rw [hlen]; rfl) (by rw [size_public, hlen]) hone
      have HST := Lib.hid hst
      have HB8 := Lib.hid hB8
      have HEND : Hid (PuO W8 w.heap.size p m' ∧ Below w.heap.size w W8) := Lib.hid ⟨⟨(HF.out.o0 (by omega)).blk HF.out.res hg8 off_public, (HF.out.o1 (by omega)).blk HF.out.res hg8 off_public, HF.out.T.S.blk HF.out.res hg8 (by decide) (by decide), HF.out.T.Q.blk HF.out.res hg8 (by decide) (by decide), HF.out.T.AT.blk_ HF.out.res hg8 (by decide), HF.out.T.BK.blk_ HF.out.res hg8 (by decide)⟩, HF.out.bel.grown hg8 HF.out.bel.size (fun q hq => by injection hq with hq; omega)⟩
      have HPE := Lib.hid hPC
      have HLEN := Lib.hid hlen
      clear hb hone hlen hPC hst hB8 hg8 HF hk hk2
      go_wp2_with (first | (refine wpList_load_by HLP.out rfl rfl rfl ?_; simp only [Act.put, List.setIfInBounds_toArray, List.set_cons_succ, List.set_cons_zero]) | (refine wpList_store_by HST.out rfl rfl rfl rfl ?_; simp only [Act.put, List.setIfInBounds_toArray, List.set_cons_succ, List.set_cons_zero]) | fail)
      refine bodyPost_ret (v := .agg PC.toArray) (ret_cell (fn := Try.f42) (p := 2) rfl rfl HB8.out Try.underlying59 rfl (by rw [size_public]; simp [HLEN.out])) rfl ?_
      exact ⟨_, by rw [HPE.out], HEND.out.1, HEND.out.2⟩
end Go.Proofs.Ytagpphelgghbpaa

/-
  A stand: is a board due, the time goes on.
-/
set_option linter.unusedSimpArgs false
set_option linter.unusedVariables false
namespace Go.Proofs.Ytagpphelgghbpaa
open Go.RowKit

set_option maxRecDepth 100000 in
theorem due_any (g : Nat) (cs : List Value) (w : World) (h1 : w.cell? ⟨g, 1, none⟩ = some (.int .u64 0)) (h2 : w.cell? ⟨g, 2, none⟩ = some (.int .u64 1)) (hg : g < w.heap.size) (hc : cs[37]? = some (.int .u64 1)) :
    Calls Try.prog 41 #[.pointer (some ⟨g, 0, none⟩), .agg cs.toArray] w fun e w' => e = .returned (.bool true) ∧ Below w.heap.size w w' := by
  have HB : Hid (Below w.heap.size w (w.alloc (.cells cs.toArray 108))) := Lib.hid ((Below.refl _ _).alloc (Nat.le_refl _) _)
  have HP : Hid (Blk (w.alloc (.cells cs.toArray 108)) w.heap.size 108 cs.toArray) := Lib.hid (Blk.mk_ _ _ _ _ rfl)
  have H1 := Lib.hid h1
  have H2 := Lib.hid h2
  have HC := Lib.hid hc
  have HG := Lib.hid hg
  clear h1 h2 hc hg
  go_enter Try.func41, Try.ntmps41
  go_wp2_with fail
  obtain ⟨w1, hw1⟩ : ∃ w1, w.alloc (.cells cs.toArray 108) = w1 := ⟨_, rfl⟩
  rw [hw1] at HB HP
  rw [hw1]
  clear hw1
  have x1 : ∀ s : Later w1.heap.size w1, s.W.cell? ⟨g, 1, none⟩ = some (.int .u64 0) := fun s => by
    rw [keep_at (below_call HB.out s.h HB.out.size) g HG.out]; exact H1.out
  have x2 : ∀ s : Later w1.heap.size w1, s.W.cell? ⟨g, 2, none⟩ = some (.int .u64 1) := fun s => by
    rw [keep_at (below_call HB.out s.h HB.out.size) g HG.out]; exact H2.out
  have x37 : ∀ s : Later w1.heap.size w1, s.W.cell? ⟨w.heap.size, 37, none⟩ = some (.int .u64 1) := fun s => ((HP.out.call s.h).at_ 37).trans (by simpa using HC.out)
  refine wp_region_sched (fun w' => ∃ s : Later w1.heap.size w1, w' = s.W) [0,1,2,3,4,5,7,8,9,10] (.one 6 [] (.one 11 [12] .done)) (by kernel_rfl) (by kernel_rfl) (fun d _ _ _ _ h => by cases d <;> exact h) ⟨⟨_, (Below.refl _ _).drew⟩, rfl⟩ ?_
  refine quiet_as (C' := (fun w' => ∃ s : Later w1.heap.size w1, w' = s.W)) rfl ?_
  simp only [opsAt, List.getElem?_toArray, List.getElem?_cons_succ, List.getElem?_cons_zero]
  repeat (go_big_quiet_step (fail))
  refine wpQuiet_nil ?_
  obtain ⟨w1_d, hwd⟩ : ∃ v, w1.drew = v := ⟨_, rfl⟩
  have HBW_1 : Hid (Below w.heap.size w w1_d) := Lib.hid (by rw [← hwd]; exact (HB.out).drew)
  have HBR_1 : Hid (Below w1.heap.size w1 w1_d) := Lib.hid (by rw [← hwd]; exact (Below.refl _ _).drew)
  rw [hwd]
  clear hwd
  refine eff_as (C' := (fun w' => ∃ s : Later w1.heap.size w1, w' = s.W)) rfl ?_
  (refine eff_lit rfl rfl (fun K hK => ?_))
  go_big_op
  refine (add10 _).mono ?_
  rintro e w_ ⟨rfl, rfl⟩
  refine hK _ _ ⟨⟨_, HBR_1.out⟩, rfl⟩ ?_
  clear hK K
  try simp only [opsAt, List.getElem?_toArray, List.getElem?_cons_succ, List.getElem?_cons_zero]
  refine wpQuiet_nil ?_
  refine eff_as (C' := (fun w' => ∃ s : Later w1.heap.size w1, w' = s.W)) rfl ?_
  (refine eff_lit rfl rfl (fun K hK => ?_))
  go_big_op
  refine (due11 _).mono ?_
  rintro e w_ ⟨rfl, rfl⟩
  refine hK _ _ ⟨⟨_, HBR_1.out⟩, rfl⟩ ?_
  clear hK K
  try simp only [opsAt, List.getElem?_toArray, List.getElem?_cons_succ, List.getElem?_cons_zero]
  repeat (go_big_quiet_step (fail))
  refine wpQuiet_nil ?_
  refine effs_done ?_
  go_wp2_with fail
  go_ret
  exact ⟨rfl, HBW_1.out⟩
def GoEnd (g : Nat) (A : Option Addr) (n c : Nat) (w : World) (e : Ending) (w' : World) : Prop := e = .returned (.tuple #[]) ∧ Blk w' g 102 #[.bool true, .int .u64 0, .int .u64 1, .slice A n c] ∧ w.grownBy w' (some g)
set_option maxRecDepth 100000 in
theorem goOn_any (g n c : Nat) (A : Option Addr) (now : Int) (w : World) (hb : Blk w g 102 #[.bool true, .int .u64 0, .int .u64 now, .slice A n c]) (hn : n ≤ 1) (hw : now = 0 ∨ now = 1) :
    Calls Try.prog 39 #[.pointer (some ⟨g, 0, none⟩), .int .u64 1] w (GoEnd g A n c w) := by
  have c2 := (hb.at_ 2).trans rfl
  have f2 := hb.free 2
  have hg := hb.lt
  obtain ⟨w1, hw1⟩ : ∃ w1, w.setCell ⟨g, 2, none⟩ (.int .u64 1) = w1 := ⟨_, rfl⟩
  have hb1 := hb.put 2 (.int .u64 1)
  rw [hw1] at hb1
  have HB1 : Hid (Blk w1 g 102 #[.bool true, .int .u64 0, .int .u64 1, .slice A n c]) := Lib.hid hb1
  have HG1 : Hid (w.grownBy w1 (some g)) := Lib.hid (by rw [← hw1]; exact only_setCell (only_refl _ _) (.inl rfl) _)
  have c3 := (HB1.out.at_ 3).trans rfl
  have hn1 : ¬ (1 : Int) < n := by omega
  have hn2 : decide ((1 : Int) < n) = false := by simp; omega
  clear hb hb1 hn
  rcases hw with rfl | rfl
  · go_enter Try.func39, Try.ntmps39
    go_wp2_with fail
    clear hw1 c2 f2
    go_loopw [] (fun W => W = w1) (fun _ => 0)
    case atStart => rfl
    case round =>
      subst hrel
      go_wp2_with fail
      trace_state
      refine bodyPost_end (v := .tuple #[]) (by simp [results, Try.f39]) rfl ⟨rfl, HB1.out, HG1.out⟩
  · go_enter Try.func39, Try.ntmps39
    go_wp2_with fail
    clear hw1 c2 f2
    go_loopw [] (fun W => W = w1) (fun _ => 0)
    case atStart => rfl
    case round =>
      subst hrel
      go_wp2_with fail
      refine bodyPost_end (v := .tuple #[]) (by simp [results, Try.f39]) rfl ⟨rfl, HB1.out, HG1.out⟩
end Go.Proofs.Ytagpphelgghbpaa

/-
  What is shown: the literals.
-/
set_option linter.unusedSimpArgs false
set_option linter.unusedVariables false
namespace Go.Proofs.Ytagpphelgghbpaa
open Go.RowKit
/-- An operation of a plain walk, by an equation on its run. -/
theorem wp_op_by {P : Program} {op : Oper} {a : Act} {w w' : World} {K : Act → World → Prop} {Q : Exit → Act → World → Prop} {v : Value} (h : (execOp a.eval op).run P w = .ok (.value v) w') (hk : K (a.put op.dst v) w') : op.wp P a w K Q := by
  unfold Oper.wp
  rw [h]
  exact hk
theorem wpQuiet_op_by {P : Program} {ops : Array Oper} {C : World → Prop} {Qa : Act → Prop} {rest : List Oper} {op : Oper} {a : Act} {v : Value} (hl : ∀ w, C w → (execOp a.eval op).run P w = .ok (.value v) w)
    (hw : Region.wanted op (yielded ops a.tmps) = true) (h : wpQuiet P ops C Qa rest (a.put op.dst v)) : wpQuiet P ops C Qa (op :: rest) a := by
  unfold wpQuiet
  rw [if_pos hw]
  refine ⟨v, fun w hc => ?_, h⟩
  unfold Oper.quietAt
  simp only [hl w hc, Oper.quietUpon]
  exact ⟨trivial, trivial⟩
theorem run_of_build {P : Program} {op : Oper} {ev : Operand → Value} {ty : TypeId} {parts : Array (Nat × Operand)} {parts' : Array (Nat × Value)} {w : World} {cells : Array Value} (ho : op.op = .build ty parts) (hp : parts.map (fun (i, x) => (i, ev x)) = parts') (hb : P.built ty parts'.toList = some cells) :
    (execOp ev op).run P w = .ok (.value (.agg cells)) w := by
  unfold execOp
  simp only [ho, hp, run_build w ty _ cells hb, Sem.run_bind, Sem.run_pure, Result.andThen_ok]
theorem run_of_slice {P : Program} {op : Oper} {ev : Operand → Value} {ty : TypeId} {n : Nat} {parts : Array (Nat × Operand)} {parts' : Array (Nat × Value)} {w w' : World} {v : Value} (ho : op.op = .buildSlice ty n parts) (hp : parts.map (fun (i, x) => (i, ev x)) = parts') (hb : (Instr.buildSlice ty n parts').run P w = .ok v w') :
    (execOp ev op).run P w = .ok (.value v) w' := by
  unfold execOp
  simp only [ho, hp, hb, Sem.run_bind, Sem.run_pure, Result.andThen_ok]
set_option maxRecDepth 100000 in
theorem built_shown (v0 v1 v2 v3 v4 v5 v6 v7 v8 v9 v10 v11 v12 v13 v14 v15 v16 v17 v18 v19 v20 v21 v22 v23 v24 v25 v26 v27 v28 v29 v30 v31 v32 v33 v34 v35 v36 : Value) : Try.prog.built 108 [(0, .agg #[v0, v1, v2, v3, v4, v5, v6, v7, v8, v9, v10, v11, v12, v13, v14, v15, v16, v17, v18, v19, v20, v21, v22, v23, v24, v25, v26, v27, v28, v29, v30, v31, v32, v33, v34, v35, v36]), (1, .int .u64 1)] = some #[v0, v1, v2, v3, v4, v5, v6, v7, v8, v9, v10, v11, v12, v13, v14, v15, v16, v17, v18, v19, v20, v21, v22, v23, v24, v25, v26, v27, v28, v29, v30, v31, v32, v33, v34, v35, v36, .int .u64 1] := by kernel_rfl
set_option maxRecDepth 100000 in
theorem slice_shown (v0 v1 v2 v3 v4 v5 v6 v7 v8 v9 v10 v11 v12 v13 v14 v15 v16 v17 v18 v19 v20 v21 v22 v23 v24 v25 v26 v27 v28 v29 v30 v31 v32 v33 v34 v35 v36 v37 : Value) (W : World) : (Instr.buildSlice 100 1 #[(0, .agg #[v0, v1, v2, v3, v4, v5, v6, v7, v8, v9, v10, v11, v12, v13, v14, v15, v16, v17, v18, v19, v20, v21, v22, v23, v24, v25, v26, v27, v28, v29, v30, v31, v32, v33, v34, v35, v36, v37])]).run Try.prog W = .ok (.slice (some ⟨W.heap.size, 0, none⟩) 1 1) (W.alloc (.cells #[v0, v1, v2, v3, v4, v5, v6, v7, v8, v9, v10, v11, v12, v13, v14, v15, v16, v17, v18, v19, v20, v21, v22, v23, v24, v25, v26, v27, v28, v29, v30, v31, v32, v33, v34, v35, v36, v37] 108)) := by kernel_rfl
end Go.Proofs.Ytagpphelgghbpaa

/-
  board.Draw of the first player: the walk.
-/
set_option linter.unusedSimpArgs false
set_option linter.unusedVariables false
namespace Go.Proofs.Ytagpphelgghbpaa
open Go.RowKit

/-- One card is drawn. -/
def DrOK (b b' : Bd) : Prop := ∃ (l : List Int) (id : Int), b.s0.lib = l ++ [id] ∧ b' = (b.seti 0 l).seti 1 (b.s0.hand ++ [id]) ∧ b'.Valid ∧ BdW b' ∧ (0 ≤ id ∧ id ≤ 1000) ∧ b'.plc.length < 9223372036854775807 ∧ (∃ o ∈ b'.objs, o.id = id) ∧ (∀ o ∈ b'.objs, o.id = id → ({ o with dam := 0, pp := 0, pt := 0, cnt := 0, tap := false, doom := false, sick := decide ((1 : Int) = 2) } : Ob) = o)
def DrawEnd (b' : Bd) (w : World) (e : Ending) (w' : World) : Prop := ∃ m', e = .returned (.tuple #[.agg (b'.cells m').toArray, .int .i64 0]) ∧ BdO w' w.heap.size b' m' ∧ Below w.heap.size w w'
theorem BoolEnd.yes {P : Prop} (h : P) {w : World} {e : Ending} {w' : World} (hv : BoolEnd P w e w') : e = .returned (.bool true) ∧ Below w.heap.size w w' := by
  obtain ⟨v, rfl, hvv, hb⟩ := hv
  rw [hvv.2 h]
  exact ⟨rfl, hb⟩
set_option maxRecDepth 100000 in
set_option maxHeartbeats 6400000 in
theorem draw_any (bs : Nat → Bd) (n : Nat) (m : BdM) (w : World) (hn : n ≤ 100) (hR : BdR w (bs 0) m) (hv : (bs 0).Valid) (hz : (bs 0).plc.length < 9223372036854775807) (hsm : ∀ k, k ≤ n → BdSm (bs k)) (hok : ∀ k, k < n → DrOK (bs k) (bs (k + 1))) : Calls Try.prog 16 #[.agg ((bs 0).cells m).toArray, .int .i64 0, .int .i64 n] w (DrawEnd (bs n) w) := by
  have HR := Lib.hid hR
  have HSM := Lib.hid hsm
  have HOK := Lib.hid hok
  have HN := Lib.hid hn
  obtain ⟨cs, hcs⟩ : ∃ cs, ((bs 0).cells m).toArray = cs := ⟨_, rfl⟩
  have HCS := Lib.hid hcs
  have hsz : cs.toList.length = 38 := by rw [← hcs]; rfl
  obtain ⟨w2, hw2⟩ : ∃ w2, (w.alloc (.cells cs 33)).alloc (.cells zbd 33) = w2 := ⟨_, rfl⟩
  have HB2 : Hid (Below w.heap.size w w2) := Lib.hid (by rw [← hw2]; exact ((Below.refl _ _).alloc (Nat.le_refl _) _).alloc (by simp) _)
  have HBX2 : Hid (Blk w2 w.heap.size 33 cs) := Lib.hid (by rw [← hw2]; exact (Blk.mk_ w _ _ _ rfl).alloc _)
  have HRS2 : Hid (Blk w2 (w.heap.size + 1) 33 zbd) := Lib.hid (by rw [← hw2]; exact Blk.mk_ _ _ _ _ (by simp))
  have HLD : Hid (∀ W, Blk W w.heap.size 33 cs → (Instr.loadAt 33 (.pointer (some ⟨w.heap.size, 0, none⟩))).run Try.prog W = .ok (.agg cs) W) := Lib.hid (fun W hW => by
    have := hW.mid (o := 0) (ty := 33) cs.toList _ (fun j v hj => by rw [Nat.zero_add]; simpa using hj) Try.underlying33 rfl (by rw [hsz]; exact size_board)
    rwa [Array.toArray_toList] at this)
  have HV : Hid (Calls Try.prog 4 #[.agg cs] w2 fun e w' => e = .returned (.bool true) ∧ Below w2.heap.size w2 w') := Lib.hid (by rw [← hcs]; exact (valid_any (bs 0) m w2 (hR.below HB2.out) hz).mono fun e w' h => h.yes hv)
  have HC : Hid (∀ W, Below w.heap.size w W → Calls Try.prog 34 #[.agg cs] W (CopyEnd (bs 0) W)) := Lib.hid (fun W hW => by rw [← hcs]; exact copy_any (bs 0) m W (hR.below hW) (hsm 0 (Nat.zero_le _)))
  have HSZ := Lib.hid hsz
  have HC01 : Hid (∀ W, Calls Try.prog 7 #[.int .i64 0, .int .i64 0, .int .i64 1] W fun e w' => e = .returned (.bool true) ∧ W = w') := Lib.hid (fun W => by have h := within_any 0 0 1 W; rw [show inR 0 0 1 = true from rfl] at h; exact h)
  have hn0 : ¬ ((n : Int) < 0) := by omega
  rw [hcs]
  unfold zbd at hw2
  clear hR hsm hok hn hcs hv hz hsz
  go_enter Try.func16, Try.ntmps16
  go_wp2_with (first
    | (refine wpList_load_by (HLD.out w2 HBX2.out) rfl rfl rfl ?_; simp only [Act.put, List.setIfInBounds_toArray, List.set_cons_succ, List.set_cons_zero])
    | (go_at_call 4; refine HV.out.mono ?_; rintro e w3 ⟨rfl, hb3⟩; have HB3 := Lib.hid (below_call HB2.out hb3 HB2.out.size); have HBX3 := Lib.hid (HBX2.out.call hb3); have HRS3 := Lib.hid (HRS2.out.call hb3); clear hb3)
    | (go_at_call 7; refine (HC01.out _).mono ?_; rintro e w_ ⟨rfl, rfl⟩)
    | (refine wpList_load_by (HLD.out w3 HBX3.out) rfl rfl rfl ?_; simp only [Act.put, List.setIfInBounds_toArray, List.set_cons_succ, List.set_cons_zero])
    | (go_at_call 34; refine (HC.out w3 HB3.out).mono ?_; rintro e w4 ⟨m1, rfl, ho4, hb4⟩; obtain ⟨w5, hst, hp5, hg5⟩ := (HBX3.out.call hb4).storeAll (ty := 33) ((bs 0).cells m1) (by rw [← HCS.out]; rfl) (by rw [size_board]; rfl) (one_bd _ _); have HST := Lib.hid hst; have HF5 : Hid (DrS w (bs 0) m1 w5) := Lib.hid ⟨hp5, (ho4.more HB3.out.size).blk (HBX3.out.call hb4) hg5 off_board, (HRS3.out.call hb4).grown hg5 (fun e => by injection e with e; omega), (below_call HB3.out hb4 HB3.out.size).grown hg5 (Nat.le_trans HB3.out.size hb4.size) (fun q hq => by injection hq with hq; omega)⟩; clear ho4 hb4 hst hp5 hg5)
    | (refine wpList_store_by HST.out rfl rfl rfl rfl ?_; simp only [Act.put, List.setIfInBounds_toArray, List.set_cons_succ, List.set_cons_zero])
    | fail)
  clear hw2
  go_loopw [2] (fun i W => ∃ (j : Nat) (m : BdM), j ≤ n ∧ i = .int .i64 j ∧ Hid (DrS w (bs (n - j)) m W)) (fun i _ => (intOf i).toNat)
  case atStart => exact ⟨n, m1, Nat.le_refl _, rfl, Lib.hid (by rw [Nat.sub_self]; exact HF5.out)⟩
  case round =>
    obtain ⟨j, m2, hj, rfl, HF⟩ := hrel
    clear HF5 HBX2 HBX3 HRS2 HRS3 HB2 HB3 HV HC HST hn0
    by_cases hj0 : 0 < j
    · have hj0' : (0 : Int) < j := by omega
      obtain ⟨k, hk⟩ : ∃ k, n - j = k := ⟨_, rfl⟩
      have HK := Lib.hid hk
      have HJ := Lib.hid (And.intro hj hj0)
      rw [hk] at HF
      have hkn : k < n := by omega
      obtain ⟨l, id, hl, hb', hv', hw', hi', hz', hm', hr'⟩ := HOK.out k hkn
      obtain ⟨b', hbb⟩ : ∃ b', bs (k + 1) = b' := ⟨_, rfl⟩
      rw [hbb] at hb' hv' hw' hz' hm' hr'
      have hsm := HSM.out k (Nat.le_of_lt hkn)
      have HSM' : Hid (BdSm b') := Lib.hid (by rw [← hbb]; exact HSM.out (k + 1) hkn)
      obtain ⟨b, hb0⟩ : ∃ b, bs k = b := ⟨_, rfl⟩
      rw [hb0] at hl hb' hsm HF
      have HHN : Hid (b.s0.hand.length ≤ 500) := Lib.hid (hsm.li (q := 1) (by decide))
      have hlen : b.s0.lib.length = l.length + 1 := by rw [hl, List.length_append]; rfl
      have HLN : Hid (l.length ≤ 500) := Lib.hid (by have := hsm.li (q := 0) (by decide); rw [show b.li 0 = b.s0.lib from rfl, hlen] at this; omega)
      obtain ⟨⟨LA, Lc⟩, hL⟩ : ∃ s, m2.m0.L = s := ⟨_, rfl⟩
      obtain ⟨nl, hnl⟩ : ∃ n, l.length = n := ⟨_, rfl⟩
      have hX := HF.out.D.l 0 (by decide)
      rw [show m2.sl 0 = m2.m0.L from rfl, hL, show b.li 0 = b.s0.lib from rfl, hlen, hnl] at hX
      obtain ⟨gl, hA, -, hgl, hcl, -⟩ := hX.cell (j := nl) (u := .int .i64 id) (by rw [hl, show ics (l ++ [id]) = ics l ++ [.int .i64 id] by simp [ics], List.getElem?_append_right (by simp [ics, hnl])]; simp [ics, hnl])
      dsimp only at hA
      have c6 : wr.cell? ⟨w.heap.size, 6, none⟩ = some (.slice (some ⟨gl, 0, none⟩) (nl + 1) Lc) := (HF.out.P.at_ 6).trans (by show some (m2.m0.L.v b.s0.lib.length) = _; rw [hL, hlen, hnl, hA]; rfl)
      have HBB := Lib.hid (And.intro hbb hb0)
      have HALL := Lib.hid (And.intro hv' (And.intro hw' (And.intro hi' (And.intro hz' (And.intro hm' hr')))))
      have HBE := Lib.hid hb'
      have HLL := Lib.hid hl
      have HNL := Lib.hid hnl
      have hnl5 : nl ≤ 500 := by rw [← hnl]; exact HLN.out
      clear hj hk hkn hl hb' hv' hw' hi' hz' hm' hr' hbb hb0 hsm hlen hL hnl hX hA hj0
      go_wp2_with fail
      refine dr_lists w wr b m2 l id _ (by rw [HNL.out]) HF.out HLL.out HLN.out HHN.out _ _ _ _ _ _ _ _ _ _ _ _ _ _ _ _ _ _ _ _ _ _ _ _ _ _ _ _ _ _ _ _ _ _ _ _ _ _ _ _ _ _ _ _ _ _ _ _ _ _ _ _ _ _ _ _ _ _ _ _ _ _ _ _ _ _ _ _ _ _ _ _ _ _ _ _ _ _ _ _ _ _ _ _ _ _ _ _ ?_ ?_
      · exact fun d _ _ _ _ h => by cases d <;> exact h
      intro v53 v54 v55 v56 v57 v58 v59 v60 v61 v62 v63 v64 v65 v66 v67 v68 v69 v70 v71 v72 m3 W3 h3
      rw [← HBE.out] at h3
      have HF3 := Lib.hid h3
      obtain ⟨cs3, hcs3⟩ : ∃ cs, (b'.cells m3).toArray = cs := ⟨_, rfl⟩
      have HLD3 : Hid ((Instr.loadAt 33 (.pointer (some ⟨w.heap.size, 0, none⟩))).run Try.prog W3 = .ok (.agg cs3) W3) := Lib.hid (by
        have := h3.P.mid (o := 0) (ty := 33) (b'.cells m3) _ (fun j v hj => by rw [Nat.zero_add]; simpa using hj) Try.underlying33 rfl size_board
        rwa [hcs3] at this)
      have HIX : Hid (Calls Try.prog 35 #[.agg cs3, .int .i64 id] W3 fun e w' => (∃ (i : Nat) (o : Ob), b'.objs[i]? = some o ∧ o.id = id ∧ e = .returned (.tuple #[.int .i64 i, .int .i64 0])) ∧ Below W3.heap.size W3 w') := Lib.hid (by
        rw [← hcs3]
        obtain ⟨hv', hw', hi', hz', ⟨o9, ho9, he9⟩, -⟩ := HALL.out
        refine (index_any b' m3 id W3 (h3.D.isR hw') hz' hv' hi').mono ?_
        rintro e w' ⟨h | h, hb⟩
        · exact ⟨h, hb⟩
        · exact absurd he9 (h.1 o9 ho9))
      clear h3 hcs3 HF c6 hcl hgl
      go_wp2_with (first
        | (refine wpList_load_by HLD3.out rfl rfl rfl ?_; simp only [Act.put, List.setIfInBounds_toArray, List.set_cons_succ, List.set_cons_zero])
        | (go_at_call 35; refine HIX.out.mono ?_; rintro e w7 ⟨⟨i, o, hio, hoid, rfl⟩, hb7⟩; have HF7 := Lib.hid (HF3.out.below hb7); have HIO := Lib.hid (And.intro hio hoid); clear hio hoid hb7)
        | fail)
      refine dr_reset w w7 b' m3 i o HF7.out HIO.out.1 (HALL.out.2.2.2.2.2 o (List.mem_of_getElem? HIO.out.1) HIO.out.2) HSM'.out.O _ _ _ _ _ _ _ _ _ _ _ _ _ _ _ _ _ _ _ _ _ _ _ _ _ _ _ _ _ _ _ _ _ _ _ _ _ _ _ _ _ _ _ _ _ _ _ _ _ _ _ _ _ _ _ _ _ _ _ _ _ _ _ _ _ _ _ _ _ _ _ _ _ _ _ _ _ _ _ _ _ _ _ _ _ _ _ _ _ ?_ ?_
      · exact fun d _ _ _ _ h => by cases d <;> exact h
      intro v79 v80 v81 v82 v83 v84 v85 v86 v87 v88 W9 h9
      have HF9 := Lib.hid h9
      clear h9
      have hwj : wrap64 ((j : Int) - 1) = ((j - 1 : Nat) : Int) := by have := HJ.out; have := HN.out; rw [Int.ofNat_sub (by omega)]; unfold wrap64; omega
      go_wp2_with fail
      go_roundw
      case rel => exact ⟨j - 1, m3, by have := HJ.out; omega, by first | rfl | rw [hwj], Lib.hid (by rw [show n - (j - 1) = k + 1 by have := HJ.out; have := HK.out; omega, HBB.out.1]; exact HF9.out)⟩
      case measure => simp [intOf, hwj]; have := HJ.out; omega
    · have hj9 : j = 0 := by omega
      subst hj9
      have hF := HF.out
      rw [Nat.sub_zero] at hF
      obtain ⟨B9, hB9⟩ : ∃ B, bs n = B := ⟨_, rfl⟩
      rw [hB9] at hF
      have hb := hF.P
      have hone := one_bd B9 m2
      have hlen : (B9.cells m2).length = 38 := rfl
      obtain ⟨BC, hBC⟩ : ∃ l, B9.cells m2 = l := ⟨_, rfl⟩
      rw [hBC] at hb hone hlen
      have HLP : Hid ((Instr.loadAt 33 (.pointer (some ⟨w.heap.size, 0, none⟩))).run Try.prog wr = .ok (.agg BC.toArray) wr) := Lib.hid (hb.mid BC _ (fun j v hj => by rw [Nat.zero_add]; simpa using hj) Try.underlying33 rfl (by rw [size_board, hlen]))
      obtain ⟨W9, hst, hB9', hg9⟩ := hF.res.storeAll (ty := 33) BC (by rw [hlen]; rfl) (by rw [size_board, hlen]) hone
      have HST := Lib.hid hst
      have HB9' := Lib.hid hB9'
      have HEND : Hid (BdO W9 w.heap.size B9 m2 ∧ Below w.heap.size w W9) := Lib.hid ⟨hF.D.blk hF.res hg9 off_board, hF.bel.grown hg9 hF.bel.size (fun q hq => by injection hq with hq; omega)⟩
      have HBE := Lib.hid hBC
      have HB9 := Lib.hid hB9
      have HLEN := Lib.hid hlen
      clear hb hone hlen hBC hB9 hst hB9' hg9 HF hF hj
      go_wp2_with (first | (refine wpList_load_by HLP.out rfl rfl rfl ?_; simp only [Act.put, List.setIfInBounds_toArray, List.set_cons_succ, List.set_cons_zero]) | (refine wpList_store_by HST.out rfl rfl rfl rfl ?_; simp only [Act.put, List.setIfInBounds_toArray, List.set_cons_succ, List.set_cons_zero]) | fail)
      refine bodyPost_ret (v := .tuple #[.agg BC.toArray, .int .i64 0]) (ret_cell2 (fn := Try.f16) (p := 6) (q := 7) rfl rfl HB9'.out Try.underlying33 rfl (by rw [size_board]; simp [HLEN.out])) rfl ?_
      exact ⟨_, by rw [HB9.out, HBE.out], by rw [HB9.out]; exact HEND.out.1, HEND.out.2⟩
end Go.Proofs.Ytagpphelgghbpaa
