/-
  Two zero boards are equal.
-/
import Derived.Test.YtpbbemmjodegkaaGreatDoorNil
import Derived.Deep.QuietTactic
import Derived.BigQuiet
set_option linter.unusedSimpArgs false
set_option linter.unusedVariables false
namespace Go.Proofs.YtpbbemmjodegkaaGreatDoor
open Go.RowKit

set_option maxRecDepth 100000 in
theorem eqi_nil (v : Value) (w : World) : Calls Tryz.prog 34 #[.slice none 0 0, .slice none 0 0] w fun e w' => e = .returned (.bool true) ∧ w = w' := by
  go_enter Tryz.func34, Tryz.ntmps34
  go_wp2
  go_rounds 1
  go_wp2
  (first | go_ret | go_ret2)
  exact ⟨rfl, rfl⟩
set_option maxRecDepth 100000 in
theorem eqo_nil (v : Value) (w : World) : Calls Tryz.prog 35 #[.slice none 0 0, .slice none 0 0] w fun e w' => e = .returned (.bool true) ∧ w = w' := by
  go_enter Tryz.func35, Tryz.ntmps35
  go_wp2
  go_rounds 1
  go_wp2
  (first | go_ret | go_ret2)
  exact ⟨rfl, rfl⟩
set_option maxRecDepth 100000 in
theorem eqt_nil (v : Value) (w : World) : Calls Tryz.prog 36 #[.slice none 0 0, .slice none 0 0, v] w fun e w' => e = .returned (.bool true) ∧ w = w' := by
  go_enter Tryz.func36, Tryz.ntmps36
  go_wp2
  go_rounds 1
  go_wp2
  (first | go_ret | go_ret2)
  exact ⟨rfl, rfl⟩
set_option maxRecDepth 100000 in
theorem eqb_nil (v : Value) (w : World) : Calls Tryz.prog 38 #[.slice none 0 0, .slice none 0 0] w fun e w' => e = .returned (.bool true) ∧ w = w' := by
  go_enter Tryz.func38, Tryz.ntmps38
  go_wp2
  go_rounds 1
  go_wp2
  (first | go_ret | go_ret2)
  exact ⟨rfl, rfl⟩
set_option maxRecDepth 100000 in
theorem size_four : (Tryz.prog.info? 96).map (·.size) = some 4 := by decide +kernel
theorem wp_store_by {P : Program} {op : Oper} {a : Act} {w w' : World} {K : Act → World → Prop} {Q : Exit → Act → World → Prop} {ty : TypeId} {x y : Operand} {p v : Value} (hl : (Instr.storeAt ty p v).run P w = .ok () w')
    (ho : op.op = .store ty x y) (hx : a.eval x = p) (hy : a.eval y = v) (h : K (a.put op.dst undef) w') : op.wp P a w K Q := by
  unfold Oper.wp execOp
  simp only [ho, hx, hy, hl, Sem.run_bind, Sem.run_pure, Result.andThen_ok]
  exact h
set_option maxRecDepth 100000 in
/-- The four lists of a seat: their addresses. -/
theorem lists_at (g o : Nat) (w : World) (v : Value) (hv : w.cell? ⟨g, o, none⟩ = some v) : Calls Tryz.prog 33 #[.pointer (some ⟨g, o, none⟩)] w fun e w' => e = .returned (.agg #[.pointer (some ⟨g, o + 5, none⟩), .pointer (some ⟨g, o + 6, none⟩), .pointer (some ⟨g, o + 7, none⟩), .pointer (some ⟨g, o + 8, none⟩)]) ∧ Below w.heap.size w w' := by
  obtain ⟨g1, hg1⟩ : ∃ z, w.heap.size = z := ⟨_, rfl⟩
  obtain ⟨w1, hw1⟩ : ∃ z, w.alloc (.cells #[.pointer none, .pointer none, .pointer none, .pointer none] 96) = z := ⟨_, rfl⟩
  have hb1 : Below w.heap.size w w1 := by rw [← hw1]; exact (Below.refl _ _).alloc (Nat.le_refl _) _
  have hk1 : Blk w1 g1 96 #[.pointer none, .pointer none, .pointer none, .pointer none] := by rw [← hw1]; exact Blk.mk_ _ _ _ _ hg1
  have hv1 : w1.cell? ⟨g, o, none⟩ = some v := (hb1.cell (World.block_lt_of_cell? _ _ hv)).trans hv
  have hd1 : Blk w1.drew g1 96 #[.pointer none, .pointer none, .pointer none, .pointer none] := hk1.drew
  obtain ⟨w2, hst, hk2, hg2⟩ := hd1.storeAll (ty := 96) [.pointer (some ⟨g, o + 5, none⟩), .pointer (some ⟨g, o + 6, none⟩), .pointer (some ⟨g, o + 7, none⟩), .pointer (some ⟨g, o + 8, none⟩)] rfl (by rw [size_four]; rfl) (by intro x hx; simp at hx; rcases hx with rfl | rfl | rfl | rfl <;> rfl)
  have hb2 : Below w.heap.size w w2 := hb1.drew.grown hg2 hb1.size (fun q hq => by injection hq with hq; omega)
  have HV2 : Hid (w2.cell? ⟨g, o, none⟩ = some v) := Lib.hid ((hb2.cell (World.block_lt_of_cell? _ _ hv)).trans hv)
  have HST := Lib.hid hst
  have HK2 := Lib.hid hk2
  have HB2 := Lib.hid hb2
  clear hst hk2 hb2 hg2 hd1
  have HB1 := Lib.hid hb1
  have HK1 := Lib.hid hk1
  have HV1 := Lib.hid hv1
  clear hb1 hk1 hv1
  have hne : Nonempty (In (fun W => W.cell? ⟨g, o, none⟩ = some v)) := ⟨⟨_, HV1.out⟩⟩
  have hc : ∀ s : In (fun W => W.cell? ⟨g, o, none⟩ = some v), s.W.cell? ⟨g, o, none⟩ = some v := fun s => s.h
  go_enter Tryz.func33, Tryz.ntmps33
  go_wp2_with fail
  refine wp_region_sched (fun w' => ∃ s : In (fun W => W.cell? ⟨g, o, none⟩ = some v), w' = s.W) [0,1,2,3,4,5,6,7,8,9,10,11,12] (.one 13 [] .done) (by kernel_rfl) (by kernel_rfl) (fun d _ _ _ _ h => by cases d <;> exact h) ⟨⟨w1.drew, HV1.out⟩, rfl⟩ ?_
  simp only [opsAt, List.getElem?_toArray, List.getElem?_cons_succ, List.getElem?_cons_zero]
  repeat (go_big_quiet_step (fail))
  refine wpQuiet_nil ?_
  (refine eff_lit rfl rfl (fun K hK => ?_))
  refine wp_store_by HST.out rfl rfl rfl ?_
  simp only [Act.put, List.setIfInBounds_toArray, List.set_cons_succ, List.set_cons_zero]
  refine hK _ _ ⟨⟨_, HV2.out⟩, rfl⟩ ?_
  clear hK K
  simp only [opsAt, List.getElem?_toArray, List.getElem?_cons_succ, List.getElem?_cons_zero]
  refine wpQuiet_nil ?_
  refine effs_done ?_
  go_wp2_with fail
  refine bodyPost_ret (v := .agg #[.pointer (some ⟨g, o + 5, none⟩), .pointer (some ⟨g, o + 6, none⟩), .pointer (some ⟨g, o + 7, none⟩), .pointer (some ⟨g, o + 8, none⟩)]) ((ret_cell (fn := Tryz.f33) (p := 2) rfl rfl HK2.out Tryz.underlying96 rfl (by rw [size_four]; rfl)).trans rfl) rfl ?_
  exact ⟨rfl, HB2.out⟩
theorem wp_region_lit {P : Program} {id : Nat} {b : Bool} {Q : Exit → Act → World → Prop} {a : Act} {w : World} {l1 l2 L : List Oper} (hl : l1.append l2 = L) (h : (Code.region id L.toArray b).wp P Q a w) : (Code.region id (l1.append l2).toArray b).wp P Q a w := by rw [hl]; exact h
theorem wp_region_pure_later {P : Program} {id : Nat} {Q : Exit → Act → World → Prop} {a : Act} {l : List Oper} {B : Nat} {w0 : World} (s : Later B w0) (hs0 : List Nat) (hm : P.follows .mixedOrders = true)
    (hB : (Region.noSelect l.toArray && decide (hs0.length + schedLen .done ≤ l.toArray.size) && match heldB .any l.toArray [] true hs0 (Array.replicate l.toArray.size false) with | some l' => schedB .any l.toArray [] .done true l' | none => false) = true)
    (hQ : ∀ d v c a w, Q (.panic c) (Act.put a d v) w → Q (.panic c) a w)
    (h : ∀ s' : Later B w0, wpQuiet P l.toArray (fun w' => ∃ s : Later B w0, w' = s.W) (fun a' => Q .normal a' s'.W) (opsAt l.toArray hs0) a) : (Code.region id l.toArray true).wp P Q a s.W :=
  wp_region_sched _ hs0 .done hm hB hQ ⟨⟨_, s.h.drew⟩, rfl⟩ (h ⟨_, s.h.drew⟩)
theorem zbd_two (w W1 w0 W : World) (g0 g1 B : Nat) (h0 : Blk w0 g0 59 zbd) (h1 : Blk w0 g1 59 zbd) (hB : w0.heap.size = B) (hb : Below B w0 W) (i : Nat) (v : Value) (hv : zbd[i]? = some v) : W.cell? ⟨g0, i, none⟩ = some v ∧ W.cell? ⟨g1, i, none⟩ = some v :=
  ⟨by rw [(h0.below hb (by rw [← hB]; exact h0.lt)).at_ i]; exact hv, by rw [(h1.below hb (by rw [← hB]; exact h1.lt)).at_ i]; exact hv⟩
theorem idx_four (a b c d : Value) (w : World) : (Instr.index 96 (.agg #[a, b, c, d]) (.int .i64 0)).run Tryz.prog w = .ok a w ∧ (Instr.index 96 (.agg #[a, b, c, d]) (.int .i64 1)).run Tryz.prog w = .ok b w ∧ (Instr.index 96 (.agg #[a, b, c, d]) (.int .i64 2)).run Tryz.prog w = .ok c w ∧ (Instr.index 96 (.agg #[a, b, c, d]) (.int .i64 3)).run Tryz.prog w = .ok d w := by
  refine ⟨?_, ?_, ?_, ?_⟩ <;> simp [Instr.index, run_underlying Tryz.underlying96, asIntOf, go_sem]
set_option maxRecDepth 100000 in
theorem run_neq_four (w : World) : (binOp .neq 51 (.agg #[.int .i64 0, .int .i64 0, .int .i64 0, .int .i64 0]) (.agg #[.int .i64 0, .int .i64 0, .int .i64 0, .int .i64 0])).run Tryz.prog w = .ok (.bool false) w := by kernel_rfl
set_option maxRecDepth 100000 in
set_option maxHeartbeats 6400000 in
theorem beq_any (w : World) : Calls Tryz.prog 10 #[.agg zbd, .agg zbd] w fun e w' => e = .returned (.bool true) ∧ Below w.heap.size w w' := by
  obtain ⟨W1, hW1⟩ : ∃ z, w.alloc (.cells zbd 59) = z := ⟨_, rfl⟩
  obtain ⟨g0, hg0⟩ : ∃ z, w.heap.size = z := ⟨_, rfl⟩
  obtain ⟨g1, hg1⟩ : ∃ z, W1.heap.size = z := ⟨_, rfl⟩
  obtain ⟨w0, hw0⟩ : ∃ z, W1.alloc (.cells zbd 59) = z := ⟨_, rfl⟩
  have hb1 : Below w.heap.size w W1 := by rw [← hW1]; exact (Below.refl _ _).alloc (Nat.le_refl _) _
  have hb2 : Below W1.heap.size W1 w0 := by rw [← hw0]; exact (Below.refl _ _).alloc (Nat.le_refl _) _
  have hk0 : Blk W1 g0 59 zbd := by rw [← hW1]; exact Blk.mk_ _ _ _ _ hg0
  have hk1 : Blk w0 g1 59 zbd := by rw [← hw0]; exact Blk.mk_ _ _ _ _ hg1
  have HZ : Hid (∀ W : World, Below w0.heap.size w0 W → ∀ (i : Nat) (v : Value), zbd[i]? = some v → W.cell? ⟨g0, i, none⟩ = some v ∧ W.cell? ⟨g1, i, none⟩ = some v) := Lib.hid fun W hb i v hv => zbd_two w W1 w0 W g0 g1 w0.heap.size (hk0.below hb2 hk0.lt) hk1 rfl hb i v hv
  have HW : Hid (Below w.heap.size w w0) := Lib.hid (below_call hb1 hb2 hb1.size)
  have HS0 : Hid (w0.heap.size ≤ w0.heap.size) := Lib.hid (Nat.le_refl _)
  have HB0 : Hid (Below w0.heap.size w0 w0) := Lib.hid (Below.refl _ _)
  obtain ⟨s0, hs0⟩ : ∃ s : Later w0.heap.size w0, w0 = s.W := ⟨⟨w0, Below.refl _ _⟩, rfl⟩
  have hw0' : W1.alloc (.cells zbd 59) = s0.W := hw0.trans hs0
  clear hb1 hb2 hk0 hk1 hs0 hw0
  have c0_1 : ∀ s : Later w0.heap.size w0, s.W.cell? ⟨g0, 1, none⟩ = some (.int .i64 0) := fun s => (HZ.out s.W s.h 1 _ rfl).1
  have c0_2 : ∀ s : Later w0.heap.size w0, s.W.cell? ⟨g0, 2, none⟩ = some (.int .i64 0) := fun s => (HZ.out s.W s.h 2 _ rfl).1
  have c0_3 : ∀ s : Later w0.heap.size w0, s.W.cell? ⟨g0, 3, none⟩ = some (.int .i64 0) := fun s => (HZ.out s.W s.h 3 _ rfl).1
  have c0_4 : ∀ s : Later w0.heap.size w0, s.W.cell? ⟨g0, 4, none⟩ = some (.int .i64 0) := fun s => (HZ.out s.W s.h 4 _ rfl).1
  have c0_5 : ∀ s : Later w0.heap.size w0, s.W.cell? ⟨g0, 5, none⟩ = some (.int .i64 0) := fun s => (HZ.out s.W s.h 5 _ rfl).1
  have c0_6 : ∀ s : Later w0.heap.size w0, s.W.cell? ⟨g0, 6, none⟩ = some (.slice none 0 0) := fun s => (HZ.out s.W s.h 6 _ rfl).1
  have c0_7 : ∀ s : Later w0.heap.size w0, s.W.cell? ⟨g0, 7, none⟩ = some (.slice none 0 0) := fun s => (HZ.out s.W s.h 7 _ rfl).1
  have c0_8 : ∀ s : Later w0.heap.size w0, s.W.cell? ⟨g0, 8, none⟩ = some (.slice none 0 0) := fun s => (HZ.out s.W s.h 8 _ rfl).1
  have c0_9 : ∀ s : Later w0.heap.size w0, s.W.cell? ⟨g0, 9, none⟩ = some (.slice none 0 0) := fun s => (HZ.out s.W s.h 9 _ rfl).1
  have c0_10 : ∀ s : Later w0.heap.size w0, s.W.cell? ⟨g0, 10, none⟩ = some (.bool false) := fun s => (HZ.out s.W s.h 10 _ rfl).1
  have c0_11 : ∀ s : Later w0.heap.size w0, s.W.cell? ⟨g0, 11, none⟩ = some (.bool false) := fun s => (HZ.out s.W s.h 11 _ rfl).1
  have c0_12 : ∀ s : Later w0.heap.size w0, s.W.cell? ⟨g0, 12, none⟩ = some (.bool false) := fun s => (HZ.out s.W s.h 12 _ rfl).1
  have c0_13 : ∀ s : Later w0.heap.size w0, s.W.cell? ⟨g0, 13, none⟩ = some (.int .i64 0) := fun s => (HZ.out s.W s.h 13 _ rfl).1
  have c0_14 : ∀ s : Later w0.heap.size w0, s.W.cell? ⟨g0, 14, none⟩ = some (.int .i64 0) := fun s => (HZ.out s.W s.h 14 _ rfl).1
  have c1_1 : ∀ s : Later w0.heap.size w0, s.W.cell? ⟨g1, 1, none⟩ = some (.int .i64 0) := fun s => (HZ.out s.W s.h 1 _ rfl).2
  have c1_2 : ∀ s : Later w0.heap.size w0, s.W.cell? ⟨g1, 2, none⟩ = some (.int .i64 0) := fun s => (HZ.out s.W s.h 2 _ rfl).2
  have c1_3 : ∀ s : Later w0.heap.size w0, s.W.cell? ⟨g1, 3, none⟩ = some (.int .i64 0) := fun s => (HZ.out s.W s.h 3 _ rfl).2
  have c1_4 : ∀ s : Later w0.heap.size w0, s.W.cell? ⟨g1, 4, none⟩ = some (.int .i64 0) := fun s => (HZ.out s.W s.h 4 _ rfl).2
  have c1_5 : ∀ s : Later w0.heap.size w0, s.W.cell? ⟨g1, 5, none⟩ = some (.int .i64 0) := fun s => (HZ.out s.W s.h 5 _ rfl).2
  have c1_6 : ∀ s : Later w0.heap.size w0, s.W.cell? ⟨g1, 6, none⟩ = some (.slice none 0 0) := fun s => (HZ.out s.W s.h 6 _ rfl).2
  have c1_7 : ∀ s : Later w0.heap.size w0, s.W.cell? ⟨g1, 7, none⟩ = some (.slice none 0 0) := fun s => (HZ.out s.W s.h 7 _ rfl).2
  have c1_8 : ∀ s : Later w0.heap.size w0, s.W.cell? ⟨g1, 8, none⟩ = some (.slice none 0 0) := fun s => (HZ.out s.W s.h 8 _ rfl).2
  have c1_9 : ∀ s : Later w0.heap.size w0, s.W.cell? ⟨g1, 9, none⟩ = some (.slice none 0 0) := fun s => (HZ.out s.W s.h 9 _ rfl).2
  have c1_10 : ∀ s : Later w0.heap.size w0, s.W.cell? ⟨g1, 10, none⟩ = some (.bool false) := fun s => (HZ.out s.W s.h 10 _ rfl).2
  have c1_11 : ∀ s : Later w0.heap.size w0, s.W.cell? ⟨g1, 11, none⟩ = some (.bool false) := fun s => (HZ.out s.W s.h 11 _ rfl).2
  have c1_12 : ∀ s : Later w0.heap.size w0, s.W.cell? ⟨g1, 12, none⟩ = some (.bool false) := fun s => (HZ.out s.W s.h 12 _ rfl).2
  have c1_13 : ∀ s : Later w0.heap.size w0, s.W.cell? ⟨g1, 13, none⟩ = some (.int .i64 0) := fun s => (HZ.out s.W s.h 13 _ rfl).2
  have c1_14 : ∀ s : Later w0.heap.size w0, s.W.cell? ⟨g1, 14, none⟩ = some (.int .i64 0) := fun s => (HZ.out s.W s.h 14 _ rfl).2
  have EQI : Hid (∀ w : World, Calls Tryz.prog 34 #[.slice none 0 0, .slice none 0 0] w fun e w' => e = .returned (.bool true) ∧ w = w') := Lib.hid (eqi_nil undef)
  have EQO : Hid (∀ w : World, Calls Tryz.prog 35 #[.slice none 0 0, .slice none 0 0] w fun e w' => e = .returned (.bool true) ∧ w = w') := Lib.hid (eqo_nil undef)
  have EQT : Hid (∀ (v : Value) (w : World), Calls Tryz.prog 36 #[.slice none 0 0, .slice none 0 0, v] w fun e w' => e = .returned (.bool true) ∧ w = w') := Lib.hid eqt_nil
  have EQB : Hid (∀ w : World, Calls Tryz.prog 38 #[.slice none 0 0, .slice none 0 0] w fun e w' => e = .returned (.bool true) ∧ w = w') := Lib.hid (eqb_nil undef)
  have qM := run_neq_four
  go_enter Tryz.func10, Tryz.ntmps10
  go_wp2_with fail
  refine wp_loop_rounds 3 ?_
  rw [rounds_succ]
  go_wp2_with (first
    | (with_reducible (refine wp_region_lit (L := ?L0) ?hl0 ?h0); (case hl0 => (simp only [List.append_eq, List.cons_append, List.nil_append]; exact rfl)))
    | (refine wp_region_pure_later (id := 4) _ [0,1,2,3,4,5,6,7] (by kernel_rfl) (by kernel_rfl) (fun d _ _ _ _ h => by cases d <;> exact h) (fun s4 => ?_); simp only [opsAt, List.getElem?_toArray, List.getElem?_cons_succ, List.getElem?_cons_zero]; (repeat (go_big_quiet_step (fail))); refine wpQuiet_nil ?_)
    | (refine wp_region_later (id := 5) (Later.h _) (by kernel_rfl) (by kernel_rfl) ?_; (repeat (go_big_quiet_step (fail))); refine wpQuiet_nil ?_; rintro w' ⟨s5, rfl⟩)
    | (go_at_call 33; (with_reducible refine (lists_at g1 1 _ _ (c1_1 _)).mono ?_); rintro e v4_0 ⟨rfl, hb4⟩
       have hb4' := below_call (Later.h _) hb4 (Nat.le_trans HS0.out (Later.h _).size)
       obtain ⟨v5_0, hv5_0⟩ : ∃ z, v4_0.alloc (.cells #[.pointer none, .pointer none, .pointer none, .pointer none] 96) = z := ⟨_, rfl⟩
       have hk5 : Blk v5_0 v4_0.heap.size 96 #[.pointer none, .pointer none, .pointer none, .pointer none] := by rw [← hv5_0]; exact Blk.mk_ _ _ _ _ rfl
       have hb5 : Below v4_0.heap.size v4_0 v5_0 := by rw [← hv5_0]; exact (Below.refl _ _).alloc (Nat.le_refl _) _
       obtain ⟨v6_0, hst, hk6, hg6⟩ := hk5.storeAll (ty := 96) [.pointer (some ⟨g1, 6, none⟩), .pointer (some ⟨g1, 7, none⟩), .pointer (some ⟨g1, 8, none⟩), .pointer (some ⟨g1, 9, none⟩)] rfl (by rw [size_four]; rfl) (by intro x hx; simp at hx; rcases hx with rfl | rfl | rfl | rfl <;> rfl)
       have hb6 : Below v4_0.heap.size v4_0 v6_0 := hb5.grown hg6 hb5.size (fun q hq => by injection hq with hq; subst hq; exact Nat.le_refl _)
       have HB6_0 := Lib.hid (below_call HB0.out (below_call hb4' hb6 (Nat.le_trans HS0.out hb4'.size)) HB0.out.size)
       have HST_0 := Lib.hid hst
       have HK6_0 := Lib.hid hk6
       clear hb4 hb4' hk5 hb5 hst hk6 hg6 hb6)
    | (refine wpList_store_by HST_0.out rfl rfl rfl rfl ?_; simp only [Act.put, List.setIfInBounds_toArray, List.set_cons_succ, List.set_cons_zero])
    | (go_at_call 33; (with_reducible refine (lists_at g0 1 _ _ ((HZ.out _ HB6_0.out 1 _ rfl).1)).mono ?_); rintro e v7 ⟨rfl, hb7⟩
       obtain ⟨s7, rfl⟩ : ∃ s : Later v6_0.heap.size v6_0, v7 = s.W := ⟨⟨_, hb7⟩, rfl⟩
       clear hb7)
    | fail)
  clear c0_1 c0_2 c0_3 c0_4 c0_5 c0_6 c0_7 c0_8 c0_9 c0_10 c0_11 c0_12 c0_13 c0_14 c1_1 c1_2 c1_3 c1_4 c1_5 c1_6 c1_7 c1_8 c1_9 c1_10 c1_11 c1_12 c1_13 c1_14
  have HS1 : Hid (v6_0.heap.size ≤ v6_0.heap.size) := Lib.hid (Nat.le_refl _)
  have HB1 : Hid (Below w0.heap.size w0 v6_0) := HB6_0
  have hk8 := HK6_0.out
  have p0_0 : ∀ s : Later v6_0.heap.size v6_0, s.W.cell? ⟨v4_0.heap.size, 0, none⟩ = some (.pointer (some ⟨g1, 6, none⟩)) := fun s => ((hk8.below s.h hk8.lt).at_ 0).trans rfl
  have p0_1 : ∀ s : Later v6_0.heap.size v6_0, s.W.cell? ⟨v4_0.heap.size, 1, none⟩ = some (.pointer (some ⟨g1, 7, none⟩)) := fun s => ((hk8.below s.h hk8.lt).at_ 1).trans rfl
  have p0_2 : ∀ s : Later v6_0.heap.size v6_0, s.W.cell? ⟨v4_0.heap.size, 2, none⟩ = some (.pointer (some ⟨g1, 8, none⟩)) := fun s => ((hk8.below s.h hk8.lt).at_ 2).trans rfl
  have p0_3 : ∀ s : Later v6_0.heap.size v6_0, s.W.cell? ⟨v4_0.heap.size, 3, none⟩ = some (.pointer (some ⟨g1, 9, none⟩)) := fun s => ((hk8.below s.h hk8.lt).at_ 3).trans rfl
  clear hk8
  have x00_6 : ∀ s : Later v6_0.heap.size v6_0, s.W.cell? ⟨g0, 6, none⟩ = some (.slice none 0 0) := fun s => (HZ.out s.W (below_call HB1.out s.h HB1.out.size) 6 _ rfl).1
  have x00_7 : ∀ s : Later v6_0.heap.size v6_0, s.W.cell? ⟨g0, 7, none⟩ = some (.slice none 0 0) := fun s => (HZ.out s.W (below_call HB1.out s.h HB1.out.size) 7 _ rfl).1
  have x00_8 : ∀ s : Later v6_0.heap.size v6_0, s.W.cell? ⟨g0, 8, none⟩ = some (.slice none 0 0) := fun s => (HZ.out s.W (below_call HB1.out s.h HB1.out.size) 8 _ rfl).1
  have x00_9 : ∀ s : Later v6_0.heap.size v6_0, s.W.cell? ⟨g0, 9, none⟩ = some (.slice none 0 0) := fun s => (HZ.out s.W (below_call HB1.out s.h HB1.out.size) 9 _ rfl).1
  have x01_6 : ∀ s : Later v6_0.heap.size v6_0, s.W.cell? ⟨g1, 6, none⟩ = some (.slice none 0 0) := fun s => (HZ.out s.W (below_call HB1.out s.h HB1.out.size) 6 _ rfl).2
  have x01_7 : ∀ s : Later v6_0.heap.size v6_0, s.W.cell? ⟨g1, 7, none⟩ = some (.slice none 0 0) := fun s => (HZ.out s.W (below_call HB1.out s.h HB1.out.size) 7 _ rfl).2
  have x01_8 : ∀ s : Later v6_0.heap.size v6_0, s.W.cell? ⟨g1, 8, none⟩ = some (.slice none 0 0) := fun s => (HZ.out s.W (below_call HB1.out s.h HB1.out.size) 8 _ rfl).2
  have x01_9 : ∀ s : Later v6_0.heap.size v6_0, s.W.cell? ⟨g1, 9, none⟩ = some (.slice none 0 0) := fun s => (HZ.out s.W (below_call HB1.out s.h HB1.out.size) 9 _ rfl).2
  have ix0 := fun w => (idx_four (.pointer (some ⟨g0, 6, none⟩)) (.pointer (some ⟨g0, 7, none⟩)) (.pointer (some ⟨g0, 8, none⟩)) (.pointer (some ⟨g0, 9, none⟩)) w).1
  have ix1 := fun w => (idx_four (.pointer (some ⟨g0, 6, none⟩)) (.pointer (some ⟨g0, 7, none⟩)) (.pointer (some ⟨g0, 8, none⟩)) (.pointer (some ⟨g0, 9, none⟩)) w).2.1
  have ix2 := fun w => (idx_four (.pointer (some ⟨g0, 6, none⟩)) (.pointer (some ⟨g0, 7, none⟩)) (.pointer (some ⟨g0, 8, none⟩)) (.pointer (some ⟨g0, 9, none⟩)) w).2.2.1
  have ix3 := fun w => (idx_four (.pointer (some ⟨g0, 6, none⟩)) (.pointer (some ⟨g0, 7, none⟩)) (.pointer (some ⟨g0, 8, none⟩)) (.pointer (some ⟨g0, 9, none⟩)) w).2.2.2
  refine wp_loop_rounds 5 ?_
  iterate 5 (rw [rounds_succ]; go_wp2_with (first
    | (refine wp_region_later (id := 11) (Later.h _) (by kernel_rfl) (by kernel_rfl) ?_; (repeat (go_big_quiet_step ((go_at_call 34; with_reducible exact Calls.later_same (EQI.out _))))); refine wpQuiet_nil ?_; rintro w' ⟨s11, rfl⟩)
    | fail))
  clear ix0 ix1 ix2 ix3
  clear x00_6 x00_7 x00_8 x00_9 x01_6 x01_7 x01_8 x01_9 p0_0 p0_1 p0_2 p0_3
  have d0_15 : ∀ s : Later v6_0.heap.size v6_0, s.W.cell? ⟨g0, 15, none⟩ = some (.int .i64 0) := fun s => (HZ.out s.W (below_call HB1.out s.h HB1.out.size) 15 _ rfl).1
  have d0_16 : ∀ s : Later v6_0.heap.size v6_0, s.W.cell? ⟨g0, 16, none⟩ = some (.int .i64 0) := fun s => (HZ.out s.W (below_call HB1.out s.h HB1.out.size) 16 _ rfl).1
  have d0_17 : ∀ s : Later v6_0.heap.size v6_0, s.W.cell? ⟨g0, 17, none⟩ = some (.int .i64 0) := fun s => (HZ.out s.W (below_call HB1.out s.h HB1.out.size) 17 _ rfl).1
  have d0_18 : ∀ s : Later v6_0.heap.size v6_0, s.W.cell? ⟨g0, 18, none⟩ = some (.int .i64 0) := fun s => (HZ.out s.W (below_call HB1.out s.h HB1.out.size) 18 _ rfl).1
  have d0_19 : ∀ s : Later v6_0.heap.size v6_0, s.W.cell? ⟨g0, 19, none⟩ = some (.int .i64 0) := fun s => (HZ.out s.W (below_call HB1.out s.h HB1.out.size) 19 _ rfl).1
  have d0_20 : ∀ s : Later v6_0.heap.size v6_0, s.W.cell? ⟨g0, 20, none⟩ = some (.slice none 0 0) := fun s => (HZ.out s.W (below_call HB1.out s.h HB1.out.size) 20 _ rfl).1
  have d0_21 : ∀ s : Later v6_0.heap.size v6_0, s.W.cell? ⟨g0, 21, none⟩ = some (.slice none 0 0) := fun s => (HZ.out s.W (below_call HB1.out s.h HB1.out.size) 21 _ rfl).1
  have d0_22 : ∀ s : Later v6_0.heap.size v6_0, s.W.cell? ⟨g0, 22, none⟩ = some (.slice none 0 0) := fun s => (HZ.out s.W (below_call HB1.out s.h HB1.out.size) 22 _ rfl).1
  have d0_23 : ∀ s : Later v6_0.heap.size v6_0, s.W.cell? ⟨g0, 23, none⟩ = some (.slice none 0 0) := fun s => (HZ.out s.W (below_call HB1.out s.h HB1.out.size) 23 _ rfl).1
  have d0_24 : ∀ s : Later v6_0.heap.size v6_0, s.W.cell? ⟨g0, 24, none⟩ = some (.bool false) := fun s => (HZ.out s.W (below_call HB1.out s.h HB1.out.size) 24 _ rfl).1
  have d0_25 : ∀ s : Later v6_0.heap.size v6_0, s.W.cell? ⟨g0, 25, none⟩ = some (.bool false) := fun s => (HZ.out s.W (below_call HB1.out s.h HB1.out.size) 25 _ rfl).1
  have d0_26 : ∀ s : Later v6_0.heap.size v6_0, s.W.cell? ⟨g0, 26, none⟩ = some (.bool false) := fun s => (HZ.out s.W (below_call HB1.out s.h HB1.out.size) 26 _ rfl).1
  have d0_27 : ∀ s : Later v6_0.heap.size v6_0, s.W.cell? ⟨g0, 27, none⟩ = some (.int .i64 0) := fun s => (HZ.out s.W (below_call HB1.out s.h HB1.out.size) 27 _ rfl).1
  have d0_28 : ∀ s : Later v6_0.heap.size v6_0, s.W.cell? ⟨g0, 28, none⟩ = some (.int .i64 0) := fun s => (HZ.out s.W (below_call HB1.out s.h HB1.out.size) 28 _ rfl).1
  have d1_15 : ∀ s : Later v6_0.heap.size v6_0, s.W.cell? ⟨g1, 15, none⟩ = some (.int .i64 0) := fun s => (HZ.out s.W (below_call HB1.out s.h HB1.out.size) 15 _ rfl).2
  have d1_16 : ∀ s : Later v6_0.heap.size v6_0, s.W.cell? ⟨g1, 16, none⟩ = some (.int .i64 0) := fun s => (HZ.out s.W (below_call HB1.out s.h HB1.out.size) 16 _ rfl).2
  have d1_17 : ∀ s : Later v6_0.heap.size v6_0, s.W.cell? ⟨g1, 17, none⟩ = some (.int .i64 0) := fun s => (HZ.out s.W (below_call HB1.out s.h HB1.out.size) 17 _ rfl).2
  have d1_18 : ∀ s : Later v6_0.heap.size v6_0, s.W.cell? ⟨g1, 18, none⟩ = some (.int .i64 0) := fun s => (HZ.out s.W (below_call HB1.out s.h HB1.out.size) 18 _ rfl).2
  have d1_19 : ∀ s : Later v6_0.heap.size v6_0, s.W.cell? ⟨g1, 19, none⟩ = some (.int .i64 0) := fun s => (HZ.out s.W (below_call HB1.out s.h HB1.out.size) 19 _ rfl).2
  have d1_20 : ∀ s : Later v6_0.heap.size v6_0, s.W.cell? ⟨g1, 20, none⟩ = some (.slice none 0 0) := fun s => (HZ.out s.W (below_call HB1.out s.h HB1.out.size) 20 _ rfl).2
  have d1_21 : ∀ s : Later v6_0.heap.size v6_0, s.W.cell? ⟨g1, 21, none⟩ = some (.slice none 0 0) := fun s => (HZ.out s.W (below_call HB1.out s.h HB1.out.size) 21 _ rfl).2
  have d1_22 : ∀ s : Later v6_0.heap.size v6_0, s.W.cell? ⟨g1, 22, none⟩ = some (.slice none 0 0) := fun s => (HZ.out s.W (below_call HB1.out s.h HB1.out.size) 22 _ rfl).2
  have d1_23 : ∀ s : Later v6_0.heap.size v6_0, s.W.cell? ⟨g1, 23, none⟩ = some (.slice none 0 0) := fun s => (HZ.out s.W (below_call HB1.out s.h HB1.out.size) 23 _ rfl).2
  have d1_24 : ∀ s : Later v6_0.heap.size v6_0, s.W.cell? ⟨g1, 24, none⟩ = some (.bool false) := fun s => (HZ.out s.W (below_call HB1.out s.h HB1.out.size) 24 _ rfl).2
  have d1_25 : ∀ s : Later v6_0.heap.size v6_0, s.W.cell? ⟨g1, 25, none⟩ = some (.bool false) := fun s => (HZ.out s.W (below_call HB1.out s.h HB1.out.size) 25 _ rfl).2
  have d1_26 : ∀ s : Later v6_0.heap.size v6_0, s.W.cell? ⟨g1, 26, none⟩ = some (.bool false) := fun s => (HZ.out s.W (below_call HB1.out s.h HB1.out.size) 26 _ rfl).2
  have d1_27 : ∀ s : Later v6_0.heap.size v6_0, s.W.cell? ⟨g1, 27, none⟩ = some (.int .i64 0) := fun s => (HZ.out s.W (below_call HB1.out s.h HB1.out.size) 27 _ rfl).2
  have d1_28 : ∀ s : Later v6_0.heap.size v6_0, s.W.cell? ⟨g1, 28, none⟩ = some (.int .i64 0) := fun s => (HZ.out s.W (below_call HB1.out s.h HB1.out.size) 28 _ rfl).2
  rw [rounds_succ]
  go_wp2_with (first
    | (with_reducible (refine wp_region_lit (L := ?L1) ?hl1 ?h1); (case hl1 => (simp only [List.append_eq, List.cons_append, List.nil_append]; exact rfl)))
    | (refine wp_region_pure_later (id := 4) _ [0,1,2,3,4,5,6,7] (by kernel_rfl) (by kernel_rfl) (fun d _ _ _ _ h => by cases d <;> exact h) (fun s4 => ?_); simp only [opsAt, List.getElem?_toArray, List.getElem?_cons_succ, List.getElem?_cons_zero]; (repeat (go_big_quiet_step (fail))); refine wpQuiet_nil ?_)
    | (refine wp_region_later (id := 5) (Later.h _) (by kernel_rfl) (by kernel_rfl) ?_; (repeat (go_big_quiet_step (fail))); refine wpQuiet_nil ?_; rintro w' ⟨s5, rfl⟩)
    | (go_at_call 33; (with_reducible refine (lists_at g1 15 _ _ (d1_15 _)).mono ?_); rintro e v4_1 ⟨rfl, hb4⟩
       have hb4' := below_call (Later.h _) hb4 (Nat.le_trans HS1.out (Later.h _).size)
       obtain ⟨v5_1, hv5_1⟩ : ∃ z, v4_1.alloc (.cells #[.pointer none, .pointer none, .pointer none, .pointer none] 96) = z := ⟨_, rfl⟩
       have hk5 : Blk v5_1 v4_1.heap.size 96 #[.pointer none, .pointer none, .pointer none, .pointer none] := by rw [← hv5_1]; exact Blk.mk_ _ _ _ _ rfl
       have hb5 : Below v4_1.heap.size v4_1 v5_1 := by rw [← hv5_1]; exact (Below.refl _ _).alloc (Nat.le_refl _) _
       obtain ⟨v6_1, hst, hk6, hg6⟩ := hk5.storeAll (ty := 96) [.pointer (some ⟨g1, 20, none⟩), .pointer (some ⟨g1, 21, none⟩), .pointer (some ⟨g1, 22, none⟩), .pointer (some ⟨g1, 23, none⟩)] rfl (by rw [size_four]; rfl) (by intro x hx; simp at hx; rcases hx with rfl | rfl | rfl | rfl <;> rfl)
       have hb6 : Below v4_1.heap.size v4_1 v6_1 := hb5.grown hg6 hb5.size (fun q hq => by injection hq with hq; subst hq; exact Nat.le_refl _)
       have HB6_1 := Lib.hid (below_call HB1.out (below_call hb4' hb6 (Nat.le_trans HS1.out hb4'.size)) HB1.out.size)
       have HST_1 := Lib.hid hst
       have HK6_1 := Lib.hid hk6
       clear hb4 hb4' hk5 hb5 hst hk6 hg6 hb6)
    | (refine wpList_store_by HST_1.out rfl rfl rfl rfl ?_; simp only [Act.put, List.setIfInBounds_toArray, List.set_cons_succ, List.set_cons_zero])
    | (go_at_call 33; (with_reducible refine (lists_at g0 15 _ _ ((HZ.out _ HB6_1.out 15 _ rfl).1)).mono ?_); rintro e v7 ⟨rfl, hb7⟩
       obtain ⟨s7, rfl⟩ : ∃ s : Later v6_1.heap.size v6_1, v7 = s.W := ⟨⟨_, hb7⟩, rfl⟩
       clear hb7)
    | fail)
  clear d0_15 d0_16 d0_17 d0_18 d0_19 d0_20 d0_21 d0_22 d0_23 d0_24 d0_25 d0_26 d0_27 d0_28 d1_15 d1_16 d1_17 d1_18 d1_19 d1_20 d1_21 d1_22 d1_23 d1_24 d1_25 d1_26 d1_27 d1_28
  have HS2 : Hid (v6_1.heap.size ≤ v6_1.heap.size) := Lib.hid (Nat.le_refl _)
  have HB2 : Hid (Below w0.heap.size w0 v6_1) := HB6_1
  have hk8 := HK6_1.out
  have p1_0 : ∀ s : Later v6_1.heap.size v6_1, s.W.cell? ⟨v4_1.heap.size, 0, none⟩ = some (.pointer (some ⟨g1, 20, none⟩)) := fun s => ((hk8.below s.h hk8.lt).at_ 0).trans rfl
  have p1_1 : ∀ s : Later v6_1.heap.size v6_1, s.W.cell? ⟨v4_1.heap.size, 1, none⟩ = some (.pointer (some ⟨g1, 21, none⟩)) := fun s => ((hk8.below s.h hk8.lt).at_ 1).trans rfl
  have p1_2 : ∀ s : Later v6_1.heap.size v6_1, s.W.cell? ⟨v4_1.heap.size, 2, none⟩ = some (.pointer (some ⟨g1, 22, none⟩)) := fun s => ((hk8.below s.h hk8.lt).at_ 2).trans rfl
  have p1_3 : ∀ s : Later v6_1.heap.size v6_1, s.W.cell? ⟨v4_1.heap.size, 3, none⟩ = some (.pointer (some ⟨g1, 23, none⟩)) := fun s => ((hk8.below s.h hk8.lt).at_ 3).trans rfl
  clear hk8
  have x10_20 : ∀ s : Later v6_1.heap.size v6_1, s.W.cell? ⟨g0, 20, none⟩ = some (.slice none 0 0) := fun s => (HZ.out s.W (below_call HB2.out s.h HB2.out.size) 20 _ rfl).1
  have x10_21 : ∀ s : Later v6_1.heap.size v6_1, s.W.cell? ⟨g0, 21, none⟩ = some (.slice none 0 0) := fun s => (HZ.out s.W (below_call HB2.out s.h HB2.out.size) 21 _ rfl).1
  have x10_22 : ∀ s : Later v6_1.heap.size v6_1, s.W.cell? ⟨g0, 22, none⟩ = some (.slice none 0 0) := fun s => (HZ.out s.W (below_call HB2.out s.h HB2.out.size) 22 _ rfl).1
  have x10_23 : ∀ s : Later v6_1.heap.size v6_1, s.W.cell? ⟨g0, 23, none⟩ = some (.slice none 0 0) := fun s => (HZ.out s.W (below_call HB2.out s.h HB2.out.size) 23 _ rfl).1
  have x11_20 : ∀ s : Later v6_1.heap.size v6_1, s.W.cell? ⟨g1, 20, none⟩ = some (.slice none 0 0) := fun s => (HZ.out s.W (below_call HB2.out s.h HB2.out.size) 20 _ rfl).2
  have x11_21 : ∀ s : Later v6_1.heap.size v6_1, s.W.cell? ⟨g1, 21, none⟩ = some (.slice none 0 0) := fun s => (HZ.out s.W (below_call HB2.out s.h HB2.out.size) 21 _ rfl).2
  have x11_22 : ∀ s : Later v6_1.heap.size v6_1, s.W.cell? ⟨g1, 22, none⟩ = some (.slice none 0 0) := fun s => (HZ.out s.W (below_call HB2.out s.h HB2.out.size) 22 _ rfl).2
  have x11_23 : ∀ s : Later v6_1.heap.size v6_1, s.W.cell? ⟨g1, 23, none⟩ = some (.slice none 0 0) := fun s => (HZ.out s.W (below_call HB2.out s.h HB2.out.size) 23 _ rfl).2
  have ix0 := fun w => (idx_four (.pointer (some ⟨g0, 20, none⟩)) (.pointer (some ⟨g0, 21, none⟩)) (.pointer (some ⟨g0, 22, none⟩)) (.pointer (some ⟨g0, 23, none⟩)) w).1
  have ix1 := fun w => (idx_four (.pointer (some ⟨g0, 20, none⟩)) (.pointer (some ⟨g0, 21, none⟩)) (.pointer (some ⟨g0, 22, none⟩)) (.pointer (some ⟨g0, 23, none⟩)) w).2.1
  have ix2 := fun w => (idx_four (.pointer (some ⟨g0, 20, none⟩)) (.pointer (some ⟨g0, 21, none⟩)) (.pointer (some ⟨g0, 22, none⟩)) (.pointer (some ⟨g0, 23, none⟩)) w).2.2.1
  have ix3 := fun w => (idx_four (.pointer (some ⟨g0, 20, none⟩)) (.pointer (some ⟨g0, 21, none⟩)) (.pointer (some ⟨g0, 22, none⟩)) (.pointer (some ⟨g0, 23, none⟩)) w).2.2.2
  refine wp_loop_rounds 5 ?_
  iterate 5 (rw [rounds_succ]; go_wp2_with (first
    | (refine wp_region_later (id := 11) (Later.h _) (by kernel_rfl) (by kernel_rfl) ?_; (repeat (go_big_quiet_step ((go_at_call 34; with_reducible exact Calls.later_same (EQI.out _))))); refine wpQuiet_nil ?_; rintro w' ⟨s11, rfl⟩)
    | fail))
  clear ix0 ix1 ix2 ix3
  clear x10_20 x10_21 x10_22 x10_23 x11_20 x11_21 x11_22 x11_23 p1_0 p1_1 p1_2 p1_3
  have r0_0 : ∀ s : Later v6_1.heap.size v6_1, s.W.cell? ⟨g0, 0, none⟩ = some (.slice none 0 0) := fun s => (HZ.out s.W (below_call HB2.out s.h HB2.out.size) 0 _ rfl).1
  have r0_29 : ∀ s : Later v6_1.heap.size v6_1, s.W.cell? ⟨g0, 29, none⟩ = some (.slice none 0 0) := fun s => (HZ.out s.W (below_call HB2.out s.h HB2.out.size) 29 _ rfl).1
  have r0_30 : ∀ s : Later v6_1.heap.size v6_1, s.W.cell? ⟨g0, 30, none⟩ = some (.slice none 0 0) := fun s => (HZ.out s.W (below_call HB2.out s.h HB2.out.size) 30 _ rfl).1
  have r0_31 : ∀ s : Later v6_1.heap.size v6_1, s.W.cell? ⟨g0, 31, none⟩ = some (.slice none 0 0) := fun s => (HZ.out s.W (below_call HB2.out s.h HB2.out.size) 31 _ rfl).1
  have r0_32 : ∀ s : Later v6_1.heap.size v6_1, s.W.cell? ⟨g0, 32, none⟩ = some (.slice none 0 0) := fun s => (HZ.out s.W (below_call HB2.out s.h HB2.out.size) 32 _ rfl).1
  have r0_33 : ∀ s : Later v6_1.heap.size v6_1, s.W.cell? ⟨g0, 33, none⟩ = some (.int .i64 0) := fun s => (HZ.out s.W (below_call HB2.out s.h HB2.out.size) 33 _ rfl).1
  have r0_34 : ∀ s : Later v6_1.heap.size v6_1, s.W.cell? ⟨g0, 34, none⟩ = some (.int .i64 0) := fun s => (HZ.out s.W (below_call HB2.out s.h HB2.out.size) 34 _ rfl).1
  have r0_35 : ∀ s : Later v6_1.heap.size v6_1, s.W.cell? ⟨g0, 35, none⟩ = some (.int .i64 0) := fun s => (HZ.out s.W (below_call HB2.out s.h HB2.out.size) 35 _ rfl).1
  have r0_36 : ∀ s : Later v6_1.heap.size v6_1, s.W.cell? ⟨g0, 36, none⟩ = some (.int .i64 0) := fun s => (HZ.out s.W (below_call HB2.out s.h HB2.out.size) 36 _ rfl).1
  have r0_37 : ∀ s : Later v6_1.heap.size v6_1, s.W.cell? ⟨g0, 37, none⟩ = some (.int .i64 0) := fun s => (HZ.out s.W (below_call HB2.out s.h HB2.out.size) 37 _ rfl).1
  have r1_0 : ∀ s : Later v6_1.heap.size v6_1, s.W.cell? ⟨g1, 0, none⟩ = some (.slice none 0 0) := fun s => (HZ.out s.W (below_call HB2.out s.h HB2.out.size) 0 _ rfl).2
  have r1_29 : ∀ s : Later v6_1.heap.size v6_1, s.W.cell? ⟨g1, 29, none⟩ = some (.slice none 0 0) := fun s => (HZ.out s.W (below_call HB2.out s.h HB2.out.size) 29 _ rfl).2
  have r1_30 : ∀ s : Later v6_1.heap.size v6_1, s.W.cell? ⟨g1, 30, none⟩ = some (.slice none 0 0) := fun s => (HZ.out s.W (below_call HB2.out s.h HB2.out.size) 30 _ rfl).2
  have r1_31 : ∀ s : Later v6_1.heap.size v6_1, s.W.cell? ⟨g1, 31, none⟩ = some (.slice none 0 0) := fun s => (HZ.out s.W (below_call HB2.out s.h HB2.out.size) 31 _ rfl).2
  have r1_32 : ∀ s : Later v6_1.heap.size v6_1, s.W.cell? ⟨g1, 32, none⟩ = some (.slice none 0 0) := fun s => (HZ.out s.W (below_call HB2.out s.h HB2.out.size) 32 _ rfl).2
  have r1_33 : ∀ s : Later v6_1.heap.size v6_1, s.W.cell? ⟨g1, 33, none⟩ = some (.int .i64 0) := fun s => (HZ.out s.W (below_call HB2.out s.h HB2.out.size) 33 _ rfl).2
  have r1_34 : ∀ s : Later v6_1.heap.size v6_1, s.W.cell? ⟨g1, 34, none⟩ = some (.int .i64 0) := fun s => (HZ.out s.W (below_call HB2.out s.h HB2.out.size) 34 _ rfl).2
  have r1_35 : ∀ s : Later v6_1.heap.size v6_1, s.W.cell? ⟨g1, 35, none⟩ = some (.int .i64 0) := fun s => (HZ.out s.W (below_call HB2.out s.h HB2.out.size) 35 _ rfl).2
  have r1_36 : ∀ s : Later v6_1.heap.size v6_1, s.W.cell? ⟨g1, 36, none⟩ = some (.int .i64 0) := fun s => (HZ.out s.W (below_call HB2.out s.h HB2.out.size) 36 _ rfl).2
  have r1_37 : ∀ s : Later v6_1.heap.size v6_1, s.W.cell? ⟨g1, 37, none⟩ = some (.int .i64 0) := fun s => (HZ.out s.W (below_call HB2.out s.h HB2.out.size) 37 _ rfl).2
  rw [rounds_succ]
  go_wp2_with (first
    | (go_at_call 35; (with_reducible refine (Calls.later_same (EQO.out _)).mono ?_); rintro e v9 ⟨rfl, s9, rfl⟩)
    | (go_at_call 36; (with_reducible refine (Calls.later_same (EQT.out _ _)).mono ?_); rintro e v9 ⟨rfl, s9, rfl⟩)
    | (go_at_call 34; (with_reducible refine (Calls.later_same (EQI.out _)).mono ?_); rintro e v9 ⟨rfl, s9, rfl⟩)
    | (go_at_call 38; (with_reducible refine (Calls.later_same (EQB.out _)).mono ?_); rintro e v9 ⟨rfl, s9, rfl⟩)
    | fail)
  go_ret
  exact ⟨rfl, below_call HW.out (below_call HB2.out (Later.h _) HB2.out.size) HW.out.size⟩
end Go.Proofs.YtpbbemmjodegkaaGreatDoor
