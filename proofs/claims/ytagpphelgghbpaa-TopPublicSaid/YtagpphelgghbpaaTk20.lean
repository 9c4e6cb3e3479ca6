/-
  Texts: Drw.
-/
import Derived.Test.YtagpphelgghbpaaTk19
import Derived.Test.YtagpphelgghbpaaTk14
/-
  board.Draw: a board that is drawn from.
-/
set_option linter.unusedSimpArgs false
set_option linter.unusedVariables false
namespace Go.Proofs.Ytagpphelgghbpaa
open Go.RowKit

/-- A shorter part of what is owned. -/
theorem XOwns.front {W : World} {B e n c : Nat} {A : Option Addr} {xs : List Value} {u : Value} (h : XOwns W B e 1 A (n + 1) c (xs ++ [u])) : XOwns W B e 1 A n c xs := by
  have hl := h.len
  simp only [List.length_append, List.length_cons, List.length_nil] at hl
  rcases h.1.2 with ⟨h0, h1⟩ | ⟨g, c', cur, h1, h2, h3, h4, h5, h6, h7⟩
  · injection h0
    omega
  · injection h1 with h1 h1a h1b
    refine ⟨⟨by omega, .inr ⟨g, c', cur, by rw [h1, h1b], h2, h3, by omega, h5, h6, ?_⟩⟩, h.2⟩
    have h8 := congrArg (List.take (n * 1)) h7
    rw [List.take_take, Nat.min_eq_left (by omega)] at h8
    rw [h8, List.take_append_of_le_length (by omega), List.take_of_length_le (by omega)]
/-- The block of what is owned. -/
theorem XOwns.ofBlk {W : World} {B e size n c : Nat} {A : Option Addr} {xs : List Value} (h : XOwns W B e size A n c xs) (hn : 0 < n) : ∃ g cur, A = some ⟨g, 0, none⟩ ∧ B ≤ g ∧ Blk W g e cur ∧ cur.toList.take (n * size) = xs ∧ n * size ≤ cur.size ∧ ∀ W', Blk W' g e cur → XOwns W' B e size A n c xs := by
  rcases h.1.2 with ⟨h0, h1⟩ | ⟨g, c', cur, h1, h2, h3, h4, h5, h6, h7⟩
  · injection h0
    omega
  · injection h1 with h1 h1a h1b
    exact ⟨g, cur, h1, h2, h3, h7, by rw [h6]; exact Nat.mul_le_mul_right size h4, fun W' hB => ⟨⟨h.1.1, .inr ⟨g, c', cur, by rw [h1, h1b], h2, hB, h4, h5, h6, h7⟩⟩, h.2⟩⟩
/-- A board that is drawn from. -/
structure DrS (w : World) (b : Bd) (m : BdM) (W : World) : Prop where
  P : Blk W w.heap.size 33 (b.cells m).toArray
  D : BdO W w.heap.size b m
  res : Blk W (w.heap.size + 1) 33 zbd
  bel : Below w.heap.size w W
section
variable {w : World} {b : Bd} {m : BdM} {W W' : World}
theorem DrS.below (h : DrS w b m W) (hb : Below W.heap.size W W') : DrS w b m W' := ⟨h.P.call hb, h.D.below hb, h.res.call hb, below_call h.bel hb h.bel.size⟩
theorem BdO.grown_ {B k : Nat} (h : BdO W B b m) (hk : k < 8) (hg : W.grownBy W' (blkOf (m.sl k).A)) : XOwns W' B 88 12 m.O.A b.objs.length m.O.c (ocs b.objs) ∧ IsO W' B m.S b.stk m.ST ∧ IsO W' B m.Q b.que m.QT ∧ XOwns W' B 93 2 m.BK.A b.blk.length m.BK.c (bcs b.blk) := by
  have hX := h.l k (by omega)
  exact ⟨h.O.grown hg (h.O.apart hX (by decide)), ⟨h.S.len, h.S.row.grown hg (h.S.row.apart hX (by decide)), fun i x t h1 h2 => (h.S.tg i x t h1 h2).grown hg ((h.S.tg i x t h1 h2).apart hX (by decide))⟩, ⟨h.Q.len, h.Q.row.grown hg (h.Q.row.apart hX (by decide)), fun i x t h1 h2 => (h.Q.tg i x t h1 h2).grown hg ((h.Q.tg i x t h1 h2).apart hX (by decide))⟩, h.BK.grown hg (h.BK.apart hX (by decide))⟩
theorem DrS.draw (h : DrS w b m W) {l : List Int} {id : Int} (hl : b.s0.lib = l ++ [id]) {g8 c8 : Nat} (hg : W.grownBy W' (blkOf (m.sl 1).A)) (hi : blkOf (m.sl 1).A = some g8 ∨ W.heap.size ≤ g8) (ho : XOwns W' w.heap.size 3 1 (some ⟨g8, 0, none⟩) (b.s0.hand ++ [id]).length c8 (ics (b.s0.hand ++ [id]))) :
    Blk W' w.heap.size 33 (b.cells m).toArray ∧ Blk (W'.setCell ⟨w.heap.size, 6, none⟩ (m.m0.L.v l.length)) w.heap.size 33 ((b.seti 0 l).cells m).toArray ∧ DrS w ((b.seti 0 l).seti 1 (b.s0.hand ++ [id])) (m.set 1 ⟨some ⟨g8, 0, none⟩, c8⟩) ((W'.setCell ⟨w.heap.size, 6, none⟩ (m.m0.L.v l.length)).setCell ⟨w.heap.size, 7, none⟩ (.slice (some ⟨g8, 0, none⟩) (b.s0.hand ++ [id]).length c8)) := by
  have hX := h.D.l 1 (by omega)
  have hP := h.P.grown hg (fun e => hX.apart_blk h.P (by decide) e.symm)
  have hr := h.res.grown hg (fun e => hX.apart_blk h.res (by decide) e.symm)
  have hb := h.bel.grown hg h.bel.size (fun q hq => (hX.lt q hq).1)
  obtain ⟨g1, g2, g3, g4⟩ := h.D.grown_ (k := 1) (by omega) hg
  have hl0 : ∀ q, q < 9 → XOwns W w.heap.size 3 1 (m.sl q).A ((b.seti 0 l).li q).length (m.sl q).c (ics ((b.seti 0 l).li q)) := fun q hq => by
    by_cases e : q = 0
    · subst e
      have h0 := h.D.l 0 hq
      rw [show b.li 0 = l ++ [id] from hl, List.length_append, show ics (l ++ [id]) = ics l ++ [.int .i64 id] by simp [ics]] at h0
      exact h0.front
    · rw [li_other _ _ (by omega) e]
      exact h.D.l q hq
  obtain ⟨h1, h2⟩ := ints_app (b := b.seti 0 l) (k := 1) (by omega) hl0 h.D.ap hg hi ho
  have q1 : W'.grownBy (W'.setCell ⟨w.heap.size, 6, none⟩ (m.m0.L.v l.length)) (some w.heap.size) := only_setCell (only_refl _ _) (.inl rfl) _
  have hP1 := hP.put 6 (m.m0.L.v l.length)
  rw [show (b.cells m).toArray.setIfInBounds 6 (m.m0.L.v l.length) = ((b.seti 0 l).cells m).toArray from rfl] at hP1
  have q2 : (W'.setCell ⟨w.heap.size, 6, none⟩ (m.m0.L.v l.length)).grownBy ((W'.setCell ⟨w.heap.size, 6, none⟩ (m.m0.L.v l.length)).setCell ⟨w.heap.size, 7, none⟩ (.slice (some ⟨g8, 0, none⟩) (b.s0.hand ++ [id]).length c8)) (some w.heap.size) := only_setCell (only_refl _ _) (.inl rfl) _
  have hP2 := hP1.put 7 (.slice (some ⟨g8, 0, none⟩) (b.s0.hand ++ [id]).length c8)
  rw [show ((b.seti 0 l).cells m).toArray.setIfInBounds 7 (.slice (some ⟨g8, 0, none⟩) (b.s0.hand ++ [id]).length c8) = (((b.seti 0 l).seti 1 (b.s0.hand ++ [id])).cells (m.set 1 ⟨some ⟨g8, 0, none⟩, c8⟩)).toArray from rfl] at hP2
  have hne : (some (w.heap.size + 1) : Option Nat) ≠ some w.heap.size := fun e => by injection e with e; omega
  have hlt : ∀ q, (some w.heap.size : Option Nat) = some q → w.heap.size ≤ q := fun q hq => by injection hq with hq; omega
  have o := off_board
  refine ⟨hP, hP1, ⟨hP2, ⟨(g1.blk_ hP q1 o.1).blk_ hP1 q2 o.1, fun q hq => ((h1 q hq).blk_ hP q1 o.2.2.2.1).blk_ hP1 q2 o.2.2.2.1, h2, (g2.blk hP q1 o.2.1 o.2.2.1).blk hP1 q2 o.2.1 o.2.2.1, (g3.blk hP q1 o.2.1 o.2.2.1).blk hP1 q2 o.2.1 o.2.2.1, (g4.blk_ hP q1 o.2.2.2.2).blk_ hP1 q2 o.2.2.2.2⟩, (hr.grown q1 hne).grown q2 hne, ?_⟩⟩
  have hb1 := hb.grown q1 hb.size hlt
  exact hb1.grown q2 hb1.size hlt
end
set_option maxRecDepth 100000 in
set_option maxHeartbeats 3200000 in
theorem dr_lists (w W : World) (b : Bd) (m : BdM) (l : List Int) (id k : Int) (hk : k = l.length + 1) (hF : DrS w b m W) (hl : b.s0.lib = l ++ [id]) (hln : l.length ≤ 500) (hn : b.s0.hand.length ≤ 500) (Q : Exit → Act → World → Prop) (t0 t1 t2 t3 t4 t5 t6 t7 t11 t12 t13 t14 t15 t16 t17 t18 t19 t20 t21 t22 t23 t24 t25 t26 t27 t28 t29 t30 t31 t32 t33 t34 t35 t36 t37 t38 t39 t40 t41 t42 t43 t44 t45 t46 t47 t48 t49 t50 t51 t52 t53 t54 t55 t56 t57 t58 t59 t60 t61 t62 t63 t64 t65 t66 t67 t68 t69 t70 t71 t72 t73 t74 t75 t76 t77 t78 t79 t80 t81 t82 t83 t84 t85 t86 t87 t88 t89 : Value)
    (hQ : ∀ d v c a w, Q (.panic c) (Act.put a d v) w → Q (.panic c) a w)
    (hK : ∀ (u53 u54 u55 u56 u57 u58 u59 u60 u61 u62 u63 u64 u65 u66 u67 u68 u69 u70 u71 u72 : Value) (m' : BdM) (W9 : World), DrS w ((b.seti 0 l).seti 1 (b.s0.hand ++ [id])) m' W9 → Q .normal ⟨#[t0, t1, t2, t3, t4, t5, t6, t7, .pointer (some ⟨w.heap.size, 1, none⟩), .int .i64 k, .int .i64 id, t11, t12, t13, t14, t15, t16, t17, t18, t19, t20, t21, t22, t23, t24, t25, t26, t27, t28, t29, t30, t31, t32, t33, t34, t35, t36, t37, t38, t39, t40, t41, t42, t43, t44, t45, t46, t47, t48, t49, t50, t51, t52, u53, u54, u55, u56, u57, u58, u59, u60, u61, u62, u63, u64, u65, u66, u67, u68, u69, u70, u71, u72, t73, t74, t75, t76, t77, t78, t79, t80, t81, t82, t83, t84, t85, t86, t87, t88, t89], []⟩ W9) :
    Code.wp Try.prog (regOf Try.f16 11) Q ⟨#[t0, t1, t2, t3, t4, t5, t6, t7, .pointer (some ⟨w.heap.size, 1, none⟩), .int .i64 k, .int .i64 id, t11, t12, t13, t14, t15, t16, t17, t18, t19, t20, t21, t22, t23, t24, t25, t26, t27, t28, t29, t30, t31, t32, t33, t34, t35, t36, t37, t38, t39, t40, t41, t42, t43, t44, t45, t46, t47, t48, t49, t50, t51, t52, t53, t54, t55, t56, t57, t58, t59, t60, t61, t62, t63, t64, t65, t66, t67, t68, t69, t70, t71, t72, t73, t74, t75, t76, t77, t78, t79, t80, t81, t82, t83, t84, t85, t86, t87, t88, t89], []⟩ W := by
  have HKK := Lib.hid hK
  clear hK
  conv => arg 2; whnf
  obtain ⟨⟨LA, Lc⟩, hmL⟩ : ∃ x, m.m0.L = x := ⟨_, rfl⟩
  obtain ⟨⟨HA, Hc⟩, hmH⟩ : ∃ x, m.m0.H = x := ⟨_, rfl⟩
  obtain ⟨nh, hnh⟩ : ∃ x, b.s0.hand.length = x := ⟨_, rfl⟩
  obtain ⟨nl, hnl⟩ : ∃ x, l.length = x := ⟨_, rfl⟩
  have hlen : b.s0.lib.length = nl + 1 := by rw [hl, List.length_append, hnl]; rfl
  have hX := hF.D.l 0 (by decide)
  rw [show m.sl 0 = m.m0.L from rfl, hmL, show b.li 0 = b.s0.lib from rfl, hlen] at hX
  obtain ⟨gl, cur, hLA, -⟩ := hX.ofBlk (by omega)
  have hcap := hX.capOk
  dsimp only at hLA hcap
  subst hLA
  rw [hnh] at hn
  rw [hnl] at hk hln
  subst hk
  have HMH := Lib.hid hmH
  have HML := Lib.hid hmL
  have HNH := Lib.hid hnh
  have HNL := Lib.hid hnl
  have HL := Lib.hid hl
  have HF := Lib.hid hF
  have HQ := Lib.hid hQ
  have hne_ : Nonempty (In (fun W' => Blk W' w.heap.size 33 (b.cells m).toArray)) := ⟨⟨W, hF.P⟩⟩
  have x5 : ∀ s : In (fun W' => Blk W' w.heap.size 33 (b.cells m).toArray), s.W.cell? ⟨w.heap.size, 6, none⟩ = some (.slice (some ⟨gl, 0, none⟩) (nl + 1) Lc) := fun s => (s.h.at_ 6).trans (by show some (m.m0.L.v b.s0.lib.length) = _; rw [hmL, hlen]; rfl)
  have x12 : ∀ s : In (fun W' => Blk W' w.heap.size 33 (b.cells m).toArray), s.W.cell? ⟨w.heap.size, 7, none⟩ = some (.slice HA nh Hc) := fun s => (s.h.at_ 7).trans (by show some (m.m0.H.v b.s0.hand.length) = _; rw [hmH, hnh]; rfl)
  clear hmH hmL hnh hnl hl hlen hX hF hQ
  have hneT : Nonempty (In (fun _ => True)) := ⟨⟨W, trivial⟩⟩
  refine wp_region_late2 (Ph (fun w' => ∃ s : In (fun W' => Blk W' w.heap.size 33 (b.cells m).toArray), w' = s.W) (fun w' => ∃ s : In (fun _ => True), w' = s.W)) (fun w' => ∃ s : In (fun _ => True), w' = s.W) (fun w => ⟨⟨w, trivial⟩, rfl⟩) [18,21] [0,1,2,3,4,6,9,10,11,13] [5,7,8,12] (.one 14 [] (.one 15 [16,17] (.one 18 [19,20] (.one 21 [] .done)))) (by kernel_rfl) (by kernel_rfl) HQ.out ⟨⟨_, HF.out.P.drew⟩, rfl⟩ ?_
  refine quiet_as (C' := (fun w' => ∃ s : In (fun _ => True), w' = s.W)) rfl ?_
  simp only [opsAt, List.getElem?_toArray, List.getElem?_cons_succ, List.getElem?_cons_zero]
  repeat (go_big_quiet_step (fail))
  refine wpQuiet_nil ?_
  refine quiet_as (C' := (fun w' => ∃ s : In (fun W' => Blk W' w.heap.size 33 (b.cells m).toArray), w' = s.W)) rfl ?_
  try simp only [opsAt, List.getElem?_toArray, List.getElem?_cons_succ, List.getElem?_cons_zero]
  repeat (go_big_quiet_step (fail))
  refine wpQuiet_nil ?_
  obtain ⟨W_d, hwd⟩ : ∃ v, W.drew = v := ⟨_, rfl⟩
  have HBW_1 : Hid (Below w.heap.size w W_d) := Lib.hid (by rw [← hwd]; exact (HF.out.bel).drew)
  have HBR_1 : Hid (Below W.heap.size W W_d) := Lib.hid (by rw [← hwd]; exact (Below.refl _ _).drew)
  have FD_1 := Lib.hid ((HF.out).below (show Below W.heap.size W W_d by rw [← hwd]; exact (Below.refl _ _).drew))
  rw [hwd]
  clear hwd
  refine eff_as (C' := (fun w' => ∃ s : In (fun W' => Blk W' w.heap.size 33 (b.cells m).toArray), w' = s.W)) rfl ?_
  (refine eff_lit rfl rfl (fun K hK => ?_))
  go_big_op
  obtain ⟨W_2, hvW_2⟩ : ∃ v, (W_d.alloc (.cells #[Value.int .i64 id] 3)) = v := ⟨_, rfl⟩
  have hbW_2 : Below W_d.heap.size W_d W_2 := by rw [← hvW_2]; exact (Below.refl _ _).alloc (Nat.le_refl _) _
  obtain ⟨gL, hggL⟩ : ∃ v, W_d.heap.size = v := ⟨_, rfl⟩
  have hkW_2 : Blk W_2 gL 3 #[Value.int .i64 id] := by rw [← hvW_2]; exact Blk.mk_ _ _ _ _ hggL
  have HNgL : Hid (W.heap.size ≤ gL ∧ w.heap.size ≤ gL) := Lib.hid ⟨by rw [← hggL]; exact HBR_1.out.size, by rw [← hggL]; exact HBW_1.out.size⟩
  rw [hvW_2, hggL]
  have LT_3 := Lib.hid (hkW_2)
  have HBW_3 := Lib.hid (below_call HBW_1.out hbW_2 HBW_1.out.size)
  clear HBW_1
  have HBR_3 := Lib.hid (below_call HBR_1.out hbW_2 HBR_1.out.size)
  clear HBR_1
  have FD_3 := Lib.hid (FD_1.out.below hbW_2)
  clear FD_1
  clear hkW_2 hvW_2 hggL hbW_2
  refine hK _ _ ⟨⟨_, FD_3.out.P⟩, rfl⟩ ?_
  clear hK K
  try simp only [opsAt, List.getElem?_toArray, List.getElem?_cons_succ, List.getElem?_cons_zero]
  refine wpQuiet_nil ?_
  refine eff_as (C' := (fun w' => ∃ s : In (fun W' => Blk W' w.heap.size 33 (b.cells m).toArray), w' = s.W)) rfl ?_
  (refine eff_lit rfl rfl (fun K hK => ?_))
  have hxh := FD_3.out.D.l 1 (by decide)
  rw [show m.sl 1 = m.m0.H from rfl, HMH.out, show (b.li 1).length = nh from HNH.out] at hxh
  refine append_x_op (w := W_2) (.tmp 65) (.tmp 67) 25 rfl w.heap.size 3 (.int .i64 0) 1 8 tinfo_ints Try.underlying25 rfl (by decide) HA nh Hc (ics (b.li 1)) rfl hxh (some ⟨gL, 0, none⟩) 1 1 (ics [id]) rfl (reads_block LT_3.out 1 1 rfl) (ics_one _) (by decide) (by omega) (by omega) FD_3.out.bel.size _ rfl ?_
  intro g8 c8 W_4 ho8 hg8 hi8 hl8
  simp only [Act.put, List.setIfInBounds_toArray, List.set_cons_succ, List.set_cons_zero]
  have HDR := Lib.hid (FD_3.out.draw (l := l) (id := id) HL.out (g8 := g8) (c8 := c8) (by rw [show m.sl 1 = m.m0.H from rfl, HMH.out]; exact hg8) (by rw [show m.sl 1 = m.m0.H from rfl, HMH.out]; exact hi8.imp (fun h => h) (fun e => by omega)) (by rw [List.length_append, HNH.out, show ics (b.s0.hand ++ [id]) = ics b.s0.hand ++ ics [id] by simp [ics]]; exact ho8))
  clear hxh ho8 hg8 hi8 hl8
  refine hK _ _ ⟨⟨_, HDR.out.1⟩, rfl⟩ ?_
  clear hK K
  try simp only [opsAt, List.getElem?_toArray, List.getElem?_cons_succ, List.getElem?_cons_zero]
  try simp only [Act.put]
  repeat (go_big_quiet_step (fail))
  refine wpQuiet_nil ?_
  refine eff_as (C' := (fun w' => ∃ s : In (fun _ => True), w' = s.W)) rfl ?_
  (refine eff_lit rfl rfl (fun K hK => ?_))
  have hq0 := HDR.out.1
  have q9 := (hq0.at_ 6).trans rfl
  have f9 := hq0.free 6
  have l9 := hq0.lt
  go_big_op
  clear q9 f9 l9 hq0
  refine hK _ _ ⟨⟨_, trivial⟩, rfl⟩ ?_
  clear hK K
  try simp only [opsAt, List.getElem?_toArray, List.getElem?_cons_succ, List.getElem?_cons_zero]
  try simp only [Act.put]
  repeat (go_big_quiet_step (fail))
  refine wpQuiet_nil ?_
  refine eff_as (C' := (fun w' => ∃ s : In (fun _ => True), w' = s.W)) rfl ?_
  (refine eff_lit rfl rfl (fun K hK => ?_))
  have hq0 := HDR.out.2.1
  rw [show m.m0.L.v l.length = Value.slice (some ⟨gl, 0, none⟩) nl Lc by rw [HML.out, HNL.out]; rfl] at hq0
  have q9 := (hq0.at_ 7).trans rfl
  have f9 := hq0.free 7
  have l9 := hq0.lt
  go_big_op
  clear q9 f9 l9 hq0
  refine hK _ _ ⟨⟨_, trivial⟩, rfl⟩ ?_
  clear hK K
  try simp only [opsAt, List.getElem?_toArray, List.getElem?_cons_succ, List.getElem?_cons_zero]
  refine wpQuiet_nil ?_
  refine effs_done ?_
  have h9 := HDR.out.2.2
  rw [show m.m0.L.v l.length = Value.slice (some ⟨gl, 0, none⟩) nl Lc by rw [HML.out, HNL.out]; rfl, List.length_append, HNH.out] at h9
  exact HKK.out _ _ _ _ _ _ _ _ _ _ _ _ _ _ _ _ _ _ _ _ _ _ h9

section
variable {w : World} {b : Bd} {m : BdM} {W W' : World}
theorem DrS.same (h : DrS w b m W) {gO Oc : Nat} {cur : Array Value} (hA : m.O = ⟨some ⟨gO, 0, none⟩, Oc⟩) (hge : w.heap.size ≤ gO) (hk : Blk W gO 88 cur) (hg : W.grownBy W' (some gO)) (hO : XOwns W' w.heap.size 88 12 m.O.A b.objs.length m.O.c (ocs b.objs)) : DrS w b m W' := by
  have hO0 := h.D.O
  rw [hA] at hO0
  exact ⟨h.P.grown hg (fun e => hO0.apart_blk h.P (by decide) e.symm), ⟨hO, fun q hq => (h.D.l q hq).blk_ hk hg (by decide), h.D.ap, h.D.S.blk hk hg (by decide) (by decide), h.D.Q.blk hk hg (by decide) (by decide), h.D.BK.blk_ hk hg (by decide)⟩, h.res.grown hg (fun e => hO0.apart_blk h.res (by decide) e.symm), h.bel.grown hg h.bel.size (fun q hq => by injection hq with hq; omega)⟩
end
theorem put_same {l v : List Value} {o : Nat} (h : ∀ j, j < v.length → l[o + j]? = v[j]?) (hl : o + v.length ≤ l.length) : l.take o ++ v ++ l.drop (o + v.length) = l := by
  refine List.ext_getElem? fun j => ?_
  have e1 : (l.take o).length = o := by rw [List.length_take]; omega
  rcases Nat.lt_or_ge j o with h1 | h1
  · rw [List.append_assoc, List.getElem?_append_left (by omega), List.getElem?_take_of_lt h1]
  · rcases Nat.lt_or_ge j (o + v.length) with h2 | h2
    · rw [List.getElem?_append_left (by rw [List.length_append]; omega), List.getElem?_append_right (by omega), e1, ← h (j - o) (by omega), show o + (j - o) = j by omega]
    · rw [List.getElem?_append_right (by rw [List.length_append]; omega), List.length_append, e1, List.getElem?_drop, show o + v.length + (j - (o + v.length)) = j by omega]
theorem one_ob (o : Ob) : ∀ u ∈ o.cells, u.oneCell' = true := by
  intro u hu
  simp only [Ob.cells, List.mem_cons, List.not_mem_nil, or_false] at hu
  rcases hu with rfl | rfl | rfl | rfl | rfl | rfl | rfl | rfl | rfl | rfl | rfl | rfl <;> rfl
set_option maxRecDepth 100000 in
set_option maxHeartbeats 3200000 in
theorem dr_reset (w W : World) (b : Bd) (m : BdM) (i : Nat) (o : Ob) (hF : DrS w b m W) (hi : b.objs[i]? = some o) (hro : ({ o with dam := 0, pp := 0, pt := 0, cnt := 0, tap := false, doom := false, sick := decide ((1 : Int) = 2) } : Ob) = o) (hno : b.objs.length ≤ 500) (Q : Exit → Act → World → Prop) (t0 t1 t2 t4 t5 t6 t7 t8 t9 t10 t12 t13 t14 t15 t16 t17 t18 t19 t20 t21 t22 t23 t24 t25 t26 t27 t28 t29 t30 t31 t32 t33 t34 t35 t36 t37 t38 t39 t40 t41 t42 t43 t44 t45 t46 t47 t48 t49 t50 t51 t52 t53 t54 t55 t56 t57 t58 t59 t60 t61 t62 t63 t64 t65 t66 t67 t68 t69 t70 t71 t72 t73 t74 t75 t76 t77 t78 t79 t80 t81 t82 t83 t84 t85 t86 t87 t88 t89 : Value)
    (hQ : ∀ d v c a w, Q (.panic c) (Act.put a d v) w → Q (.panic c) a w)
    (hK : ∀ (u79 u80 u81 u82 u83 u84 u85 u86 u87 u88 : Value)  (W9 : World), DrS w b m W9 → Q .normal ⟨#[t0, t1, t2, .pointer (some ⟨w.heap.size, 0, none⟩), t4, t5, t6, t7, t8, t9, t10, .int .i64 i, t12, t13, t14, t15, t16, t17, t18, t19, t20, t21, t22, t23, t24, t25, t26, t27, t28, t29, t30, t31, t32, t33, t34, t35, t36, t37, t38, t39, t40, t41, t42, t43, t44, t45, t46, t47, t48, t49, t50, t51, t52, t53, t54, t55, t56, t57, t58, t59, t60, t61, t62, t63, t64, t65, t66, t67, t68, t69, t70, t71, t72, t73, t74, t75, t76, t77, t78, u79, u80, u81, u82, u83, u84, u85, u86, u87, u88, t89], []⟩ W9) :
    Code.wp Try.prog (regOf Try.f16 13) Q ⟨#[t0, t1, t2, .pointer (some ⟨w.heap.size, 0, none⟩), t4, t5, t6, t7, t8, t9, t10, .int .i64 i, t12, t13, t14, t15, t16, t17, t18, t19, t20, t21, t22, t23, t24, t25, t26, t27, t28, t29, t30, t31, t32, t33, t34, t35, t36, t37, t38, t39, t40, t41, t42, t43, t44, t45, t46, t47, t48, t49, t50, t51, t52, t53, t54, t55, t56, t57, t58, t59, t60, t61, t62, t63, t64, t65, t66, t67, t68, t69, t70, t71, t72, t73, t74, t75, t76, t77, t78, t79, t80, t81, t82, t83, t84, t85, t86, t87, t88, t89], []⟩ W := by
  have HKK := Lib.hid hK
  clear hK
  conv => arg 2; whnf
  obtain ⟨⟨OA, Oc⟩, hmO⟩ : ∃ x, m.O = x := ⟨_, rfl⟩
  obtain ⟨no, hnn⟩ : ∃ x, b.objs.length = x := ⟨_, rfl⟩
  have hin : i < no := by rw [← hnn]; exact (List.getElem?_eq_some_iff.1 hi).1
  have hin' : (i : Int) < no := by omega
  have hX := hF.D.O
  rw [hmO, hnn] at hX
  obtain ⟨gO, cur, hOA, hge, hk, htk, hsz, hback⟩ := hX.ofBlk (by omega)
  dsimp only at hOA
  subst hOA
  have hcell : ∀ j, j < o.cells.length → cur[i * 12 + j]? = o.cells[j]? := fun j hj => by
    have h1 := flatMap_at (enc := Ob.cells) (k := 12) (fun _ => rfl) hi (j := j) hj
    rw [← h1, show b.objs.flatMap Ob.cells = ocs b.objs from rfl, ← htk, List.getElem?_take_of_lt (by have : j < 12 := hj; omega), Array.getElem?_toList]
  have HCELL := Lib.hid hcell
  have HGE := Lib.hid hge
  have HKO := Lib.hid hk
  have HSZ := Lib.hid hsz
  have HBACK := Lib.hid hback
  have HMO := Lib.hid hmO
  have HNN := Lib.hid hnn
  have HRO := Lib.hid hro
  have HF := Lib.hid hF
  have HQ := Lib.hid hQ
  have HIN := Lib.hid hin
  rw [hnn] at hno
  have hne_ : Nonempty (In (fun W' => Blk W' w.heap.size 33 (b.cells m).toArray ∧ Blk W' gO 88 cur)) := ⟨⟨W, hF.P, hk⟩⟩
  have x0 : ∀ s : In (fun W' => Blk W' w.heap.size 33 (b.cells m).toArray ∧ Blk W' gO 88 cur), s.W.cell? ⟨w.heap.size, 0, none⟩ = some (.slice (some ⟨gO, 0, none⟩) no Oc) := fun s => (s.h.1.at_ 0).trans (by show some (m.O.v b.objs.length) = _; rw [hmO, hnn]; rfl)
  have HLO : Hid (∀ W', (∃ s : In (fun W' => Blk W' w.heap.size 33 (b.cells m).toArray ∧ Blk W' gO 88 cur), W' = s.W) → (Instr.loadAt 88 (.pointer (some ⟨gO, i * 12, none⟩))).run Try.prog W' = .ok (.agg o.cells.toArray) W') := Lib.hid (fun W' hW => by
    obtain ⟨s, rfl⟩ := hW
    exact s.h.2.mid o.cells _ (fun j v hj => by rw [hcell j (List.getElem?_eq_some_iff.1 hj).1]; exact hj) Try.underlying88 rfl (by rw [size_object]; rfl))
  have hkl := hk.lt
  clear hmO hnn hX hk htk hsz hback hcell hro hF hQ hge hi hin
  have hneT : Nonempty (In (fun _ => True)) := ⟨⟨W, trivial⟩⟩
  refine wp_region_late2 (Ph (fun w' => ∃ s : In (fun W' => Blk W' w.heap.size 33 (b.cells m).toArray ∧ Blk W' gO 88 cur), w' = s.W) (fun w' => ∃ s : In (fun _ => True), w' = s.W)) (fun w' => ∃ s : In (fun _ => True), w' = s.W) (fun w => ⟨⟨w, trivial⟩, rfl⟩) [10] [0,2,3,5] [1,4,6,7] (.one 8 [9] (.one 10 [] .done)) (by kernel_rfl) (by kernel_rfl) HQ.out ⟨⟨_, ⟨HF.out.P.drew, HKO.out.drew⟩⟩, rfl⟩ ?_
  refine quiet_as (C' := (fun w' => ∃ s : In (fun _ => True), w' = s.W)) rfl ?_
  simp only [opsAt, List.getElem?_toArray, List.getElem?_cons_succ, List.getElem?_cons_zero]
  repeat (first | (refine wpQuiet_load_by HLO.out ⟨_, ⟨⟨_, HF.out.P, HKO.out⟩, rfl⟩⟩ rfl rfl rfl ?_; simp only [Act.put, List.setIfInBounds_toArray, List.set_cons_succ, List.set_cons_zero]) | go_big_quiet_step (fail))
  refine wpQuiet_nil ?_
  refine quiet_as (C' := (fun w' => ∃ s : In (fun W' => Blk W' w.heap.size 33 (b.cells m).toArray ∧ Blk W' gO 88 cur), w' = s.W)) rfl ?_
  try simp only [opsAt, List.getElem?_toArray, List.getElem?_cons_succ, List.getElem?_cons_zero]
  repeat (first | (refine wpQuiet_load_by HLO.out ⟨_, ⟨⟨_, HF.out.P, HKO.out⟩, rfl⟩⟩ rfl rfl rfl ?_; simp only [Act.put, List.setIfInBounds_toArray, List.set_cons_succ, List.set_cons_zero]) | go_big_quiet_step (fail))
  refine wpQuiet_nil ?_
  obtain ⟨W_d, hwd⟩ : ∃ v, W.drew = v := ⟨_, rfl⟩
  have HBW_1 : Hid (Below w.heap.size w W_d) := Lib.hid (by rw [← hwd]; exact (HF.out.bel).drew)
  have HBR_1 : Hid (Below W.heap.size W W_d) := Lib.hid (by rw [← hwd]; exact (Below.refl _ _).drew)
  have FD_1 := Lib.hid ((HF.out).below (show Below W.heap.size W W_d by rw [← hwd]; exact (Below.refl _ _).drew))
  have KO_1 := Lib.hid ((HKO.out).call (show Below W.heap.size W W_d by rw [← hwd]; exact (Below.refl _ _).drew))
  rw [hwd]
  clear hwd
  refine eff_as (C' := (fun w' => ∃ s : In (fun W' => Blk W' w.heap.size 33 (b.cells m).toArray ∧ Blk W' gO 88 cur), w' = s.W)) rfl ?_
  (refine eff_lit rfl rfl (fun K hK => ?_))
  go_big_op
  refine ((show Calls Try.prog 36 #[.agg o.cells.toArray, .int .i64 1] W_d (fun e w' => e = .returned (.agg o.cells.toArray) ∧ Below W_d.heap.size W_d w') from (oreset_any o 1 W_d).mono (fun e w' h => ⟨by rw [h.1, HRO.out], h.2⟩))).mono ?_
  rintro e W_2 ⟨rfl, hbW_2⟩
  have HBW_3 := Lib.hid (below_call HBW_1.out hbW_2 HBW_1.out.size)
  clear HBW_1
  have HBR_3 := Lib.hid (below_call HBR_1.out hbW_2 HBR_1.out.size)
  clear HBR_1
  have FD_3 := Lib.hid (FD_1.out.below hbW_2)
  clear FD_1
  have KO_3 := Lib.hid (KO_1.out.call hbW_2)
  clear KO_1
  clear hbW_2
  refine hK _ _ ⟨⟨_, ⟨FD_3.out.P, KO_3.out⟩⟩, rfl⟩ ?_
  clear hK K
  try simp only [opsAt, List.getElem?_toArray, List.getElem?_cons_succ, List.getElem?_cons_zero]
  repeat (first | (refine wpQuiet_load_by HLO.out ⟨_, ⟨⟨_, HF.out.P, HKO.out⟩, rfl⟩⟩ rfl rfl rfl ?_; simp only [Act.put, List.setIfInBounds_toArray, List.set_cons_succ, List.set_cons_zero]) | go_big_quiet_step (fail))
  refine wpQuiet_nil ?_
  refine eff_as (C' := (fun w' => ∃ s : In (fun _ => True), w' = s.W)) rfl ?_
  (refine eff_lit rfl rfl (fun K hK => ?_))
  have hk8 := KO_3.out
  obtain ⟨W_4, hrun, hk9, hg9⟩ := Blk.storeMid (ty := 88) (cs := cur.toList) (by simpa using hk8) (i * 12) o.cells (by have := HSZ.out; have := HIN.out; show i * 12 + 12 ≤ cur.toList.length; simp; omega) (by rw [size_object]; rfl) (one_ob o)
  rw [put_same (fun j hj => by have h := HCELL.out j hj; simpa using h) (by have := HSZ.out; have := HIN.out; show i * 12 + 12 ≤ cur.toList.length; simp; omega)] at hk9
  refine wp_store_by hrun rfl rfl rfl ?_
  simp only [Act.put, List.setIfInBounds_toArray, List.set_cons_succ, List.set_cons_zero]
  have HEND := Lib.hid (FD_3.out.same HMO.out HGE.out hk8 hg9 (by rw [HMO.out, HNN.out]; exact HBACK.out _ (by simpa using hk9)))
  clear hk8 hrun hk9 hg9
  refine hK _ _ ⟨⟨_, trivial⟩, rfl⟩ ?_
  clear hK K
  try simp only [opsAt, List.getElem?_toArray, List.getElem?_cons_succ, List.getElem?_cons_zero]
  refine wpQuiet_nil ?_
  refine effs_done ?_
  exact HKK.out _ _ _ _ _ _ _ _ _ _ _ HEND.out

end Go.Proofs.Ytagpphelgghbpaa
