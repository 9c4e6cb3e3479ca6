/-
  Texts: Kk.
-/
import Derived.Test.YtpbbemmjodegkaaDoorXk16
set_option linter.unusedSimpArgs false
set_option linter.unusedVariables false
namespace Go.Proofs.YtpbbemmjodegkaaDoor
open Go.RowKit

theorem append_b_op {P : Program} {w : World} {o : Oper} {a : Act} {K : Act → World → Prop} {Q : Exit → Act → World → Prop} (s x : Operand) (t : TypeId)
    (ho : o.op = .call { callee := .builtin .append, args := #[s, x], argTypes := #[t, t] })
    (base : Nat) (e : TypeId) (hrow : (P.info? e).map (fun i => (i.zero, i.size, i.bytes)) = some (some (.int .u8 0), 1, 1)) (ht : P.underlying t = some (.slice e))
    (A : Option Addr) (n cap : Nat) (xs : List Int) (hs : a.eval s = .slice A n cap) (hown : BOwns w base e A n cap xs)
    (A' : Option Addr) (m c : Nat) (ys : List Int) (hx : a.eval x = .slice A' m c) (hA : A' = none → c = 0) (hr : BReads w A' m ys)
    (hbd : n + m ≤ 140737488355328) (hbase : base ≤ w.heap.size)
    (h : ∀ A2 cap2 w', BOwns w' base e A2 (n + m) cap2 (xs ++ ys) → Below base w w' → K (a.put o.dst (.slice A2 (n + m) cap2)) w') : o.wp P a w K Q :=
  append_xr_op s x t ho base e (.int .u8 0) 1 1 hrow ht rfl (by decide) A n cap (bys xs) hs hown.x A' m c (bys ys) hx hA hr.1 (bys_one _) (by omega) hbd hbase (fun A2 c2 w' h2 hb => h A2 c2 w' (by
    have hm : bys xs ++ bys ys = bys (xs ++ ys) := by simp [bys]
    rw [hm] at h2
    exact h2.b (fun z hz => by
      rcases List.mem_append.1 hz with hz | hz
      · exact hown.2.1 z hz
      · exact hr.2 z hz)) hb)
theorem append_bg_op {P : Program} {w : World} {o : Oper} {a : Act} {K : Act → World → Prop} {Q : Exit → Act → World → Prop} (s x : Operand) (t : TypeId)
    (ho : o.op = .call { callee := .builtin .append, args := #[s, x], argTypes := #[t, t] })
    (base : Nat) (e : TypeId) (hrow : (P.info? e).map (fun i => (i.zero, i.size, i.bytes)) = some (some (.int .u8 0), 1, 1)) (ht : P.underlying t = some (.slice e))
    (A : Option Addr) (n cap : Nat) (xs : List Int) (hs : a.eval s = .slice A n cap) (hown : BOwns w base e A n cap xs)
    (A' : Option Addr) (m c : Nat) (ys : List Int) (hx : a.eval x = .slice A' m c) (hr : BReads w A' m ys) (hm : 0 < m)
    (hbd : n + m ≤ 140737488355328) (hbase : base ≤ w.heap.size)
    (h : ∀ A2 cap2 w', BOwns w' base e A2 (n + m) cap2 (xs ++ ys) → Below base w w' → w.grownBy w' (blkOf A) → K (a.put o.dst (.slice A2 (n + m) cap2)) w') : o.wp P a w K Q :=
  append_x_op s x t ho base e (.int .u8 0) 1 1 hrow ht rfl (by decide) A n cap (bys xs) hs hown.x A' m c (bys ys) hx hr.1 (bys_one _) hm (by omega) hbd hbase _ rfl (fun g c2 w' h2 hg _ _ => h _ c2 w' (by
    have hm : bys xs ++ bys ys = bys (xs ++ ys) := by simp [bys]
    rw [hm] at h2
    exact h2.b (fun z hz => by
      rcases List.mem_append.1 hz with hz | hz
      · exact hown.2.1 z hz
      · exact hr.2 z hz)) ((Below.refl _ _).grown hg hbase (fun k hk => own_blk hown k hk)) hg)
theorem numsOf_cells (s : ByteArray) : Lib.strCells s = bys (numsOf s) := by simp [Lib.strCells, bys, numsOf]
theorem append_text {P : Program} (w : World) {ops : Array Oper} {rest : List Oper} {o : Oper} {a : Act} {Q : Exit → Act → World → Prop} (hgd : o.guard = none) (sl x : Operand) (t u : TypeId)
    (ho : o.op = .call { callee := .builtin .append, args := #[sl, x], argTypes := #[t, u] })
    (base : Nat) (e : TypeId) (hrow : (P.info? e).map (fun i => (i.zero, i.size, i.bytes)) = some (some (.int .u8 0), 1, 1)) (ht : P.underlying t = some (.slice e)) (hu : P.underlying u = some .string)
    (A : Option Addr) (n cap : Nat) (xs : List Int) (hs : a.eval sl = .slice A n cap) (hown : BOwns w base e A n cap xs) (s : ByteArray) (hx : a.eval x = .string s)
    (hbd : n + s.size ≤ 140737488355328) (hbase : base ≤ w.heap.size)
    (h : ∀ A2 cap2 w', BOwns w' base e A2 (n + s.size) cap2 (xs ++ numsOf s) → Below base w w' → wpList P ops Q rest (a.put o.dst (.slice A2 (n + s.size) cap2)) w') : wpList P ops Q (o :: rest) a w := by
  obtain ⟨i0, hi, hz0, hz1, hz2⟩ := info_parts hrow
  refine Lib.wpList_append_own_string w hgd sl x t u ho base e i0 ht hu hi hz0 hz1 hz2 _ n (bys xs) hs hown.1 s hx (by unfold maxLen; omega) hbd hbase ?_
  intro v' w' ho' hg hiff
  have hb : Below base w w' := (Below.refl _ _).grown hg hbase (fun k hk => (hown.1.lt k hk).1)
  have hbs : IsBytes (xs ++ numsOf s) := fun z hz => by
    rcases List.mem_append.1 hz with hz | hz
    · exact hown.2.1 z hz
    · exact numsOf_bytes s z hz
  rw [numsOf_cells, show bys xs ++ bys (numsOf s) = bys (xs ++ numsOf s) by simp [bys]] at ho'
  rcases ho'.2 with ⟨hv, hn⟩ | ⟨g, c2, cur, hv, h2⟩
  · subst hv
    have := h none 0 w' (by rw [hn]; rw [hn] at ho'; exact ⟨ho', hbs, fun _ => rfl⟩) hb
    rw [hn] at this
    exact this
  · subst hv
    exact h _ c2 w' ⟨ho', hbs, fun h => by cases h⟩ hb
def encT (t : Trg) : List Int := b8 t.wh :: encE t.efs
def encC (c : Cd) : List Int := [b8 c.kind, b8 c.rar, b8 c.nm.size] ++ numsOf c.nm ++ [c.o0, c.o1, c.o2, c.o3].map b8 ++ [c.any, c.mak, c.pow, c.tou, c.kw].map b8 ++ encE c.efs ++ [b8 c.trs.length] ++ c.trs.flatMap encT

set_option maxRecDepth 100000 in
set_option maxHeartbeats 3200000 in
theorem ce_more (W : World) (B gB : Nat) (c : Cd) (m : CdM) (A A1 : Option Addr) (n k n1 k1 : Nat) (xs ys : List Int) (hP : Blk W gB 74 (c.cells m).toArray) (hg : gB < B) (hO : BOwns W B 5 A n k xs) (hR : BReads W A1 n1 ys) (hn1 : 0 < n1) (hBW : B ≤ W.heap.size) (hn : n + n1 ≤ 1000000) (Q : Exit → Act → World → Prop) (t0 t2 t3 t5 t6 t8 t9 t10 t11 t12 t13 t14 t15 t16 t17 t18 t19 t20 t21 t22 t23 t24 t25 t26 t27 t28 t29 t30 t31 t32 t33 t34 t35 t36 t37 t38 t39 t40 t41 t42 t43 t44 t45 t46 t47 t48 t49 t50 t51 t52 t53 t54 t55 t56 t57 t58 t59 t60 t61 t62 t63 t64 t65 t66 t67 t68 t69 t70 t71 t72 t73 t74 t75 t76 t77 t78 t79 t80 t81 t82 t83 t84 t85 t86 t87 t88 t89 t90 t91 t92 t93 t94 t95 t96 t97 t98 t99 : Value)
    (hQ : ∀ d v c a w, Q (.panic c) (Act.put a d v) w → Q (.panic c) a w)
    (hK : ∀ (u68 u69 u70 u71 u72 u73 u74 u75 u76 : Value) (A8 : Option Addr) (c8 : Nat) (W9 : World), BOwns W9 B 5 A8 (n + n1 + 1) c8 (xs ++ ys ++ [b8 c.trs.length]) ∧ Blk W9 gB 74 (c.cells m).toArray ∧ Below B W W9 → Q .normal ⟨#[t0, .pointer (some ⟨gB, 0, none⟩), t2, t3, .slice A8 (n + n1 + 1) c8, t5, t6, .slice A1 n1 k1, t8, t9, t10, t11, t12, t13, t14, t15, t16, t17, t18, t19, t20, t21, t22, t23, t24, t25, t26, t27, t28, t29, t30, t31, t32, t33, t34, t35, t36, t37, t38, t39, t40, t41, t42, t43, t44, t45, t46, t47, t48, t49, t50, t51, t52, t53, t54, t55, t56, t57, t58, t59, t60, t61, t62, t63, t64, t65, t66, t67, u68, u69, u70, u71, u72, u73, u74, u75, u76, t77, t78, t79, t80, t81, t82, t83, t84, t85, t86, t87, t88, t89, t90, t91, t92, t93, t94, t95, t96, t97, t98, t99], []⟩ W9) :
    Code.wp Tryd.prog (regOf Tryd.f25 12) Q ⟨#[t0, .pointer (some ⟨gB, 0, none⟩), t2, t3, .slice A n k, t5, t6, .slice A1 n1 k1, t8, t9, t10, t11, t12, t13, t14, t15, t16, t17, t18, t19, t20, t21, t22, t23, t24, t25, t26, t27, t28, t29, t30, t31, t32, t33, t34, t35, t36, t37, t38, t39, t40, t41, t42, t43, t44, t45, t46, t47, t48, t49, t50, t51, t52, t53, t54, t55, t56, t57, t58, t59, t60, t61, t62, t63, t64, t65, t66, t67, t68, t69, t70, t71, t72, t73, t74, t75, t76, t77, t78, t79, t80, t81, t82, t83, t84, t85, t86, t87, t88, t89, t90, t91, t92, t93, t94, t95, t96, t97, t98, t99], []⟩ W := by
  have HKK := Lib.hid hK
  clear hK
  conv => arg 2; whnf
  obtain ⟨nt, hnt⟩ : ∃ x, c.trs.length = x := ⟨_, rfl⟩
  have HNT := Lib.hid hnt
  have HP := Lib.hid hP
  have HG := Lib.hid hg
  have HO := Lib.hid hO
  have HR := Lib.hid hR
  have HN1 := Lib.hid hn1
  have HBB := Lib.hid hBW
  have HN := Lib.hid hn
  have HQ := Lib.hid hQ
  have hne_ : Nonempty (In (fun W' => Blk W' gB 74 (c.cells m).toArray)) := ⟨⟨W, hP⟩⟩
  have x12 : ∀ s : In (fun W' => Blk W' gB 74 (c.cells m).toArray), s.W.cell? ⟨gB, 12, none⟩ = some (.slice m.T.A nt m.T.c) := fun s => (s.h.at_ 12).trans (by show some (m.T.v c.trs.length) = _; rw [hnt]; rfl)
  have hgl := hP.lt
  have HBY : Hid (IsBytes [(nt : Int) % 256]) := Lib.hid (by intro x hx; rw [List.mem_singleton] at hx; omega)
  clear hP hg hO hR hn1 hBW hn hQ hnt
  refine wp_region_sched (fun w' => ∃ s : In (fun W' => Blk W' gB 74 (c.cells m).toArray), w' = s.W) [0,1,3,4,5,6] (.two 2 [] (.one 7 [] (.one 8 [9] .done)) 7 [] (.one 2 [] (.one 8 [9] .done))) (by kernel_rfl) (by kernel_rfl) HQ.out ⟨⟨_, HP.out.drew⟩, rfl⟩ ?_
  refine quiet_as (C' := (fun w' => ∃ s : In (fun W' => Blk W' gB 74 (c.cells m).toArray), w' = s.W)) rfl ?_
  simp only [opsAt, List.getElem?_toArray, List.getElem?_cons_succ, List.getElem?_cons_zero]
  repeat (go_big_quiet_step (fail))
  refine wpQuiet_nil ?_
  obtain ⟨W_d, hwd⟩ : ∃ v, W.drew = v := ⟨_, rfl⟩
  have HBW_1 : Hid (Below W.heap.size W W_d) := Lib.hid (by rw [← hwd]; exact ((Below.refl _ _)).drew)
  have HBR_1 : Hid (Below W.heap.size W W_d) := Lib.hid (by rw [← hwd]; exact (Below.refl _ _).drew)
  have FP_1 := Lib.hid ((HP.out).call (show Below W.heap.size W W_d by rw [← hwd]; exact (Below.refl _ _).drew))
  have FO_1 := Lib.hid ((HO.out).below (show Below W.heap.size W W_d by rw [← hwd]; exact (Below.refl _ _).drew))
  have FR_1 := Lib.hid ((HR.out).below (show Below W.heap.size W W_d by rw [← hwd]; exact (Below.refl _ _).drew))
  rw [hwd]
  clear hwd
  refine ⟨?_, ?_⟩
  · refine eff_as (C' := (fun w' => ∃ s : In (fun W' => Blk W' gB 74 (c.cells m).toArray), w' = s.W)) rfl ?_
    (refine eff_lit rfl rfl (fun K hK => ?_))
    refine append_bg_op (.tmp 68) (.tmp 69) 35 rfl B 5 Tryd.info5 Tryd.underlying35 A n k xs rfl FO_1.out A1 n1 k1 ys rfl FR_1.out HN1.out (by have := HN.out; omega) (Nat.le_trans HBB.out HBR_1.out.size) ?_
    intro A2 c2 W2_2 ho2 hb2 hgr2
    simp only [Act.put, List.setIfInBounds_toArray, List.set_cons_succ, List.set_cons_zero]
    have FP_3 := Lib.hid (FP_1.out.below hb2 HG.out)
    have FB_3 : Hid (Below B W W2_2) := Lib.hid ((HBR_1.out.mono HBB.out).trans hb2)
    have FO2_3 := Lib.hid ho2
    have FZ_3 : Hid (B ≤ W2_2.heap.size) := Lib.hid (Nat.le_trans HBB.out (Nat.le_trans HBR_1.out.size hb2.size))
    clear ho2 hb2 hgr2
    refine hK _ _ ⟨⟨_, FP_3.out⟩, rfl⟩ ?_
    clear hK K
    try simp only [opsAt, List.getElem?_toArray, List.getElem?_cons_succ, List.getElem?_cons_zero]
    refine wpQuiet_nil ?_
    refine eff_as (C' := (fun w' => ∃ s : In (fun W' => Blk W' gB 74 (c.cells m).toArray), w' = s.W)) rfl ?_
    (refine eff_lit rfl rfl (fun K hK => ?_))
    go_big_op
    obtain ⟨W7_4, hv7⟩ : ∃ v, W2_2.alloc (.cells #[.int .u8 ((nt : Int) % 256)] 5) = v := ⟨_, rfl⟩
    have hb7 : Below W2_2.heap.size W2_2 W7_4 := by rw [← hv7]; exact (Below.refl _ _).alloc (Nat.le_refl _) _
    obtain ⟨gL, hgL⟩ : ∃ v, W2_2.heap.size = v := ⟨_, rfl⟩
    have hk7 : Blk W7_4 gL 5 #[.int .u8 ((nt : Int) % 256)] := by rw [← hv7]; exact Blk.mk_ _ _ _ _ hgL
    rw [hv7, hgL]
    have FP_5 := Lib.hid (FP_3.out.below hb7 (Nat.lt_of_lt_of_le HG.out FZ_3.out))
    have FB_5 := Lib.hid (FB_3.out.trans (hb7.mono FZ_3.out))
    have FO2_5 := Lib.hid (FO2_3.out.below hb7)
    have FZ_5 := Lib.hid (Nat.le_trans FZ_3.out hb7.size)
    have FL_5 := Lib.hid hk7
    clear hv7 hb7 hgL hk7
    refine hK _ _ ⟨⟨_, FP_5.out⟩, rfl⟩ ?_
    clear hK K
    try simp only [opsAt, List.getElem?_toArray, List.getElem?_cons_succ, List.getElem?_cons_zero]
    refine wpQuiet_nil ?_
    refine eff_as (C' := (fun w' => ∃ s : In (fun W' => Blk W' gB 74 (c.cells m).toArray), w' = s.W)) rfl ?_
    (refine eff_lit rfl rfl (fun K hK => ?_))
    refine append_b_op (.tmp 70) (.tmp 75) 35 rfl B 5 Tryd.info5 Tryd.underlying35 A2 (n + n1) c2 (xs ++ ys) rfl FO2_5.out (some ⟨gL, 0, none⟩) 1 1 [(nt : Int) % 256] rfl (fun h => by cases h) ⟨reads_block FL_5.out 1 1 rfl, HBY.out⟩ (by have := HN.out; omega) FZ_5.out ?_
    intro A8 c8 W8_6 ho8 hb8
    simp only [Act.put, List.setIfInBounds_toArray, List.set_cons_succ, List.set_cons_zero]
    have FP_7 := Lib.hid (FP_5.out.below hb8 HG.out)
    have FB_7 := Lib.hid (FB_5.out.trans hb8)
    refine hK _ _ ⟨⟨_, FP_7.out⟩, rfl⟩ ?_
    clear hK K
    try simp only [opsAt, List.getElem?_toArray, List.getElem?_cons_succ, List.getElem?_cons_zero]
    repeat (go_big_quiet_step (fail))
    refine wpQuiet_nil ?_
    refine effs_done ?_
    refine HKK.out _ _ _ _ _ _ _ _ _ A8 c8 _ ⟨by (rw [HNT.out]; exact ho8), FP_7.out, FB_7.out⟩
  · refine eff_as (C' := (fun w' => ∃ s : In (fun W' => Blk W' gB 74 (c.cells m).toArray), w' = s.W)) rfl ?_
    (refine eff_lit rfl rfl (fun K hK => ?_))
    go_big_op
    obtain ⟨W_8, hvW_8⟩ : ∃ v, (W_d.alloc (.cells #[.int .u8 ((nt : Int) % 256)] 5)) = v := ⟨_, rfl⟩
    have hbW_8 : Below W_d.heap.size W_d W_8 := by rw [← hvW_8]; exact (Below.refl _ _).alloc (Nat.le_refl _) _
    obtain ⟨gL, hggL⟩ : ∃ v, W_d.heap.size = v := ⟨_, rfl⟩
    have hkW_8 : Blk W_8 gL 5 #[.int .u8 ((nt : Int) % 256)] := by rw [← hvW_8]; exact Blk.mk_ _ _ _ _ hggL
    have HNgL0 : Hid (W.heap.size ≤ gL ∧ W.heap.size ≤ gL) := Lib.hid ⟨by rw [← hggL]; exact HBR_1.out.size, by rw [← hggL]; exact HBW_1.out.size⟩
    rw [hvW_8, hggL]
    have FL_9 := Lib.hid (hkW_8)
    have HBW_9 := Lib.hid (below_call HBW_1.out hbW_8 HBW_1.out.size)
    clear HBW_1
    have HBR_9 := Lib.hid (below_call HBR_1.out hbW_8 HBR_1.out.size)
    clear HBR_1
    have FP_9 := Lib.hid (FP_1.out.call hbW_8)
    clear FP_1
    have FO_9 := Lib.hid (FO_1.out.below hbW_8)
    clear FO_1
    have FR_9 := Lib.hid (FR_1.out.below hbW_8)
    clear FR_1
    clear hkW_8 hvW_8 hggL hbW_8
    have HNgL : Hid (W.heap.size ≤ gL) := Lib.hid (HNgL0.out.1)
    refine hK _ _ ⟨⟨_, FP_9.out⟩, rfl⟩ ?_
    clear hK K
    try simp only [opsAt, List.getElem?_toArray, List.getElem?_cons_succ, List.getElem?_cons_zero]
    refine wpQuiet_nil ?_
    refine eff_as (C' := (fun w' => ∃ s : In (fun W' => Blk W' gB 74 (c.cells m).toArray), w' = s.W)) rfl ?_
    (refine eff_lit rfl rfl (fun K hK => ?_))
    refine append_bg_op (.tmp 68) (.tmp 69) 35 rfl B 5 Tryd.info5 Tryd.underlying35 A n k xs rfl FO_9.out A1 n1 k1 ys rfl FR_9.out HN1.out (by have := HN.out; omega) (Nat.le_trans HBB.out HBR_9.out.size) ?_
    intro A2 c2 W2_10 ho2 hb2 hgr2
    simp only [Act.put, List.setIfInBounds_toArray, List.set_cons_succ, List.set_cons_zero]
    have FP_11 := Lib.hid (FP_9.out.below hb2 HG.out)
    have FB_11 : Hid (Below B W W2_10) := Lib.hid ((HBR_9.out.mono HBB.out).trans hb2)
    have FO2_11 := Lib.hid ho2
    have FL_11 := Lib.hid (FL_9.out.grown hgr2 (fun e => by have := own_lt HO.out gL e.symm; have := HNgL.out; omega))
    have FZ_11 : Hid (B ≤ W2_10.heap.size) := Lib.hid (Nat.le_trans HBB.out (Nat.le_trans HBR_9.out.size hb2.size))
    clear ho2 hb2 hgr2
    refine hK _ _ ⟨⟨_, FP_11.out⟩, rfl⟩ ?_
    clear hK K
    try simp only [opsAt, List.getElem?_toArray, List.getElem?_cons_succ, List.getElem?_cons_zero]
    refine wpQuiet_nil ?_
    refine eff_as (C' := (fun w' => ∃ s : In (fun W' => Blk W' gB 74 (c.cells m).toArray), w' = s.W)) rfl ?_
    (refine eff_lit rfl rfl (fun K hK => ?_))
    refine append_b_op (.tmp 70) (.tmp 75) 35 rfl B 5 Tryd.info5 Tryd.underlying35 A2 (n + n1) c2 (xs ++ ys) rfl FO2_11.out (some ⟨gL, 0, none⟩) 1 1 [(nt : Int) % 256] rfl (fun h => by cases h) ⟨reads_block FL_11.out 1 1 rfl, HBY.out⟩ (by have := HN.out; omega) FZ_11.out ?_
    intro A8 c8 W8_12 ho8 hb8
    simp only [Act.put, List.setIfInBounds_toArray, List.set_cons_succ, List.set_cons_zero]
    have FP_13 := Lib.hid (FP_11.out.below hb8 HG.out)
    have FB_13 := Lib.hid (FB_11.out.trans hb8)
    refine hK _ _ ⟨⟨_, FP_13.out⟩, rfl⟩ ?_
    clear hK K
    try simp only [opsAt, List.getElem?_toArray, List.getElem?_cons_succ, List.getElem?_cons_zero]
    repeat (go_big_quiet_step (fail))
    refine wpQuiet_nil ?_
    refine effs_done ?_
    refine HKK.out _ _ _ _ _ _ _ _ _ A8 c8 _ ⟨by (rw [HNT.out]; exact ho8), FP_13.out, FB_13.out⟩


theorem encE_len (l : List Ef) : (encE l).length = 1 + 5 * l.length := by
  unfold encE
  induction l with
  | nil => rfl
  | cons a l ih => simp [ef5] at ih ⊢; omega
theorem encE_le {l : List Ef} (h : efsOk l = true) : (encE l).length ≤ 21 := by
  rw [encE_len]
  unfold efsOk at h
  simp only [Bool.and_eq_true, decide_eq_true_eq] at h
  omega
theorem cdOk_trs {c : Cd} (h : cdOk c = true) : c.trs.length ≤ 2 ∧ ∀ t ∈ c.trs, efsOk t.efs = true := by
  unfold cdOk kindOk at h
  simp only [Bool.and_eq_true] at h
  have h1 := h.2
  have still : stillS c = true → c.trs = [] := fun hs => by
    unfold stillS at hs
    simp only [Bool.and_eq_true, beq_iff_eq] at hs
    exact List.eq_nil_of_length_eq_zero (by have := hs.2; omega)
  split at h1
  · simp only [Bool.and_eq_true] at h1
    rw [still h1.2]
    exact ⟨by simp, fun t ht => by cases ht⟩
  · split at h1
    · simp only [Bool.and_eq_true] at h1
      have h2 := h1.2
      unfold trgOk at h2
      simp only [Bool.and_eq_true, decide_eq_true_eq, List.all_eq_true, List.mem_range] at h2
      refine ⟨h2.2, fun t ht => ?_⟩
      obtain ⟨k, hk, rfl⟩ := List.getElem_of_mem ht
      have h3 := h2.1 k hk
      unfold trgAt at h3
      rw [List.getElem?_eq_getElem hk] at h3
      unfold trgFine at h3
      simp only [Bool.and_eq_true] at h3
      first | exact h3.1.2 | exact h3.1.1 | exact h3.1.1.2 | exact h3.1.2.2 | exact h3.1.2.1
    · split at h1
      · simp only [Bool.and_eq_true] at h1
        rw [still h1.2]
        exact ⟨by simp, fun t ht => by cases ht⟩
      · cases h1

set_option maxRecDepth 100000 in
set_option maxHeartbeats 6400000 in
theorem cenc_any (c : Cd) (m : CdM) (w : World) (h : CdR w c m) (hok : cdOk c = true) (hnm : c.nm.size ≤ 100000) : Calls Tryd.prog 25 #[.agg (c.cells m).toArray] w fun e w' => ∃ A n k, e = .returned (.tuple #[.slice A n k, .int .i64 0]) ∧ BOwns w' (w.heap.size + 1) 5 A n k (encC c) ∧ Below w.heap.size w w' := by
  obtain ⟨W1, hW1⟩ : ∃ z, w.alloc (.cells (c.cells m).toArray 74) = z := ⟨_, rfl⟩
  obtain ⟨gB, hgB⟩ : ∃ z, w.heap.size = z := ⟨_, rfl⟩
  have hP1 : Blk W1 gB 74 (c.cells m).toArray := by rw [← hW1]; exact Blk.mk_ _ _ _ _ hgB
  have hb1 : Below w.heap.size w W1 := by rw [← hW1]; exact (Below.refl _ _).alloc (Nat.le_refl _) _
  have hs1 : W1.heap.size = gB + 1 := by rw [← hW1]; simp [hgB]
  have hld : (Instr.loadAt 74 (.pointer (some ⟨gB, 0, none⟩))).run Tryd.prog W1 = .ok (.agg (c.cells m).toArray) W1 := hP1.mid (o := 0) (ty := 74) (c.cells m) _ (fun j v hj => by rw [Nat.zero_add]; simpa using hj) Tryd.underlying74 rfl (by rw [size_card]; rfl)
  have HX := Lib.hid h
  have HV := Lib.hid (cv_any c m W1 (h.below hb1))
  rw [hok] at HV
  have HCL : Hid (∀ W, Blk W gB 74 (c.cells m).toArray → W.cell? ⟨gB, 0, none⟩ = some (.string c.nm) ∧ W.cell? ⟨gB, 1, none⟩ = some (.int .i64 c.kind) ∧ W.cell? ⟨gB, 13, none⟩ = some (.int .i64 c.rar)
    ∧ (W.cell? ⟨gB, 2, none⟩ = some (.int .i64 c.o0) ∧ W.cell? ⟨gB, 3, none⟩ = some (.int .i64 c.o1) ∧ W.cell? ⟨gB, 4, none⟩ = some (.int .i64 c.o2) ∧ W.cell? ⟨gB, 5, none⟩ = some (.int .i64 c.o3))
    ∧ (W.cell? ⟨gB, 6, none⟩ = some (.int .i64 c.any) ∧ W.cell? ⟨gB, 7, none⟩ = some (.int .i64 c.mak) ∧ W.cell? ⟨gB, 8, none⟩ = some (.int .i64 c.pow) ∧ W.cell? ⟨gB, 9, none⟩ = some (.int .i64 c.tou) ∧ W.cell? ⟨gB, 10, none⟩ = some (.int .i64 c.kw))
    ∧ W.cell? ⟨gB, 11, none⟩ = some (.slice m.E.A c.efs.length m.E.c) ∧ W.cell? ⟨gB, 12, none⟩ = some (.slice m.T.A c.trs.length m.T.c)) := Lib.hid fun W hb => ⟨(hb.at_ 0).trans rfl, (hb.at_ 1).trans rfl, (hb.at_ 13).trans rfl, ⟨(hb.at_ 2).trans rfl, (hb.at_ 3).trans rfl, (hb.at_ 4).trans rfl, (hb.at_ 5).trans rfl⟩, ⟨(hb.at_ 6).trans rfl, (hb.at_ 7).trans rfl, (hb.at_ 8).trans rfl, (hb.at_ 9).trans rfl, (hb.at_ 10).trans rfl⟩, (hb.at_ 11).trans rfl, (hb.at_ 12).trans rfl⟩
  have HE4 : Hid (efsOk c.efs = true) := Lib.hid (by unfold cdOk at hok; simp only [Bool.and_eq_true] at hok; exact hok.1.2)
  have HP1 := Lib.hid hP1
  have HB1 := Lib.hid hb1
  have HS1 := Lib.hid hs1
  have HLD := Lib.hid hld
  have HG := Lib.hid hgB
  have HNS := Lib.hid hnm
  obtain ⟨cs, hcs⟩ : ∃ x, (c.cells m).toArray = x := ⟨_, rfl⟩
  have HCS := Lib.hid hcs
  have HOK := Lib.hid hok
  rw [hcs] at hW1 HLD HV HP1 ⊢
  rw [hcs] at HCL
  obtain ⟨nb, hnb⟩ : ∃ x, c.nm.size = x := ⟨_, rfl⟩
  have HNB := Lib.hid hnb
  clear h hP1 hb1 hs1 hld hok hnm hcs hnb
  go_enter Tryd.func25, Tryd.ntmps25
  go_wp2_with (first | (refine wpList_load_by HLD.out rfl rfl rfl ?_; simp only [Act.put, List.setIfInBounds_toArray, List.set_cons_succ, List.set_cons_zero]) | fail)
  refine HV.out.mono ?_
  rintro e W2 ⟨rfl, hb2⟩
  have HP2 := Lib.hid (HP1.out.call hb2)
  have HB2 := Lib.hid (below_call HB1.out hb2 HB1.out.size)
  have HZ2 : Hid (gB + 1 ≤ W2.heap.size) := Lib.hid (by have := hb2.size; have := HS1.out; omega)
  have hl3 : BOwns (W2.alloc (.cells #[.int .u8 (c.kind % 256), .int .u8 (c.rar % 256), .int .u8 ((nb : Int) % 256)] 5)) (gB + 1) 5 (some ⟨W2.heap.size, 0, none⟩) 3 3 [c.kind % 256, c.rar % 256, (nb : Int) % 256] := BOwns.lit W2 (gB + 1) 5 [c.kind % 256, c.rar % 256, (nb : Int) % 256] W2.heap.size 3 (fun x hx => by simp only [List.mem_cons, List.not_mem_nil, or_false] at hx; omega) rfl rfl HZ2.out (by decide)
  obtain ⟨W3, hW3⟩ : ∃ z, W2.alloc (.cells #[.int .u8 (c.kind % 256), .int .u8 (c.rar % 256), .int .u8 ((nb : Int) % 256)] 5) = z := ⟨_, rfl⟩
  rw [hW3] at hl3
  have hb3 : Below (gB + 1) W2 W3 := by rw [← hW3]; exact (Below.refl _ _).alloc HZ2.out _
  have HO3 := Lib.hid hl3
  have HP3 := Lib.hid (HP2.out.below hb3 (Nat.lt_succ_self gB))
  have HB3 : Hid (Below (gB + 1) W1 W3) := Lib.hid ((hb2.mono (Nat.le_of_eq HS1.out.symm)).trans hb3)
  obtain ⟨e0, e1, e13, -, -, -, -⟩ := HCL.out W2 HP2.out
  obtain ⟨f0, -, -, -, -, -, -⟩ := HCL.out W3 HP3.out
  have HLEN : ((c.nm.size : Nat) : Int) = (nb : Int) := by rw [HNB.out]
  clear hb2 hl3 hb3
  go_wp2_with (first
    | (at_builtin; (refine append_text _ rfl (.tmp 27) (.tmp 29) 35 9 rfl (gB + 1) 5 Tryd.info5 Tryd.underlying35 Tryd.underlying9 (some ⟨W2.heap.size, 0, none⟩) 3 3 _ rfl HO3.out c.nm rfl (by have := HNS.out; omega) (by have := HB3.out.size; have := HS1.out; omega) ?_); intro A4 k4 W4 ho4 hb4
       have HP4 := Lib.hid (HP3.out.below hb4 (Nat.lt_succ_self gB))
       have HB4 : Hid (Below (gB + 1) W1 W4) := Lib.hid (HB3.out.trans hb4)
       have HO4 : Hid (BOwns W4 (gB + 1) 5 A4 (3 + nb) k4 ([b8 c.kind, b8 c.rar, b8 nb] ++ numsOf c.nm)) := Lib.hid (by have := ho4; rw [HNB.out] at this; exact this)
       obtain ⟨-, -, -, ⟨e2, e3, e4, e5⟩, -, -, -⟩ := HCL.out W4 HP4.out
       clear ho4 hb4)
    | fail)
  obtain ⟨l4, hl4⟩ : ∃ x, [c.o0, c.o1, c.o2, c.o3] = x := ⟨_, rfl⟩
  obtain ⟨X4, hX4⟩ : ∃ x, [b8 c.kind, b8 c.rar, b8 nb] ++ numsOf c.nm = x := ⟨_, rfl⟩
  rw [hX4] at HO4
  have HX4 := Lib.hid hX4
  have HL4 := Lib.hid hl4
  have HNX : Hid (X4.length = 3 + nb) := Lib.hid HO4.out.length
  have HLN : Hid (l4.length = 4) := Lib.hid (by rw [← hl4]; rfl)
  have HI : Hid (∀ k : Nat, k < 4 → ∀ w, (Instr.index 66 (.agg #[.int .i64 c.o0, .int .i64 c.o1, .int .i64 c.o2, .int .i64 c.o3]) (.int .i64 k)).run Tryd.prog w = .ok (.int .i64 (ith l4 k)) w) := Lib.hid (fun k hk w => by rw [← hl4]; exact mn_idx c.o0 c.o1 c.o2 c.o3 hk w)
  clear hX4 hl4 e0 e1 e13 f0 e2 e3 e4 e5 HO3 HP3 HB3 HP2 HB2 HZ2 hW3
  go_loopw [4, 34] (fun v i W => ∃ (k n2 : Nat) (A2 : Option Addr) (c2 : Nat), k ≤ 4 ∧ i = .int .i64 k ∧ v = .slice A2 n2 c2 ∧ Hid (n2 = 3 + nb + k) ∧ Hid (BOwns W (gB + 1) 5 A2 n2 c2 (X4 ++ (l4.take k).map b8)) ∧ Hid (Blk W gB 74 cs) ∧ Hid (Below (gB + 1) W1 W)) (fun _ i _ => 4 - (intOf i).toNat)
  case atStart => exact ⟨0, 3 + c.nm.size, A4, k4, Nat.zero_le _, rfl, rfl, Lib.hid (by rw [HNB.out]; omega), Lib.hid (by rw [HNB.out]; simpa using HO4.out), HP4, HB4⟩
  case round =>
    clear HO4 HP4 HB4
    obtain ⟨k, n2, A2, c2, hk, rfl, rfl, HN2, HO, HP, HB⟩ := hrel
    by_cases hlt : k < 4
    · have hlt' : (k : Int) < 4 := by omega
      have hix := HI.out k hlt
      obtain ⟨x, hx⟩ : ∃ x, ith l4 k = x := ⟨_, rfl⟩
      have HXK : Hid (l4[k]? = some x) := Lib.hid (by rw [← hx]; unfold ith; rw [List.getD_eq_getElem?_getD, List.getElem?_eq_getElem (by rw [HLN.out]; exact hlt)]; rfl)
      rw [hx] at hix
      have HSN : Hid ((l4.take (k + 1)).map b8 = (l4.take k).map b8 ++ [x % 256]) := Lib.hid (by rw [take_snoc HXK.out]; simp [b8])
      have hz := HB.out.size
      have HZ : Hid (gB + 1 ≤ wr.heap.size) := Lib.hid (by have := HS1.out; omega)
      have HO1 : Hid (BOwns (wr.alloc (.cells #[.int .u8 (x % 256)] 5)) (gB + 1) 5 A2 n2 c2 (X4 ++ (l4.take k).map b8)) := Lib.hid (HO.out.alloc _)
      have HB5 : Hid (Below (gB + 1) W1 (wr.alloc (.cells #[.int .u8 (x % 256)] 5))) := Lib.hid (HB.out.alloc HZ.out _)
      have HP5 : Hid (Blk (wr.alloc (.cells #[.int .u8 (x % 256)] 5)) gB 74 cs) := Lib.hid (HP.out.below ((Below.refl _ _).alloc HZ.out _) (Nat.lt_succ_self gB))
      have HRD : Hid (BReads (wr.alloc (.cells #[.int .u8 (x % 256)] 5)) (some ⟨wr.heap.size, 0, none⟩) 1 [x % 256]) := Lib.hid (BReads.lit wr 5 [x % 256] wr.heap.size 1 (fun y hy => by rw [List.mem_singleton] at hy; omega) rfl rfl)
      clear hx hz HO HB HP
      go_wp2_with (first
        | (at_builtin; (refine append_bytes _ rfl (.tmp 37) (.tmp 40) 35 rfl (gB + 1) 5 Tryd.info5 Tryd.underlying35 A2 n2 c2 _ rfl HO1.out (some ⟨wr.heap.size, 0, none⟩) 1 1 _ rfl (fun h => by cases h) HRD.out (by have := HN2.out; have := HNS.out; have := HNB.out; omega) (Nat.le_trans HZ.out (by simp)) ?_); intro A3 c3 w3 ho3 hb3)
        | fail)
      have HO3 : Hid (BOwns w3 (gB + 1) 5 A3 (n2 + 1) c3 (X4 ++ (l4.take (k + 1)).map b8)) := Lib.hid (by rw [HSN.out, ← List.append_assoc]; exact ho3)
      have HB3 : Hid (Below (gB + 1) W1 w3) := Lib.hid (HB5.out.trans hb3)
      have HP3 : Hid (Blk w3 gB 74 cs) := Lib.hid (HP5.out.below hb3 (Nat.lt_succ_self gB))
      clear ho3 hb3
      go_wp2
      go_roundw
      case rel => exact ⟨k + 1, n2 + 1, A3, c3, hlt, by go_num, rfl, Lib.hid (by have := HN2.out; omega), HO3, HP3, HB3⟩
      case measure => simp [intOf]; omega
    · obtain rfl : k = 4 := by omega
      have HO5 : Hid (BOwns wr (gB + 1) 5 A2 n2 c2 (X4 ++ l4.map b8)) := Lib.hid (by
        have := HO.out
        rw [List.take_of_length_le (by rw [HLN.out]; exact Nat.le_refl _)] at this
        exact this)
      clear hk HO
      have HN5 : Hid (n2 = 7 + nb) := Lib.hid (by have := HN2.out; omega)
      obtain ⟨X5, hX5⟩ : ∃ x, X4 ++ l4.map b8 = x := ⟨_, rfl⟩
      rw [hX5] at HO5
      have HX5 := Lib.hid hX5
      have HZ : Hid (gB + 1 ≤ wr.heap.size) := Lib.hid (by have := HB.out.size; have := HS1.out; omega)
      obtain ⟨-, -, -, -, ⟨e6, e7, e8, e9, e10⟩, -, -⟩ := HCL.out wr HP.out
      obtain ⟨W6, hW6⟩ : ∃ z, wr.alloc (.cells #[.int .u8 (c.any % 256), .int .u8 (c.mak % 256), .int .u8 (c.pow % 256), .int .u8 (c.tou % 256), .int .u8 (c.kw % 256)] 5) = z := ⟨_, rfl⟩
      have hb6 : Below (gB + 1) wr W6 := by rw [← hW6]; exact (Below.refl _ _).alloc HZ.out _
      have HO6 : Hid (BOwns W6 (gB + 1) 5 A2 n2 c2 X5) := Lib.hid (by rw [← hW6]; exact HO5.out.alloc _)
      have HB6 : Hid (Below (gB + 1) W1 W6) := Lib.hid (HB.out.trans hb6)
      have HP6 : Hid (Blk W6 gB 74 cs) := Lib.hid (HP.out.below hb6 (Nat.lt_succ_self gB))
      have HRD : Hid (BReads W6 (some ⟨wr.heap.size, 0, none⟩) 5 [c.any % 256, c.mak % 256, c.pow % 256, c.tou % 256, c.kw % 256]) := Lib.hid (by rw [← hW6]; exact BReads.lit wr 5 [c.any % 256, c.mak % 256, c.pow % 256, c.tou % 256, c.kw % 256] wr.heap.size 5 (fun y hy => by simp only [List.mem_cons, List.not_mem_nil, or_false] at hy; omega) rfl rfl)
      have HZ6 : Hid (gB + 1 ≤ W6.heap.size) := Lib.hid (by have := HB6.out.size; have := HS1.out; omega)
      clear hX5 hb6 HO5
      go_wp2_with (first
        | (at_builtin; (refine append_bytes _ rfl (.tmp 43) (.tmp 60) 35 rfl (gB + 1) 5 Tryd.info5 Tryd.underlying35 A2 n2 c2 _ rfl HO6.out (some ⟨wr.heap.size, 0, none⟩) 5 5 _ rfl (fun h => by cases h) HRD.out (by have := HN5.out; have := HNS.out; have := HNB.out; omega) HZ6.out ?_); intro A7 k7 W7 ho7 hb7
           have HP7 : Hid (Blk W7 gB 74 cs) := Lib.hid (HP6.out.below hb7 (Nat.lt_succ_self gB))
           have HB7 : Hid (Below (gB + 1) W1 W7) := Lib.hid (HB6.out.trans hb7)
           have HO7 := Lib.hid ho7
           obtain ⟨-, -, -, -, -, e11, -⟩ := HCL.out W7 HP7.out
           clear ho7 hb7)
        | fail)
      have HB7' : Hid (Below w.heap.size w W7) := Lib.hid (below_call HB1.out (by have := HB7.out; rw [← HS1.out] at this; exact this) HB1.out.size)
      have HEE := Lib.hid (eenc_any m.E c.efs W7 (HX.out.E.below HB7'.out) HE4.out)
      clear HRD HO6 HB6 HP6 HZ6 HP HB HZ e6 e7 e8 e9 e10 e11
      refine HEE.out.mono ?_
      rintro e W8 ⟨A8, n8, k8, rfl, ho8, hb8⟩
      have HP8 : Hid (Blk W8 gB 74 (c.cells m).toArray) := Lib.hid (by rw [HCS.out]; exact HP7.out.call hb8)
      have HO8 := Lib.hid (HO7.out.below hb8)
      have HR8 := Lib.hid ho8.reads
      have HN8 : Hid (n8 = (encE c.efs).length) := Lib.hid ho8.length.symm
      have hz7 : gB + 1 ≤ W7.heap.size := by have := HB7.out.size; have := HS1.out; omega
      have HB8 : Hid (Below (gB + 1) W1 W8) := Lib.hid (HB7.out.trans (hb8.mono hz7))
      have HZ8 : Hid (gB + 1 ≤ W8.heap.size) := Lib.hid (Nat.le_trans hz7 hb8.size)
      clear ho8 hb8 hz7 HEE
      have HN9 : Hid (n8 ≤ 21) := Lib.hid (by rw [HN8.out]; exact encE_le HE4.out)
      have hq8 : 0 < n8 := by rw [HN8.out, encE_len]; omega
      go_wp2_with fail
      refine ce_more W8 (gB + 1) gB c m A7 A8 (n2 + 5) k7 n8 k8 _ _ HP8.out (Nat.lt_succ_self gB) HO8.out HR8.out hq8 HZ8.out (by have := HN9.out; have := HN5.out; have := HNS.out; have := HNB.out; omega) _ _ _ _ _ _ _ _ _ _ _ _ _ _ _ _ _ _ _ _ _ _ _ _ _ _ _ _ _ _ _ _ _ _ _ _ _ _ _ _ _ _ _ _ _ _ _ _ _ _ _ _ _ _ _ _ _ _ _ _ _ _ _ _ _ _ _ _ _ _ _ _ _ _ _ _ _ _ _ _ _ _ _ _ _ _ _ _ _ _ _ _ _ _ _ _ _ _ ?_ ?_
      · exact fun d _ _ _ _ h => by cases d <;> exact h
      intro v12_68 v12_69 v12_70 v12_71 v12_72 v12_73 v12_74 v12_75 v12_76 A9 k9 W9 ⟨ho9, hp9, hb9⟩
      have HP9 : Hid (Blk W9 gB 74 cs) := Lib.hid (by have := hp9; rw [HCS.out] at this; exact this)
      have HB9 : Hid (Below (gB + 1) W1 W9) := Lib.hid (HB8.out.trans hb9)
      obtain ⟨X9, hX9⟩ : ∃ x, X5 ++ [c.any % 256, c.mak % 256, c.pow % 256, c.tou % 256, c.kw % 256] ++ encE c.efs ++ [b8 c.trs.length] = x := ⟨_, rfl⟩
      have HX9 := Lib.hid hX9
      obtain ⟨n9, hn9⟩ : ∃ x, n2 + 5 + n8 + 1 = x := ⟨_, rfl⟩
      rw [hX9, hn9] at ho9
      have HN9' : Hid (n9 ≤ 100034) := Lib.hid (by have := HN9.out; have := HN5.out; have := HNS.out; have := HNB.out; omega)
      rw [hn9]
      have HO9 := Lib.hid ho9
      have HTK := Lib.hid (cdOk_trs HOK.out)
      obtain ⟨TT, hTT⟩ : ∃ x, m.T = x := ⟨_, rfl⟩
      have HXT := HX.out.T
      rw [hTT] at HXT
      have HXT := Lib.hid HXT
      obtain ⟨nt, hnt⟩ : ∃ x, c.trs.length = x := ⟨_, rfl⟩
      obtain ⟨-, -, -, -, -, -, e12⟩ := HCL.out W9 HP9.out
      rw [hTT, hnt] at e12
      obtain ⟨TA, Tc⟩ := TT
      simp only at e12
      have HNT := Lib.hid hnt
      obtain ⟨l, hl⟩ : ∃ x, c.trs = x := ⟨_, rfl⟩
      have HL := Lib.hid hl
      rw [hl] at HXT HTK HNT
      clear hl hnt hTT ho9 hp9 hb9 hX9 hn9 HP8 HO8 HR8 HN8 HB8 HZ8 HN9 hq8 HO7 HP7 HB7 HB7'
      go_wp2_with fail
      clear e12
      go_loopw [4, 80] (fun v i W => ∃ (k n2 : Nat) (A2 : Option Addr) (c2 : Nat), k ≤ nt ∧ i = .int .i64 k ∧ v = .slice A2 n2 c2 ∧ Hid (n2 ≤ 100034 + 22 * k) ∧ Hid (BOwns W (gB + 1) 5 A2 n2 c2 (X9 ++ (l.take k).flatMap encT)) ∧ Hid (Below (gB + 1) W1 W)) (fun _ i _ => nt - (intOf i).toNat)
      case atStart => exact ⟨0, n9, A9, k9, Nat.zero_le _, rfl, rfl, Lib.hid (by have := HN9'.out; omega), Lib.hid (by simpa using HO9.out), HB9⟩
      case round =>
        clear HO9 HP9 HB9 HN9'
        obtain ⟨k, n2, A2, c2, hk, rfl, rfl, HN2, HO, HB⟩ := hrel
        by_cases hlt : k < nt
        · have hlt' : (k : Int) < nt := by omega
          obtain ⟨t, ht⟩ := get_of (l := l) (k := k) (by rw [HNT.out]; exact hlt)
          have HSN := Lib.hid (flat_snoc (f := encT) ht)
          have HOT := Lib.hid (HTK.out.2 t (List.mem_of_getElem? ht))
          have HK2 : Hid (nt ≤ 2) := Lib.hid (by have := HTK.out.1; rw [HNT.out] at this; exact this)
          have HBw : Hid (Below w.heap.size w wr) := Lib.hid (below_call HB1.out (by have := HB.out; rw [← HS1.out] at this; exact this) HB1.out.size)
          obtain ⟨u, ad, -, e9, -, c0, c1, hE⟩ := (HXT.out.below HBw.out).at2 ht
          simp only at e9
          subst e9
          obtain ⟨wh, efs⟩ := t
          simp only [encT, b8] at HSN HOT c0 c1 hE
          obtain ⟨w2, hw2⟩ : ∃ w2, wr.alloc (.cells #[.int .i64 wh, .slice u.A efs.length u.c] 112) = w2 := ⟨_, rfl⟩
          have hz := HB.out.size
          have hz1 : gB + 1 ≤ wr.heap.size := by have := HS1.out; omega
          have hb2 : Below wr.heap.size wr w2 := hw2 ▸ (Below.refl _ _).alloc (Nat.le_refl _) _
          have hk2 : Blk w2 wr.heap.size 112 #[.int .i64 wh, .slice u.A efs.length u.c] := hw2 ▸ Blk.mk_ _ _ _ _ rfl
          have HKT := Lib.hid hk2
          have HBB2 : Hid (Below (gB + 1) W1 w2) := Lib.hid (HB.out.trans (hb2.mono hz1))
          have HOO2 := Lib.hid (HO.out.below hb2)
          have HEC := Lib.hid (eenc_any u efs w2 (hE.below hb2) HOT.out)
          have x1 : w2.cell? ⟨wr.heap.size, 1, none⟩ = some (.slice u.A efs.length u.c) := (hk2.at_ 1).trans rfl
          have HZ1 := Lib.hid hz1
          clear ht hz hz1 hb2 hk2 hE HO HB HBw
          go_wp2_with fail
          refine HEC.out.mono ?_
          rintro e w3 ⟨A3, n3, k3, rfl, ho3, hb3⟩
          have x0 : w3.cell? ⟨wr.heap.size, 0, none⟩ = some (.int .i64 wh) := ((HKT.out.call hb3).at_ 0).trans rfl
          have hz3 : gB + 1 ≤ w3.heap.size := by have := HBB2.out.size; have := HS1.out; have := hb3.size; omega
          have hz2 : gB + 1 ≤ w2.heap.size := by have := HBB2.out.size; have := HS1.out; omega
          have HB3 : Hid (Below (gB + 1) W1 w3) := Lib.hid (HBB2.out.trans (hb3.mono hz2))
          obtain ⟨w4, hw4⟩ : ∃ z, w3.alloc (.cells #[.int .u8 (wh % 256)] 5) = z := ⟨_, rfl⟩
          have hb4 : Below (gB + 1) w3 w4 := hw4 ▸ (Below.refl _ _).alloc hz3 _
          have hb4' : Below w3.heap.size w3 w4 := hw4 ▸ (Below.refl _ _).alloc (Nat.le_refl _) _
          have HO4 := Lib.hid ((HOO2.out.below hb3).below hb4')
          have HR4 : Hid (BReads w4 (some ⟨w3.heap.size, 0, none⟩) 1 [wh % 256]) := Lib.hid (hw4 ▸ BReads.lit w3 5 [wh % 256] w3.heap.size 1 (fun y hy => by rw [List.mem_singleton] at hy; omega) rfl rfl)
          have HE4' := Lib.hid (ho3.below hb4')
          have HL3 : Hid (n3 ≤ 21) := Lib.hid (by have := ho3.length; have := encE_le HOT.out; omega)
          have HB4 : Hid (Below (gB + 1) W1 w4) := Lib.hid (HB3.out.trans hb4)
          have HZ4 : Hid (gB + 1 ≤ w4.heap.size) := Lib.hid (Nat.le_trans hz3 hb4.size)
          have HZ3 : Hid (gB + 1 ≤ w2.heap.size) := Lib.hid hz2
          have HNE : Hid (0 < n3 → blkOf A3 ≠ blkOf A2) := Lib.hid (fun hn he => by
            obtain ⟨ad3, hA3, -, -⟩ := ho3.reads.1.2 hn
            have h1 := own_blk ho3 ad3.block (by rw [hA3]; rfl)
            have h2 := own_lt HOO2.out ad3.block (by rw [← he, hA3]; rfl)
            omega)
          clear hz2 hz3 hb4 hb4' ho3
          have hk9 : (k : Int) < 3 := by have := HK2.out; omega
          go_wp2_with (first
            | (at_builtin; (refine append_bytes_at _ rfl (.tmp 90) (.tmp 94) 35 rfl (gB + 1) 5 Tryd.info5 Tryd.underlying35 A2 n2 c2 _ rfl HO4.out (some ⟨w3.heap.size, 0, none⟩) 1 1 _ rfl HR4.out (by decide) (by have := HN2.out; have := HK2.out; omega) HZ4.out w4.heap.size rfl ?_); intro g5 k5 w5 ho5 hg5 _ _
               have HO5 := Lib.hid ho5
               have hb5 := grown_below hg5 HZ4.out (own_blk HO4.out)
               have HB5 : Hid (Below (gB + 1) W1 w5) := Lib.hid (HB4.out.trans hb5)
               have HR5 := Lib.hid (HE4'.out.reads.grown hg5 HNE.out)
               have HZ5 : Hid (gB + 1 ≤ w5.heap.size) := Lib.hid (Nat.le_trans HZ4.out hb5.size)
               clear ho5 hg5 hb5)
            | (at_builtin; (refine append_bytes _ rfl (.tmp 95) (.tmp 96) 35 rfl (gB + 1) 5 Tryd.info5 Tryd.underlying35 (some ⟨g5, 0, none⟩) (n2 + 1) k5 _ rfl HO5.out A3 n3 k3 _ rfl HE4'.out.2.2 HR5.out (by have := HN2.out; have := HK2.out; have := HL3.out; omega) HZ5.out ?_); intro A6 k6 w6 ho6 hb6)
            | fail)
          have HO6 : Hid (BOwns w6 (gB + 1) 5 A6 (n2 + 1 + n3) k6 (X9 ++ (l.take (k + 1)).flatMap encT)) := Lib.hid (by
            rw [HSN.out]
            have := ho6
            simp only [List.append_assoc, List.cons_append, List.nil_append] at this ⊢
            exact this)
          have HB6 : Hid (Below (gB + 1) W1 w6) := Lib.hid (HB5.out.trans hb6)
          clear ho6 hb6
          go_wp2
          go_roundw
          case rel => exact ⟨k + 1, n2 + 1 + n3, A6, k6, hlt, by go_num, rfl, Lib.hid (by have := HN2.out; have := HL3.out; omega), HO6, HB6⟩
          case measure => simp [intOf]; omega
        · obtain rfl : k = nt := by omega
          have HE : Hid (BOwns wr (w.heap.size + 1) 5 A2 n2 c2 (encC c)) := Lib.hid (by
            have := HO.out
            rw [List.take_of_length_le (by rw [HNT.out]; exact Nat.le_refl _), ← HX9.out, ← HX5.out, ← HX4.out, ← HL4.out, ← HL.out] at this
            rw [hgB]
            unfold encC
            rw [HNB.out]
            exact this)
          have HBF : Hid (Below w.heap.size w wr) := Lib.hid (below_call HB1.out (by have := HB.out; rw [← HS1.out] at this; exact this) HB1.out.size)
          clear hk
          go_wp2
          (first | go_ret | go_ret2)
          exact ⟨A2, n2, c2, rfl, HE.out, HBF.out⟩
end Go.Proofs.YtpbbemmjodegkaaDoor
