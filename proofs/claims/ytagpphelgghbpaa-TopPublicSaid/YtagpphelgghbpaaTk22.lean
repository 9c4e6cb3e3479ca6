/-
  Texts: Cop.
-/
import Derived.Test.YtagpphelgghbpaaTk21
import Derived.Test.YtagpphelgghbpaaTk15
/-
  spectate.copied: its lists, one seat.
-/
set_option linter.unusedSimpArgs false
set_option linter.unusedVariables false
namespace Go.Proofs.Ytagpphelgghbpaa
open Go.RowKit

/-- What the bounds of what is public are. -/
structure PuSm (p : Pu) : Prop where
  S : p.stk.length ≤ 200
  Q : p.que.length ≤ 200
  AT : p.att.length ≤ 500
  BK : p.blk.length ≤ 500
  ST : ∀ x ∈ p.stk, x.tgs.length ≤ 4
  QT : ∀ x ∈ p.que, x.tgs.length ≤ 4
  F0 : p.v0.fld.length ≤ 500
  G0 : p.v0.grv.length ≤ 500
  F1 : p.v1.fld.length ≤ 500
  G1 : p.v1.grv.length ≤ 500
/-- The lists of what is public, all one's own. -/
structure PuT (W : World) (B : Nat) (p : Pu) (m : PuM) : Prop where
  S : IsO W B m.S p.stk m.ST
  Q : IsO W B m.Q p.que m.QT
  AT : XOwns W B 3 1 m.AT.A p.att.length m.AT.c (ics p.att)
  BK : XOwns W B 93 2 m.BK.A p.blk.length m.BK.c (bcs p.blk)
theorem PuT.below {W W' : World} {B : Nat} {p : Pu} {m : PuM} (h : PuT W B p m) (hb : Below W.heap.size W W') : PuT W' B p m := ⟨h.S.below hb, h.Q.below hb, h.AT.below hb, h.BK.below hb⟩
theorem PuT.blk {W W' : World} {B g t : Nat} {cs : Array Value} {p : Pu} {m : PuM} (h : PuT W B p m) (hk : Blk W g t cs) (hg : W.grownBy W' (some g)) (ho : offT t) : PuT W' B p m :=
  ⟨h.S.blk hk hg ho.2.1 ho.2.2.1, h.Q.blk hk hg ho.2.1 ho.2.2.1, h.AT.blk_ hk hg ho.2.2.2.1, h.BK.blk_ hk hg ho.2.2.2.2⟩
theorem off_public : offT 59 := by unfold offT; decide
def zvs2 : List Value := zvs ++ zvs
/-- A zero one. -/
def zpu : Array Value := #[.int .i64 0, .int .i64 0, .int .i64 0, .int .i64 0, .int .i64 0, .int .i64 0, .int .i64 0, .slice none 0 0, .slice none 0 0, .bool false, .bool false, .bool false, .int .i64 0, .int .i64 0, .int .i64 0, .int .i64 0, .int .i64 0, .int .i64 0, .int .i64 0, .int .i64 0, .int .i64 0, .slice none 0 0, .slice none 0 0, .bool false, .bool false, .bool false, .int .i64 0, .int .i64 0, .slice none 0 0, .slice none 0 0, .slice none 0 0, .slice none 0 0, .int .i64 0, .int .i64 0, .int .i64 0, .int .i64 0, .int .i64 0]
set_option maxRecDepth 100000 in
set_option maxHeartbeats 3200000 in
theorem cp_lists (w W : World) (p : Pu) (m : PuM) (hR : PuR w p m) (hsm : PuSm p) (hB : Below w.heap.size w W) (hP : Blk W w.heap.size 59 (p.cells m).toArray) (hres : Blk W (w.heap.size + 1) 59 zpu) (Q : Exit → Act → World → Prop) (t0 t2 t3 t4 t5 t6 t7 t8 t9 t10 t11 t12 t13 t14 t15 t16 t17 t18 t19 t20 t21 t22 t23 t24 t25 t26 t27 t28 t29 t30 t31 t32 t33 t34 t35 t36 t37 t38 t39 t40 t41 t42 t43 t44 : Value)
    (hQ : ∀ d v c a w, Q (.panic c) (Act.put a d v) w → Q (.panic c) a w)
    (hK : ∀ (u4 u5 u6 u7 u8 u9 u10 u11 u12 u13 u14 u15 u16 u17 u18 u19 : Value) (m' : PuM) (W9 : World), m'.m0 = m.m0 ∧ m'.m1 = m.m1 ∧ PuT W9 w.heap.size p m' ∧ Blk W9 w.heap.size 59 (p.cells m').toArray ∧ Blk W9 (w.heap.size + 1) 59 zpu ∧ Below w.heap.size w W9 → Q .normal ⟨#[t0, .pointer (some ⟨w.heap.size, 0, none⟩), t2, t3, u4, u5, u6, u7, u8, u9, u10, u11, u12, u13, u14, u15, u16, u17, u18, u19, t20, t21, t22, t23, t24, t25, t26, t27, t28, t29, t30, t31, t32, t33, t34, t35, t36, t37, t38, t39, t40, t41, t42, t43, t44], []⟩ W9) :
    Code.wp Try.prog (regOf Try.f42 1) Q ⟨#[t0, .pointer (some ⟨w.heap.size, 0, none⟩), t2, t3, t4, t5, t6, t7, t8, t9, t10, t11, t12, t13, t14, t15, t16, t17, t18, t19, t20, t21, t22, t23, t24, t25, t26, t27, t28, t29, t30, t31, t32, t33, t34, t35, t36, t37, t38, t39, t40, t41, t42, t43, t44], []⟩ W := by
  have HKK := Lib.hid hK
  clear hK
  conv => arg 2; whnf
  obtain ⟨⟨SA, Sc⟩, hmS⟩ : ∃ x, m.S = x := ⟨_, rfl⟩
  obtain ⟨⟨QA, Qc⟩, hmQ⟩ : ∃ x, m.Q = x := ⟨_, rfl⟩
  obtain ⟨⟨AA, Ac⟩, hmA⟩ : ∃ x, m.AT = x := ⟨_, rfl⟩
  obtain ⟨⟨KA, Kc⟩, hmK⟩ : ∃ x, m.BK = x := ⟨_, rfl⟩
  obtain ⟨ns, hns⟩ : ∃ x, p.stk.length = x := ⟨_, rfl⟩
  obtain ⟨nq, hnq⟩ : ∃ x, p.que.length = x := ⟨_, rfl⟩
  obtain ⟨na, hna⟩ : ∃ x, p.att.length = x := ⟨_, rfl⟩
  obtain ⟨nk, hnk⟩ : ∃ x, p.blk.length = x := ⟨_, rfl⟩
  have HMS := Lib.hid (And.intro hmS (And.intro hmQ (And.intro hmA hmK)))
  have HNS := Lib.hid (And.intro hns (And.intro hnq (And.intro hna hnk)))
  have HC2 : Hid (∀ W', Below w.heap.size w W' → Calls Try.prog 63 #[.slice SA ns Sc] W' (ItsEnd p.stk ns W')) := Lib.hid (fun W' hb => by
    have hS := (hR.below hb).S
    rw [hmS] at hS
    exact its_spec ⟨SA, Sc⟩ ns p.stk m.ST W' hS hns (by have := hsm.S; omega) (fun x hx => by have := hsm.ST x hx; omega))
  have HC5 : Hid (∀ W', Below w.heap.size w W' → Calls Try.prog 63 #[.slice QA nq Qc] W' (ItsEnd p.que nq W')) := Lib.hid (fun W' hb => by
    have hS := (hR.below hb).Q
    rw [hmQ] at hS
    exact its_spec ⟨QA, Qc⟩ nq p.que m.QT W' hS hnq (by have := hsm.Q; omega) (fun x hx => by have := hsm.QT x hx; omega))
  have HC8 : Hid (∀ W', Below w.heap.size w W' → Calls Try.prog 46 #[.slice AA na Ac] W' fun e w' => ∃ A' c', e = .returned (.slice A' na c') ∧ XOwns w' W'.heap.size 3 1 A' na c' (ics p.att) ∧ Below W'.heap.size W' w') := Lib.hid (fun W' hb => by
    have hS := (hR.below hb).AT
    rw [hmA] at hS
    have h1 := hS.row
    rw [hna] at h1
    exact clone_ints AA na Ac (ics p.att) W' h1 (ics_one _) hS.ok.2.1 (by have := hsm.AT; omega))
  have HC11 : Hid (∀ W', Below w.heap.size w W' → Calls Try.prog 47 #[.slice KA nk Kc] W' fun e w' => ∃ A' c', e = .returned (.slice A' nk c') ∧ XOwns w' W'.heap.size 93 2 A' nk c' (bcs p.blk) ∧ Below W'.heap.size W' w') := Lib.hid (fun W' hb => by
    have hS := (hR.below hb).BK
    rw [hmK] at hS
    have h1 := hS.row
    rw [hnk] at h1
    exact clone_blks KA nk Kc (bcs p.blk) W' h1 (one_bcs _) hS.ok.2.1 (by have := hsm.BK; omega))
  have HP := Lib.hid hP
  have HB := Lib.hid hB
  have HRES := Lib.hid hres
  have HQ := Lib.hid hQ
  have hne_ : Nonempty (In (fun W' => Blk W' w.heap.size 59 (p.cells m).toArray)) := ⟨⟨W, hP⟩⟩
  have x28 : ∀ s : In (fun W' => Blk W' w.heap.size 59 (p.cells m).toArray), s.W.cell? ⟨w.heap.size, 28, none⟩ = some (.slice SA ns Sc) := fun s => (s.h.at_ 28).trans (by show some (m.S.v p.stk.length) = _; rw [hmS, hns]; rfl)
  have x29 : ∀ s : In (fun W' => Blk W' w.heap.size 59 (p.cells m).toArray), s.W.cell? ⟨w.heap.size, 29, none⟩ = some (.slice QA nq Qc) := fun s => (s.h.at_ 29).trans (by show some (m.Q.v p.que.length) = _; rw [hmQ, hnq]; rfl)
  have x30 : ∀ s : In (fun W' => Blk W' w.heap.size 59 (p.cells m).toArray), s.W.cell? ⟨w.heap.size, 30, none⟩ = some (.slice AA na Ac) := fun s => (s.h.at_ 30).trans (by show some (m.AT.v p.att.length) = _; rw [hmA, hna]; rfl)
  have x31 : ∀ s : In (fun W' => Blk W' w.heap.size 59 (p.cells m).toArray), s.W.cell? ⟨w.heap.size, 31, none⟩ = some (.slice KA nk Kc) := fun s => (s.h.at_ 31).trans (by show some (m.BK.v p.blk.length) = _; rw [hmK, hnk]; rfl)
  have hgB := hP.lt
  clear hR hsm hB hP hres hQ hmS hmQ hmA hmK hns hnq hna hnk
  have hneT : Nonempty (In (fun _ => True)) := ⟨⟨W, trivial⟩⟩
  refine wp_region_late (Ph (fun w' => ∃ s : In (fun W' => Blk W' w.heap.size 59 (p.cells m).toArray), w' = s.W) (fun w' => ∃ s : In (fun _ => True), w' = s.W)) [13,15,17,19] [0,1,3,4,6,7,9,10] (.one 2 [12] (.one 5 [] (.one 8 [] (.one 11 [] (.one 13 [14] (.one 15 [16] (.one 17 [18] (.one 19 [] .done)))))))) (by kernel_rfl) (by kernel_rfl) HQ.out ⟨⟨_, HP.out.drew⟩, rfl⟩ ?_
  refine quiet_as (C' := (fun w' => ∃ s : In (fun W' => Blk W' w.heap.size 59 (p.cells m).toArray), w' = s.W)) rfl ?_
  simp only [opsAt, List.getElem?_toArray, List.getElem?_cons_succ, List.getElem?_cons_zero]
  repeat (go_big_quiet_step (fail))
  refine wpQuiet_nil ?_
  obtain ⟨W_d, hwd⟩ : ∃ v, W.drew = v := ⟨_, rfl⟩
  have HBW_1 : Hid (Below w.heap.size w W_d) := Lib.hid (by rw [← hwd]; exact (HB.out).drew)
  have HBR_1 : Hid (Below W.heap.size W W_d) := Lib.hid (by rw [← hwd]; exact (Below.refl _ _).drew)
  have PB_1 := Lib.hid ((HP.out).call (show Below W.heap.size W W_d by rw [← hwd]; exact (Below.refl _ _).drew))
  have FR_1 := Lib.hid ((HRES.out).call (show Below W.heap.size W W_d by rw [← hwd]; exact (Below.refl _ _).drew))
  rw [hwd]
  clear hwd
  refine eff_as (C' := (fun w' => ∃ s : In (fun W' => Blk W' w.heap.size 59 (p.cells m).toArray), w' = s.W)) rfl ?_
  (refine eff_lit rfl rfl (fun K hK => ?_))
  go_big_op
  refine (HC2.out W_d HBW_1.out).mono ?_
  rintro e W_2 ⟨⟨A1, e1⟩, ST1, rfl, hx, hbW_2⟩
  have FS_3 := Lib.hid ((hx.more HBW_1.out.size : IsO _ w.heap.size ⟨A1, e1⟩ p.stk ST1))
  have HBW_3 := Lib.hid (below_call HBW_1.out hbW_2 HBW_1.out.size)
  clear HBW_1
  have HBR_3 := Lib.hid (below_call HBR_1.out hbW_2 HBR_1.out.size)
  clear HBR_1
  have PB_3 := Lib.hid (PB_1.out.call hbW_2)
  clear PB_1
  have FR_3 := Lib.hid (FR_1.out.call hbW_2)
  clear FR_1
  clear hbW_2
  clear hx
  refine hK _ _ ⟨⟨_, PB_3.out⟩, rfl⟩ ?_
  clear hK K
  try simp only [opsAt, List.getElem?_toArray, List.getElem?_cons_succ, List.getElem?_cons_zero]
  repeat (go_big_quiet_step (fail))
  refine wpQuiet_nil ?_
  refine eff_as (C' := (fun w' => ∃ s : In (fun W' => Blk W' w.heap.size 59 (p.cells m).toArray), w' = s.W)) rfl ?_
  (refine eff_lit rfl rfl (fun K hK => ?_))
  go_big_op
  refine (HC5.out W_2 HBW_3.out).mono ?_
  rintro e W_4 ⟨⟨A2, e2⟩, QT1, rfl, hx, hbW_4⟩
  have FQ_5 := Lib.hid ((hx.more HBW_3.out.size : IsO _ w.heap.size ⟨A2, e2⟩ p.que QT1))
  have HBW_5 := Lib.hid (below_call HBW_3.out hbW_4 HBW_3.out.size)
  clear HBW_3
  have HBR_5 := Lib.hid (below_call HBR_3.out hbW_4 HBR_3.out.size)
  clear HBR_3
  have PB_5 := Lib.hid (PB_3.out.call hbW_4)
  clear PB_3
  have FR_5 := Lib.hid (FR_3.out.call hbW_4)
  clear FR_3
  have FS_5 := Lib.hid (FS_3.out.below hbW_4)
  clear FS_3
  clear hbW_4
  clear hx
  refine hK _ _ ⟨⟨_, PB_5.out⟩, rfl⟩ ?_
  clear hK K
  try simp only [opsAt, List.getElem?_toArray, List.getElem?_cons_succ, List.getElem?_cons_zero]
  refine wpQuiet_nil ?_
  refine eff_as (C' := (fun w' => ∃ s : In (fun W' => Blk W' w.heap.size 59 (p.cells m).toArray), w' = s.W)) rfl ?_
  (refine eff_lit rfl rfl (fun K hK => ?_))
  go_big_op
  refine (HC8.out W_4 HBW_5.out).mono ?_
  rintro e W_6 ⟨A3, e3, rfl, hx, hbW_6⟩
  have FA_7 := Lib.hid (hx.more HBW_5.out.size)
  have HBW_7 := Lib.hid (below_call HBW_5.out hbW_6 HBW_5.out.size)
  clear HBW_5
  have HBR_7 := Lib.hid (below_call HBR_5.out hbW_6 HBR_5.out.size)
  clear HBR_5
  have PB_7 := Lib.hid (PB_5.out.call hbW_6)
  clear PB_5
  have FR_7 := Lib.hid (FR_5.out.call hbW_6)
  clear FR_5
  have FS_7 := Lib.hid (FS_5.out.below hbW_6)
  clear FS_5
  have FQ_7 := Lib.hid (FQ_5.out.below hbW_6)
  clear FQ_5
  clear hbW_6
  clear hx
  refine hK _ _ ⟨⟨_, PB_7.out⟩, rfl⟩ ?_
  clear hK K
  try simp only [opsAt, List.getElem?_toArray, List.getElem?_cons_succ, List.getElem?_cons_zero]
  refine wpQuiet_nil ?_
  refine eff_as (C' := (fun w' => ∃ s : In (fun W' => Blk W' w.heap.size 59 (p.cells m).toArray), w' = s.W)) rfl ?_
  (refine eff_lit rfl rfl (fun K hK => ?_))
  go_big_op
  refine (HC11.out W_6 HBW_7.out).mono ?_
  rintro e W_8 ⟨A4, e4, rfl, hx, hbW_8⟩
  have FK_9 := Lib.hid (hx.more HBW_7.out.size)
  have HBW_9 := Lib.hid (below_call HBW_7.out hbW_8 HBW_7.out.size)
  clear HBW_7
  have HBR_9 := Lib.hid (below_call HBR_7.out hbW_8 HBR_7.out.size)
  clear HBR_7
  have PB_9 := Lib.hid (PB_7.out.call hbW_8)
  clear PB_7
  have FR_9 := Lib.hid (FR_7.out.call hbW_8)
  clear FR_7
  have FS_9 := Lib.hid (FS_7.out.below hbW_8)
  clear FS_7
  have FQ_9 := Lib.hid (FQ_7.out.below hbW_8)
  clear FQ_7
  have FA_9 := Lib.hid (FA_7.out.below hbW_8)
  clear FA_7
  clear hbW_8
  clear hx
  refine hK _ _ ⟨⟨_, PB_9.out⟩, rfl⟩ ?_
  clear hK K
  try simp only [opsAt, List.getElem?_toArray, List.getElem?_cons_succ, List.getElem?_cons_zero]
  refine wpQuiet_nil ?_
  refine eff_as (C' := (fun w' => ∃ s : In (fun _ => True), w' = s.W)) rfl ?_
  (refine eff_lit rfl rfl (fun K hK => ?_))
  have q9 := (PB_9.out.at_ 28).trans rfl
  have f9 := PB_9.out.free 28
  have l9 := PB_9.out.lt
  go_big_op
  obtain ⟨W_10, hvW_10⟩ : ∃ v, W_8.setCell ⟨w.heap.size, 28, none⟩ (.slice A1 ns e1) = v := ⟨_, rfl⟩
  have hg9 : W_8.grownBy W_10 (some w.heap.size) := by rw [← hvW_10]; exact only_setCell (only_refl _ _) (.inl rfl) _
  have hk9 := PB_9.out.put 28 (.slice A1 ns e1)
  rw [hvW_10] at hk9
  rw [hvW_10]
  clear q9 f9 l9 hvW_10
  have HBW_11 := Lib.hid (HBW_9.out.grown hg9 HBW_9.out.size (fun q hq => by injection hq with hq; omega))
  clear HBW_9
  have FR_11 := Lib.hid (FR_9.out.grown hg9 (fun e => by injection e with e; omega))
  clear FR_9
  have FS_11 := Lib.hid (FS_9.out.blk PB_9.out hg9 (by decide) (by decide))
  clear FS_9
  have FQ_11 := Lib.hid (FQ_9.out.blk PB_9.out hg9 (by decide) (by decide))
  clear FQ_9
  have FA_11 := Lib.hid (FA_9.out.blk_ PB_9.out hg9 (by decide))
  clear FA_9
  have FK_11 := Lib.hid (FK_9.out.blk_ PB_9.out hg9 (by decide))
  clear FK_9
  have PB_12 := Lib.hid hk9
  clear hk9 hg9 PB_9
  refine hK _ _ ⟨⟨_, trivial⟩, rfl⟩ ?_
  clear hK K
  try simp only [opsAt, List.getElem?_toArray, List.getElem?_cons_succ, List.getElem?_cons_zero]
  try simp only [Act.put]
  repeat (go_big_quiet_step (fail))
  refine wpQuiet_nil ?_
  refine eff_as (C' := (fun w' => ∃ s : In (fun _ => True), w' = s.W)) rfl ?_
  (refine eff_lit rfl rfl (fun K hK => ?_))
  have q9 := (PB_12.out.at_ 29).trans rfl
  have f9 := PB_12.out.free 29
  have l9 := PB_12.out.lt
  go_big_op
  obtain ⟨W_13, hvW_13⟩ : ∃ v, W_10.setCell ⟨w.heap.size, 29, none⟩ (.slice A2 nq e2) = v := ⟨_, rfl⟩
  have hg9 : W_10.grownBy W_13 (some w.heap.size) := by rw [← hvW_13]; exact only_setCell (only_refl _ _) (.inl rfl) _
  have hk9 := PB_12.out.put 29 (.slice A2 nq e2)
  rw [hvW_13] at hk9
  rw [hvW_13]
  clear q9 f9 l9 hvW_13
  have HBW_14 := Lib.hid (HBW_11.out.grown hg9 HBW_11.out.size (fun q hq => by injection hq with hq; omega))
  clear HBW_11
  have FR_14 := Lib.hid (FR_11.out.grown hg9 (fun e => by injection e with e; omega))
  clear FR_11
  have FS_14 := Lib.hid (FS_11.out.blk PB_12.out hg9 (by decide) (by decide))
  clear FS_11
  have FQ_14 := Lib.hid (FQ_11.out.blk PB_12.out hg9 (by decide) (by decide))
  clear FQ_11
  have FA_14 := Lib.hid (FA_11.out.blk_ PB_12.out hg9 (by decide))
  clear FA_11
  have FK_14 := Lib.hid (FK_11.out.blk_ PB_12.out hg9 (by decide))
  clear FK_11
  have PB_15 := Lib.hid hk9
  clear hk9 hg9 PB_12
  refine hK _ _ ⟨⟨_, trivial⟩, rfl⟩ ?_
  clear hK K
  try simp only [opsAt, List.getElem?_toArray, List.getElem?_cons_succ, List.getElem?_cons_zero]
  try simp only [Act.put]
  repeat (go_big_quiet_step (fail))
  refine wpQuiet_nil ?_
  refine eff_as (C' := (fun w' => ∃ s : In (fun _ => True), w' = s.W)) rfl ?_
  (refine eff_lit rfl rfl (fun K hK => ?_))
  have q9 := (PB_15.out.at_ 30).trans rfl
  have f9 := PB_15.out.free 30
  have l9 := PB_15.out.lt
  go_big_op
  obtain ⟨W_16, hvW_16⟩ : ∃ v, W_13.setCell ⟨w.heap.size, 30, none⟩ (.slice A3 na e3) = v := ⟨_, rfl⟩
  have hg9 : W_13.grownBy W_16 (some w.heap.size) := by rw [← hvW_16]; exact only_setCell (only_refl _ _) (.inl rfl) _
  have hk9 := PB_15.out.put 30 (.slice A3 na e3)
  rw [hvW_16] at hk9
  rw [hvW_16]
  clear q9 f9 l9 hvW_16
  have HBW_17 := Lib.hid (HBW_14.out.grown hg9 HBW_14.out.size (fun q hq => by injection hq with hq; omega))
  clear HBW_14
  have FR_17 := Lib.hid (FR_14.out.grown hg9 (fun e => by injection e with e; omega))
  clear FR_14
  have FS_17 := Lib.hid (FS_14.out.blk PB_15.out hg9 (by decide) (by decide))
  clear FS_14
  have FQ_17 := Lib.hid (FQ_14.out.blk PB_15.out hg9 (by decide) (by decide))
  clear FQ_14
  have FA_17 := Lib.hid (FA_14.out.blk_ PB_15.out hg9 (by decide))
  clear FA_14
  have FK_17 := Lib.hid (FK_14.out.blk_ PB_15.out hg9 (by decide))
  clear FK_14
  have PB_18 := Lib.hid hk9
  clear hk9 hg9 PB_15
  refine hK _ _ ⟨⟨_, trivial⟩, rfl⟩ ?_
  clear hK K
  try simp only [opsAt, List.getElem?_toArray, List.getElem?_cons_succ, List.getElem?_cons_zero]
  try simp only [Act.put]
  repeat (go_big_quiet_step (fail))
  refine wpQuiet_nil ?_
  refine eff_as (C' := (fun w' => ∃ s : In (fun _ => True), w' = s.W)) rfl ?_
  (refine eff_lit rfl rfl (fun K hK => ?_))
  have q9 := (PB_18.out.at_ 31).trans rfl
  have f9 := PB_18.out.free 31
  have l9 := PB_18.out.lt
  go_big_op
  obtain ⟨W_19, hvW_19⟩ : ∃ v, W_16.setCell ⟨w.heap.size, 31, none⟩ (.slice A4 nk e4) = v := ⟨_, rfl⟩
  have hg9 : W_16.grownBy W_19 (some w.heap.size) := by rw [← hvW_19]; exact only_setCell (only_refl _ _) (.inl rfl) _
  have hk9 := PB_18.out.put 31 (.slice A4 nk e4)
  rw [hvW_19] at hk9
  rw [hvW_19]
  clear q9 f9 l9 hvW_19
  have HBW_20 := Lib.hid (HBW_17.out.grown hg9 HBW_17.out.size (fun q hq => by injection hq with hq; omega))
  clear HBW_17
  have FR_20 := Lib.hid (FR_17.out.grown hg9 (fun e => by injection e with e; omega))
  clear FR_17
  have FS_20 := Lib.hid (FS_17.out.blk PB_18.out hg9 (by decide) (by decide))
  clear FS_17
  have FQ_20 := Lib.hid (FQ_17.out.blk PB_18.out hg9 (by decide) (by decide))
  clear FQ_17
  have FA_20 := Lib.hid (FA_17.out.blk_ PB_18.out hg9 (by decide))
  clear FA_17
  have FK_20 := Lib.hid (FK_17.out.blk_ PB_18.out hg9 (by decide))
  clear FK_17
  have PB_21 := Lib.hid hk9
  clear hk9 hg9 PB_18
  refine hK _ _ ⟨⟨_, trivial⟩, rfl⟩ ?_
  clear hK K
  try simp only [opsAt, List.getElem?_toArray, List.getElem?_cons_succ, List.getElem?_cons_zero]
  refine wpQuiet_nil ?_
  refine effs_done ?_
  have hPC : ((((p.cells m).toArray.setIfInBounds 28 (.slice A1 ns e1)).setIfInBounds 29 (.slice A2 nq e2)).setIfInBounds 30 (.slice A3 na e3)).setIfInBounds 31 (.slice A4 nk e4) = (p.cells ⟨m.m0, m.m1, ⟨A1, e1⟩, ⟨A2, e2⟩, ST1, QT1, ⟨A3, e3⟩, ⟨A4, e4⟩⟩).toArray := by
    simp only [Pu.cells, Pu.tail, Vs.cells, Sl.v, List.cons_append, List.nil_append, List.setIfInBounds_toArray, List.set_cons_succ, List.set_cons_zero]
    rw [HNS.out.1, HNS.out.2.1, HNS.out.2.2.1, HNS.out.2.2.2]
  have hPB := PB_21.out
  rw [hPC] at hPB
  refine HKK.out _ _ _ _ _ _ _ _ _ _ _ _ _ _ _ _ ⟨m.m0, m.m1, ⟨A1, e1⟩, ⟨A2, e2⟩, ST1, QT1, ⟨A3, e3⟩, ⟨A4, e4⟩⟩ _ ⟨rfl, rfl, ⟨FS_20.out, FQ_20.out, ?_, ?_⟩, hPB, FR_20.out, HBW_20.out⟩
  · rw [HNS.out.2.2.1]; exact FA_20.out
  · rw [HNS.out.2.2.2]; exact FK_20.out

set_option maxRecDepth 100000 in
set_option maxHeartbeats 3200000 in
theorem cp_seat0 (k : Nat) (hk : k = 0) (w W : World) (p : Pu) (m : PuM) (hV : VsR w p.v0 m.m0) (hsm : PuSm p) (hB : Below w.heap.size w W) (hP : Blk W w.heap.size 59 (p.cells m).toArray) (hT : PuT W w.heap.size p m) (hres : Blk W (w.heap.size + 1) 59 zpu) (Q : Exit → Act → World → Prop) (t0 t2 t4 t5 t6 t7 t8 t9 t10 t11 t12 t13 t14 t15 t16 t17 t18 t19 t20 t21 t22 t23 t24 t25 t26 t27 t28 t29 t30 t31 t32 t33 t34 t35 t36 t37 t38 t39 t40 t41 t42 t43 t44 : Value)
    (hQ : ∀ d v c a w, Q (.panic c) (Act.put a d v) w → Q (.panic c) a w)
    (hK : ∀ (u23 u24 u25 u26 u27 u28 u29 u30 u31 u32 u33 u34 u35 u36 u37 u38 u39 u40 u41 u42 : Value) (v' : VsM) (W9 : World), VsO W9 w.heap.size p.v0 v' ∧ Blk W9 w.heap.size 59 (p.cells { m with m0 := v' }).toArray ∧ PuT W9 w.heap.size p m ∧ Blk W9 (w.heap.size + 1) 59 zpu ∧ Below w.heap.size w W9 → Q .normal ⟨#[t0, .pointer (some ⟨w.heap.size, 0, none⟩), t2, .int .i64 k, t4, t5, t6, t7, t8, t9, t10, t11, t12, t13, t14, t15, t16, t17, t18, t19, t20, t21, t22, u23, u24, u25, u26, u27, u28, u29, u30, u31, u32, u33, u34, u35, u36, u37, u38, u39, u40, u41, u42, t43, t44], []⟩ W9) :
    Code.wp Try.prog (regOf Try.f42 5) Q ⟨#[t0, .pointer (some ⟨w.heap.size, 0, none⟩), t2, .int .i64 k, t4, t5, t6, t7, t8, t9, t10, t11, t12, t13, t14, t15, t16, t17, t18, t19, t20, t21, t22, t23, t24, t25, t26, t27, t28, t29, t30, t31, t32, t33, t34, t35, t36, t37, t38, t39, t40, t41, t42, t43, t44], []⟩ W := by
  have HKK := Lib.hid hK
  clear hK
  conv => arg 2; whnf
  subst hk
  obtain ⟨⟨FA, Fc⟩, hmF⟩ : ∃ x, m.m0.F = x := ⟨_, rfl⟩
  obtain ⟨⟨GA, Gc⟩, hmG⟩ : ∃ x, m.m0.G = x := ⟨_, rfl⟩
  obtain ⟨nf, hnf⟩ : ∃ x, p.v0.fld.length = x := ⟨_, rfl⟩
  obtain ⟨ng, hng⟩ : ∃ x, p.v0.grv.length = x := ⟨_, rfl⟩
  have HNS := Lib.hid (And.intro hnf hng)
  have HC7 : Hid (∀ W', Below w.heap.size w W' → Calls Try.prog 58 #[.slice FA nf Fc] W' fun e w' => ∃ A' c', e = .returned (.slice A' nf c') ∧ XOwns w' W'.heap.size 88 12 A' nf c' (ocs p.v0.fld) ∧ Below W'.heap.size W' w') := Lib.hid (fun W' hb => by
    have hS := hV.F.below hb
    rw [hmF] at hS
    have h1 := hS.row
    rw [hnf] at h1
    exact clone_objs FA nf Fc (ocs p.v0.fld) W' h1 (one_ocs _) hS.ok.2.1 (by have := hsm.F0; omega))
  have HC13 : Hid (∀ W', Below w.heap.size w W' → Calls Try.prog 58 #[.slice GA ng Gc] W' fun e w' => ∃ A' c', e = .returned (.slice A' ng c') ∧ XOwns w' W'.heap.size 88 12 A' ng c' (ocs p.v0.grv) ∧ Below W'.heap.size W' w') := Lib.hid (fun W' hb => by
    have hS := hV.G.below hb
    rw [hmG] at hS
    have h1 := hS.row
    rw [hng] at h1
    exact clone_objs GA ng Gc (ocs p.v0.grv) W' h1 (one_ocs _) hS.ok.2.1 (by have := hsm.G0; omega))
  have HP := Lib.hid hP
  have HB := Lib.hid hB
  have HT := Lib.hid hT
  have HRES := Lib.hid hres
  have HQ := Lib.hid hQ
  have hne_ : Nonempty (In (fun W' => Blk W' w.heap.size 59 (p.cells m).toArray)) := ⟨⟨W, hP⟩⟩
  have x1 : ∀ s : In (fun W' => Blk W' w.heap.size 59 (p.cells m).toArray), s.W.cell? ⟨w.heap.size, 7, none⟩ = some (.slice FA nf Fc) := fun s => (s.h.at_ 7).trans (by show some (m.m0.F.v p.v0.fld.length) = _; rw [hmF, hnf]; rfl)
  have x2 : ∀ s : In (fun W' => Blk W' w.heap.size 59 (p.cells m).toArray), s.W.cell? ⟨w.heap.size, 8, none⟩ = some (.slice GA ng Gc) := fun s => (s.h.at_ 8).trans (by show some (m.m0.G.v p.v0.grv.length) = _; rw [hmG, hng]; rfl)
  have hgB := hP.lt
  clear hV hsm hB hP hT hres hQ hmF hmG hnf hng
  have hneT : Nonempty (In (fun _ => True)) := ⟨⟨W, trivial⟩⟩
  refine wp_region_late2 (Ph (fun w' => ∃ s : In (fun W' => Blk W' w.heap.size 59 (p.cells m).toArray), w' = s.W) (fun w' => ∃ s : In (fun _ => True), w' = s.W)) (fun w' => ∃ s : In (fun _ => True), w' = s.W) (fun w => ⟨⟨w, trivial⟩, rfl⟩) [17,21] [0,1,2,3,4,5,8,9,10,11,14,18] [6,12] (.one 7 [15,16] (.one 13 [] (.one 17 [19,20] (.one 21 [] .done)))) (by kernel_rfl) (by kernel_rfl) HQ.out ⟨⟨_, HP.out.drew⟩, rfl⟩ ?_
  refine quiet_as (C' := (fun w' => ∃ s : In (fun _ => True), w' = s.W)) rfl ?_
  simp only [opsAt, List.getElem?_toArray, List.getElem?_cons_succ, List.getElem?_cons_zero]
  repeat (go_big_quiet_step (fail))
  refine wpQuiet_nil ?_
  refine quiet_as (C' := (fun w' => ∃ s : In (fun W' => Blk W' w.heap.size 59 (p.cells m).toArray), w' = s.W)) rfl ?_
  try simp only [opsAt, List.getElem?_toArray, List.getElem?_cons_succ, List.getElem?_cons_zero]
  repeat (go_big_quiet_step (fail))
  refine wpQuiet_nil ?_
  obtain ⟨W_d, hwd⟩ : ∃ v, W.drew = v := ⟨_, rfl⟩
  have HBW_1 : Hid (Below w.heap.size w W_d) := Lib.hid (by rw [← hwd]; exact (HB.out).drew)
  have HBR_1 : Hid (Below W.heap.size W W_d) := Lib.hid (by rw [← hwd]; exact (Below.refl _ _).drew)
  have PB_1 := Lib.hid ((HP.out).call (show Below W.heap.size W W_d by rw [← hwd]; exact (Below.refl _ _).drew))
  have FR_1 := Lib.hid ((HRES.out).call (show Below W.heap.size W W_d by rw [← hwd]; exact (Below.refl _ _).drew))
  have FT_1 := Lib.hid ((HT.out).below (show Below W.heap.size W W_d by rw [← hwd]; exact (Below.refl _ _).drew))
  rw [hwd]
  clear hwd
  refine eff_as (C' := (fun w' => ∃ s : In (fun W' => Blk W' w.heap.size 59 (p.cells m).toArray), w' = s.W)) rfl ?_
  (refine eff_lit rfl rfl (fun K hK => ?_))
  go_big_op
  refine (HC7.out W_d HBW_1.out).mono ?_
  rintro e W_2 ⟨A1, e1, rfl, hx, hbW_2⟩
  have FF_3 := Lib.hid (hx.more HBW_1.out.size)
  have HBW_3 := Lib.hid (below_call HBW_1.out hbW_2 HBW_1.out.size)
  clear HBW_1
  have HBR_3 := Lib.hid (below_call HBR_1.out hbW_2 HBR_1.out.size)
  clear HBR_1
  have PB_3 := Lib.hid (PB_1.out.call hbW_2)
  clear PB_1
  have FR_3 := Lib.hid (FR_1.out.call hbW_2)
  clear FR_1
  have FT_3 := Lib.hid (FT_1.out.below hbW_2)
  clear FT_1
  clear hbW_2
  clear hx
  refine hK _ _ ⟨⟨_, PB_3.out⟩, rfl⟩ ?_
  clear hK K
  try simp only [opsAt, List.getElem?_toArray, List.getElem?_cons_succ, List.getElem?_cons_zero]
  repeat (go_big_quiet_step (fail))
  refine wpQuiet_nil ?_
  refine eff_as (C' := (fun w' => ∃ s : In (fun W' => Blk W' w.heap.size 59 (p.cells m).toArray), w' = s.W)) rfl ?_
  (refine eff_lit rfl rfl (fun K hK => ?_))
  go_big_op
  refine (HC13.out W_2 HBW_3.out).mono ?_
  rintro e W_4 ⟨A2, e2, rfl, hx, hbW_4⟩
  have FG_5 := Lib.hid (hx.more HBW_3.out.size)
  have HBW_5 := Lib.hid (below_call HBW_3.out hbW_4 HBW_3.out.size)
  clear HBW_3
  have HBR_5 := Lib.hid (below_call HBR_3.out hbW_4 HBR_3.out.size)
  clear HBR_3
  have PB_5 := Lib.hid (PB_3.out.call hbW_4)
  clear PB_3
  have FR_5 := Lib.hid (FR_3.out.call hbW_4)
  clear FR_3
  have FT_5 := Lib.hid (FT_3.out.below hbW_4)
  clear FT_3
  have FF_5 := Lib.hid (FF_3.out.below hbW_4)
  clear FF_3
  clear hbW_4
  clear hx
  refine hK _ _ ⟨⟨_, PB_5.out⟩, rfl⟩ ?_
  clear hK K
  try simp only [opsAt, List.getElem?_toArray, List.getElem?_cons_succ, List.getElem?_cons_zero]
  refine wpQuiet_nil ?_
  refine eff_as (C' := (fun w' => ∃ s : In (fun _ => True), w' = s.W)) rfl ?_
  (refine eff_lit rfl rfl (fun K hK => ?_))
  have q9 := (PB_5.out.at_ 7).trans rfl
  have f9 := PB_5.out.free 7
  have l9 := PB_5.out.lt
  go_big_op
  obtain ⟨W_6, hvW_6⟩ : ∃ v, W_4.setCell ⟨w.heap.size, 7, none⟩ (.slice A1 nf e1) = v := ⟨_, rfl⟩
  have hg9 : W_4.grownBy W_6 (some w.heap.size) := by rw [← hvW_6]; exact only_setCell (only_refl _ _) (.inl rfl) _
  have hk9 := PB_5.out.put 7 (.slice A1 nf e1)
  rw [hvW_6] at hk9
  rw [hvW_6]
  clear q9 f9 l9 hvW_6
  have HBW_7 := Lib.hid (HBW_5.out.grown hg9 HBW_5.out.size (fun q hq => by injection hq with hq; omega))
  clear HBW_5
  have FR_7 := Lib.hid (FR_5.out.grown hg9 (fun e => by injection e with e; omega))
  clear FR_5
  have FT_7 := Lib.hid (FT_5.out.blk PB_5.out hg9 off_public)
  clear FT_5
  have FF_7 := Lib.hid (FF_5.out.blk_ PB_5.out hg9 (by decide))
  clear FF_5
  have FG_7 := Lib.hid (FG_5.out.blk_ PB_5.out hg9 (by decide))
  clear FG_5
  have PB_8 := Lib.hid hk9
  clear hk9 hg9 PB_5
  refine hK _ _ ⟨⟨_, trivial⟩, rfl⟩ ?_
  clear hK K
  try simp only [opsAt, List.getElem?_toArray, List.getElem?_cons_succ, List.getElem?_cons_zero]
  try simp only [Act.put]
  repeat (go_big_quiet_step (fail))
  refine wpQuiet_nil ?_
  refine eff_as (C' := (fun w' => ∃ s : In (fun _ => True), w' = s.W)) rfl ?_
  (refine eff_lit rfl rfl (fun K hK => ?_))
  have q9 := (PB_8.out.at_ 8).trans rfl
  have f9 := PB_8.out.free 8
  have l9 := PB_8.out.lt
  go_big_op
  obtain ⟨W_9, hvW_9⟩ : ∃ v, W_6.setCell ⟨w.heap.size, 8, none⟩ (.slice A2 ng e2) = v := ⟨_, rfl⟩
  have hg9 : W_6.grownBy W_9 (some w.heap.size) := by rw [← hvW_9]; exact only_setCell (only_refl _ _) (.inl rfl) _
  have hk9 := PB_8.out.put 8 (.slice A2 ng e2)
  rw [hvW_9] at hk9
  rw [hvW_9]
  clear q9 f9 l9 hvW_9
  have HBW_10 := Lib.hid (HBW_7.out.grown hg9 HBW_7.out.size (fun q hq => by injection hq with hq; omega))
  clear HBW_7
  have FR_10 := Lib.hid (FR_7.out.grown hg9 (fun e => by injection e with e; omega))
  clear FR_7
  have FT_10 := Lib.hid (FT_7.out.blk PB_8.out hg9 off_public)
  clear FT_7
  have FF_10 := Lib.hid (FF_7.out.blk_ PB_8.out hg9 (by decide))
  clear FF_7
  have FG_10 := Lib.hid (FG_7.out.blk_ PB_8.out hg9 (by decide))
  clear FG_7
  have PB_11 := Lib.hid hk9
  clear hk9 hg9 PB_8
  refine hK _ _ ⟨⟨_, trivial⟩, rfl⟩ ?_
  clear hK K
  try simp only [opsAt, List.getElem?_toArray, List.getElem?_cons_succ, List.getElem?_cons_zero]
  refine wpQuiet_nil ?_
  refine effs_done ?_
  have hPC : ((p.cells m).toArray.setIfInBounds 7 (.slice A1 nf e1)).setIfInBounds 8 (.slice A2 ng e2) = (p.cells { m with m0 := ⟨⟨A1, e1⟩, ⟨A2, e2⟩⟩ }).toArray := by
    simp only [Pu.cells, Pu.tail, Vs.cells, Sl.v, List.cons_append, List.nil_append, List.setIfInBounds_toArray, List.set_cons_succ, List.set_cons_zero]
    rw [HNS.out.1, HNS.out.2]
  have hPB := PB_11.out
  rw [hPC] at hPB
  refine HKK.out _ _ _ _ _ _ _ _ _ _ _ _ _ _ _ _ _ _ _ _ ⟨⟨A1, e1⟩, ⟨A2, e2⟩⟩ _ ⟨⟨?_, ?_⟩, hPB, FT_10.out, FR_10.out, HBW_10.out⟩
  · show XOwns _ _ _ _ _ p.v0.fld.length _ _
    rw [HNS.out.1]; exact FF_10.out
  · show XOwns _ _ _ _ _ p.v0.grv.length _ _
    rw [HNS.out.2]; exact FG_10.out

set_option maxRecDepth 100000 in
set_option maxHeartbeats 3200000 in
theorem cp_seat1 (k : Nat) (hk : k = 1) (w W : World) (p : Pu) (m : PuM) (hV : VsR w p.v1 m.m1) (hsm : PuSm p) (hB : Below w.heap.size w W) (hP : Blk W w.heap.size 59 (p.cells m).toArray) (hT : PuT W w.heap.size p m) (hres : Blk W (w.heap.size + 1) 59 zpu) (hV0 : VsO W w.heap.size p.v0 m.m0) (Q : Exit → Act → World → Prop) (t0 t2 t4 t5 t6 t7 t8 t9 t10 t11 t12 t13 t14 t15 t16 t17 t18 t19 t20 t21 t22 t23 t24 t25 t26 t27 t28 t29 t30 t31 t32 t33 t34 t35 t36 t37 t38 t39 t40 t41 t42 t43 t44 : Value)
    (hQ : ∀ d v c a w, Q (.panic c) (Act.put a d v) w → Q (.panic c) a w)
    (hK : ∀ (u23 u24 u25 u26 u27 u28 u29 u30 u31 u32 u33 u34 u35 u36 u37 u38 u39 u40 u41 u42 : Value) (v' : VsM) (W9 : World), VsO W9 w.heap.size p.v1 v' ∧ Blk W9 w.heap.size 59 (p.cells { m with m1 := v' }).toArray ∧ PuT W9 w.heap.size p m ∧ Blk W9 (w.heap.size + 1) 59 zpu ∧ Below w.heap.size w W9 ∧ VsO W9 w.heap.size p.v0 m.m0 → Q .normal ⟨#[t0, .pointer (some ⟨w.heap.size, 0, none⟩), t2, .int .i64 k, t4, t5, t6, t7, t8, t9, t10, t11, t12, t13, t14, t15, t16, t17, t18, t19, t20, t21, t22, u23, u24, u25, u26, u27, u28, u29, u30, u31, u32, u33, u34, u35, u36, u37, u38, u39, u40, u41, u42, t43, t44], []⟩ W9) :
    Code.wp Try.prog (regOf Try.f42 5) Q ⟨#[t0, .pointer (some ⟨w.heap.size, 0, none⟩), t2, .int .i64 k, t4, t5, t6, t7, t8, t9, t10, t11, t12, t13, t14, t15, t16, t17, t18, t19, t20, t21, t22, t23, t24, t25, t26, t27, t28, t29, t30, t31, t32, t33, t34, t35, t36, t37, t38, t39, t40, t41, t42, t43, t44], []⟩ W := by
  have HKK := Lib.hid hK
  clear hK
  conv => arg 2; whnf
  subst hk
  obtain ⟨⟨FA, Fc⟩, hmF⟩ : ∃ x, m.m1.F = x := ⟨_, rfl⟩
  obtain ⟨⟨GA, Gc⟩, hmG⟩ : ∃ x, m.m1.G = x := ⟨_, rfl⟩
  obtain ⟨nf, hnf⟩ : ∃ x, p.v1.fld.length = x := ⟨_, rfl⟩
  obtain ⟨ng, hng⟩ : ∃ x, p.v1.grv.length = x := ⟨_, rfl⟩
  have HNS := Lib.hid (And.intro hnf hng)
  have HC7 : Hid (∀ W', Below w.heap.size w W' → Calls Try.prog 58 #[.slice FA nf Fc] W' fun e w' => ∃ A' c', e = .returned (.slice A' nf c') ∧ XOwns w' W'.heap.size 88 12 A' nf c' (ocs p.v1.fld) ∧ Below W'.heap.size W' w') := Lib.hid (fun W' hb => by
    have hS := hV.F.below hb
    rw [hmF] at hS
    have h1 := hS.row
    rw [hnf] at h1
    exact clone_objs FA nf Fc (ocs p.v1.fld) W' h1 (one_ocs _) hS.ok.2.1 (by have := hsm.F1; omega))
  have HC13 : Hid (∀ W', Below w.heap.size w W' → Calls Try.prog 58 #[.slice GA ng Gc] W' fun e w' => ∃ A' c', e = .returned (.slice A' ng c') ∧ XOwns w' W'.heap.size 88 12 A' ng c' (ocs p.v1.grv) ∧ Below W'.heap.size W' w') := Lib.hid (fun W' hb => by
    have hS := hV.G.below hb
    rw [hmG] at hS
    have h1 := hS.row
    rw [hng] at h1
    exact clone_objs GA ng Gc (ocs p.v1.grv) W' h1 (one_ocs _) hS.ok.2.1 (by have := hsm.G1; omega))
  have HP := Lib.hid hP
  have HB := Lib.hid hB
  have HT := Lib.hid hT
  have HRES := Lib.hid hres
  have HQ := Lib.hid hQ
  have hne_ : Nonempty (In (fun W' => Blk W' w.heap.size 59 (p.cells m).toArray)) := ⟨⟨W, hP⟩⟩
  have x1 : ∀ s : In (fun W' => Blk W' w.heap.size 59 (p.cells m).toArray), s.W.cell? ⟨w.heap.size, 21, none⟩ = some (.slice FA nf Fc) := fun s => (s.h.at_ 21).trans (by show some (m.m1.F.v p.v1.fld.length) = _; rw [hmF, hnf]; rfl)
  have x2 : ∀ s : In (fun W' => Blk W' w.heap.size 59 (p.cells m).toArray), s.W.cell? ⟨w.heap.size, 22, none⟩ = some (.slice GA ng Gc) := fun s => (s.h.at_ 22).trans (by show some (m.m1.G.v p.v1.grv.length) = _; rw [hmG, hng]; rfl)
  have hgB := hP.lt
  have HV0 := Lib.hid hV0
  clear hV0
  clear hV hsm hB hP hT hres hQ hmF hmG hnf hng
  have hneT : Nonempty (In (fun _ => True)) := ⟨⟨W, trivial⟩⟩
  refine wp_region_late2 (Ph (fun w' => ∃ s : In (fun W' => Blk W' w.heap.size 59 (p.cells m).toArray), w' = s.W) (fun w' => ∃ s : In (fun _ => True), w' = s.W)) (fun w' => ∃ s : In (fun _ => True), w' = s.W) (fun w => ⟨⟨w, trivial⟩, rfl⟩) [17,21] [0,1,2,3,4,5,8,9,10,11,14,18] [6,12] (.one 7 [15,16] (.one 13 [] (.one 17 [19,20] (.one 21 [] .done)))) (by kernel_rfl) (by kernel_rfl) HQ.out ⟨⟨_, HP.out.drew⟩, rfl⟩ ?_
  refine quiet_as (C' := (fun w' => ∃ s : In (fun _ => True), w' = s.W)) rfl ?_
  simp only [opsAt, List.getElem?_toArray, List.getElem?_cons_succ, List.getElem?_cons_zero]
  repeat (go_big_quiet_step (fail))
  refine wpQuiet_nil ?_
  refine quiet_as (C' := (fun w' => ∃ s : In (fun W' => Blk W' w.heap.size 59 (p.cells m).toArray), w' = s.W)) rfl ?_
  try simp only [opsAt, List.getElem?_toArray, List.getElem?_cons_succ, List.getElem?_cons_zero]
  repeat (go_big_quiet_step (fail))
  refine wpQuiet_nil ?_
  obtain ⟨W_d, hwd⟩ : ∃ v, W.drew = v := ⟨_, rfl⟩
  have HBW_1 : Hid (Below w.heap.size w W_d) := Lib.hid (by rw [← hwd]; exact (HB.out).drew)
  have HBR_1 : Hid (Below W.heap.size W W_d) := Lib.hid (by rw [← hwd]; exact (Below.refl _ _).drew)
  have PB_1 := Lib.hid ((HP.out).call (show Below W.heap.size W W_d by rw [← hwd]; exact (Below.refl _ _).drew))
  have FR_1 := Lib.hid ((HRES.out).call (show Below W.heap.size W W_d by rw [← hwd]; exact (Below.refl _ _).drew))
  have FT_1 := Lib.hid ((HT.out).below (show Below W.heap.size W W_d by rw [← hwd]; exact (Below.refl _ _).drew))
  have FV_1 := Lib.hid ((HV0.out).below (show Below W.heap.size W W_d by rw [← hwd]; exact (Below.refl _ _).drew))
  rw [hwd]
  clear hwd
  refine eff_as (C' := (fun w' => ∃ s : In (fun W' => Blk W' w.heap.size 59 (p.cells m).toArray), w' = s.W)) rfl ?_
  (refine eff_lit rfl rfl (fun K hK => ?_))
  go_big_op
  refine (HC7.out W_d HBW_1.out).mono ?_
  rintro e W_2 ⟨A1, e1, rfl, hx, hbW_2⟩
  have FF_3 := Lib.hid (hx.more HBW_1.out.size)
  have HBW_3 := Lib.hid (below_call HBW_1.out hbW_2 HBW_1.out.size)
  clear HBW_1
  have HBR_3 := Lib.hid (below_call HBR_1.out hbW_2 HBR_1.out.size)
  clear HBR_1
  have PB_3 := Lib.hid (PB_1.out.call hbW_2)
  clear PB_1
  have FR_3 := Lib.hid (FR_1.out.call hbW_2)
  clear FR_1
  have FT_3 := Lib.hid (FT_1.out.below hbW_2)
  clear FT_1
  have FV_3 := Lib.hid (FV_1.out.below hbW_2)
  clear FV_1
  clear hbW_2
  clear hx
  refine hK _ _ ⟨⟨_, PB_3.out⟩, rfl⟩ ?_
  clear hK K
  try simp only [opsAt, List.getElem?_toArray, List.getElem?_cons_succ, List.getElem?_cons_zero]
  repeat (go_big_quiet_step (fail))
  refine wpQuiet_nil ?_
  refine eff_as (C' := (fun w' => ∃ s : In (fun W' => Blk W' w.heap.size 59 (p.cells m).toArray), w' = s.W)) rfl ?_
  (refine eff_lit rfl rfl (fun K hK => ?_))
  go_big_op
  refine (HC13.out W_2 HBW_3.out).mono ?_
  rintro e W_4 ⟨A2, e2, rfl, hx, hbW_4⟩
  have FG_5 := Lib.hid (hx.more HBW_3.out.size)
  have HBW_5 := Lib.hid (below_call HBW_3.out hbW_4 HBW_3.out.size)
  clear HBW_3
  have HBR_5 := Lib.hid (below_call HBR_3.out hbW_4 HBR_3.out.size)
  clear HBR_3
  have PB_5 := Lib.hid (PB_3.out.call hbW_4)
  clear PB_3
  have FR_5 := Lib.hid (FR_3.out.call hbW_4)
  clear FR_3
  have FT_5 := Lib.hid (FT_3.out.below hbW_4)
  clear FT_3
  have FV_5 := Lib.hid (FV_3.out.below hbW_4)
  clear FV_3
  have FF_5 := Lib.hid (FF_3.out.below hbW_4)
  clear FF_3
  clear hbW_4
  clear hx
  refine hK _ _ ⟨⟨_, PB_5.out⟩, rfl⟩ ?_
  clear hK K
  try simp only [opsAt, List.getElem?_toArray, List.getElem?_cons_succ, List.getElem?_cons_zero]
  refine wpQuiet_nil ?_
  refine eff_as (C' := (fun w' => ∃ s : In (fun _ => True), w' = s.W)) rfl ?_
  (refine eff_lit rfl rfl (fun K hK => ?_))
  have q9 := (PB_5.out.at_ 21).trans rfl
  have f9 := PB_5.out.free 21
  have l9 := PB_5.out.lt
  go_big_op
  obtain ⟨W_6, hvW_6⟩ : ∃ v, W_4.setCell ⟨w.heap.size, 21, none⟩ (.slice A1 nf e1) = v := ⟨_, rfl⟩
  have hg9 : W_4.grownBy W_6 (some w.heap.size) := by rw [← hvW_6]; exact only_setCell (only_refl _ _) (.inl rfl) _
  have hk9 := PB_5.out.put 21 (.slice A1 nf e1)
  rw [hvW_6] at hk9
  rw [hvW_6]
  clear q9 f9 l9 hvW_6
  have HBW_7 := Lib.hid (HBW_5.out.grown hg9 HBW_5.out.size (fun q hq => by injection hq with hq; omega))
  clear HBW_5
  have FR_7 := Lib.hid (FR_5.out.grown hg9 (fun e => by injection e with e; omega))
  clear FR_5
  have FT_7 := Lib.hid (FT_5.out.blk PB_5.out hg9 off_public)
  clear FT_5
  have FV_7 := Lib.hid (FV_5.out.blk PB_5.out hg9 off_public)
  clear FV_5
  have FF_7 := Lib.hid (FF_5.out.blk_ PB_5.out hg9 (by decide))
  clear FF_5
  have FG_7 := Lib.hid (FG_5.out.blk_ PB_5.out hg9 (by decide))
  clear FG_5
  have PB_8 := Lib.hid hk9
  clear hk9 hg9 PB_5
  refine hK _ _ ⟨⟨_, trivial⟩, rfl⟩ ?_
  clear hK K
  try simp only [opsAt, List.getElem?_toArray, List.getElem?_cons_succ, List.getElem?_cons_zero]
  try simp only [Act.put]
  repeat (go_big_quiet_step (fail))
  refine wpQuiet_nil ?_
  refine eff_as (C' := (fun w' => ∃ s : In (fun _ => True), w' = s.W)) rfl ?_
  (refine eff_lit rfl rfl (fun K hK => ?_))
  have q9 := (PB_8.out.at_ 22).trans rfl
  have f9 := PB_8.out.free 22
  have l9 := PB_8.out.lt
  go_big_op
  obtain ⟨W_9, hvW_9⟩ : ∃ v, W_6.setCell ⟨w.heap.size, 22, none⟩ (.slice A2 ng e2) = v := ⟨_, rfl⟩
  have hg9 : W_6.grownBy W_9 (some w.heap.size) := by rw [← hvW_9]; exact only_setCell (only_refl _ _) (.inl rfl) _
  have hk9 := PB_8.out.put 22 (.slice A2 ng e2)
  rw [hvW_9] at hk9
  rw [hvW_9]
  clear q9 f9 l9 hvW_9
  have HBW_10 := Lib.hid (HBW_7.out.grown hg9 HBW_7.out.size (fun q hq => by injection hq with hq; omega))
  clear HBW_7
  have FR_10 := Lib.hid (FR_7.out.grown hg9 (fun e => by injection e with e; omega))
  clear FR_7
  have FT_10 := Lib.hid (FT_7.out.blk PB_8.out hg9 off_public)
  clear FT_7
  have FV_10 := Lib.hid (FV_7.out.blk PB_8.out hg9 off_public)
  clear FV_7
  have FF_10 := Lib.hid (FF_7.out.blk_ PB_8.out hg9 (by decide))
  clear FF_7
  have FG_10 := Lib.hid (FG_7.out.blk_ PB_8.out hg9 (by decide))
  clear FG_7
  have PB_11 := Lib.hid hk9
  clear hk9 hg9 PB_8
  refine hK _ _ ⟨⟨_, trivial⟩, rfl⟩ ?_
  clear hK K
  try simp only [opsAt, List.getElem?_toArray, List.getElem?_cons_succ, List.getElem?_cons_zero]
  refine wpQuiet_nil ?_
  refine effs_done ?_
  have hPC : ((p.cells m).toArray.setIfInBounds 21 (.slice A1 nf e1)).setIfInBounds 22 (.slice A2 ng e2) = (p.cells { m with m1 := ⟨⟨A1, e1⟩, ⟨A2, e2⟩⟩ }).toArray := by
    simp only [Pu.cells, Pu.tail, Vs.cells, Sl.v, List.cons_append, List.nil_append, List.setIfInBounds_toArray, List.set_cons_succ, List.set_cons_zero]
    rw [HNS.out.1, HNS.out.2]
  have hPB := PB_11.out
  rw [hPC] at hPB
  refine HKK.out _ _ _ _ _ _ _ _ _ _ _ _ _ _ _ _ _ _ _ _ ⟨⟨A1, e1⟩, ⟨A2, e2⟩⟩ _ ⟨⟨?_, ?_⟩, hPB, FT_10.out, FR_10.out, HBW_10.out, FV_10.out⟩
  · show XOwns _ _ _ _ _ p.v1.fld.length _ _
    rw [HNS.out.1]; exact FF_10.out
  · show XOwns _ _ _ _ _ p.v1.grv.length _ _
    rw [HNS.out.2]; exact FG_10.out

end Go.Proofs.Ytagpphelgghbpaa
