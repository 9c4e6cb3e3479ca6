/-
  Texts: Kh.
-/
import Derived.Test.YtpbbemmjodegkaaDoorXk9
import Derived.Test.YtpbbemmjodegkaaDoorXk11
set_option linter.unusedSimpArgs false
set_option linter.unusedVariables false
namespace Go.Proofs.YtpbbemmjodegkaaDoor
open Go.RowKit

structure CdB (c : Cd) : Prop where
  E : c.efs.length ≤ 100000
  T : c.trs.length ≤ 100000
  TE : ∀ t ∈ c.trs, t.efs.length ≤ 100000
structure CdO (W : World) (B : Nat) (c : Cd) (m : CdM) : Prop where
  nm : c.nm.size ≤ 9223372036854775807
  E : XOwns W B 106 5 m.E.A c.efs.length m.E.c (ecs c.efs)
  T : TsO W B m.T c.trs m.TS
section
variable {W W' : World} {B : Nat} {c : Cd} {m : CdM}
theorem CdO.below (h : CdO W B c m) (hb : Below W.heap.size W W') : CdO W' B c m := ⟨h.nm, h.E.below hb, h.T.below hb⟩
theorem CdO.more {B' : Nat} (h : CdO W B c m) (hb : B' ≤ B) : CdO W B' c m := ⟨h.nm, h.E.more hb, h.T.more hb⟩
theorem CdO.blk {g t : Nat} {cs : Array Value} (h : CdO W B c m) (hk : Blk W g t cs) (hg : W.grownBy W' (some g)) (h1 : 106 ≠ t) (h2 : 112 ≠ t) : CdO W' B c m := ⟨h.nm, h.E.grown hg (.inr (h.E.apart_blk hk h1)), h.T.blk hk hg h2 h1⟩
theorem TsO.isR' {W : World} {B : Nat} {s : Sl} {l : List Trg} {ts : List Sl} (h : TsO W B s l ts) : TsR W s l ts := ⟨h.len, h.row.reads, h.row.okS, fun i x t h1 h2 => ⟨(h.ef i x t h1 h2).reads, (h.ef i x t h1 h2).okS⟩⟩
theorem CdO.isR (h : CdO W B c m) : CdR W c m := ⟨h.nm, ⟨h.E.reads, h.E.okS⟩, h.T.isR'⟩
end
def CopyEnd (c : Cd) (w : World) (e : Ending) (w' : World) : Prop := ∃ m', e = .returned (.agg (c.cells m').toArray) ∧ CdO w' w.heap.size c m' ∧ Below w.heap.size w w'
def zcd : Array Value := #[.string ⟨#[]⟩, .int .i64 0, .int .i64 0, .int .i64 0, .int .i64 0, .int .i64 0, .int .i64 0, .int .i64 0, .int .i64 0, .int .i64 0, .int .i64 0, .slice none 0 0, .slice none 0 0, .int .i64 0]

set_option maxRecDepth 100000 in
set_option maxHeartbeats 3200000 in
theorem cd_lists (w W : World) (c : Cd) (m : CdM) (hR : CdR w c m) (hsm : CdB c) (hB : Below w.heap.size w W) (hP : Blk W w.heap.size 74 (c.cells m).toArray) (hres : Blk W (w.heap.size + 1) 74 zcd) (Q : Exit → Act → World → Prop) (t0 t2 t3 t4 t5 t6 t7 t8 t9 t10 t11 t12 t13 t14 t15 t16 t17 t18 t19 t20 t21 t22 t23 t24 t25 t26 t27 t28 t29 t30 : Value)
    (hQ : ∀ d v c a w, Q (.panic c) (Act.put a d v) w → Q (.panic c) a w)
    (hK : ∀ (u5 u6 u7 u8 u9 u10 u11 u12 : Value) (m' : CdM) (W9 : World), m'.TS = m.TS ∧ XOwns W9 w.heap.size 106 5 m'.E.A c.efs.length m'.E.c (ecs c.efs) ∧ XOwns W9 w.heap.size 112 2 m'.T.A c.trs.length m'.T.c (trcs (c.trs.zip m.TS)) ∧ Blk W9 w.heap.size 74 (c.cells m').toArray ∧ Blk W9 (w.heap.size + 1) 74 zcd ∧ Below w.heap.size w W9 → Q .normal ⟨#[t0, .pointer (some ⟨w.heap.size, 0, none⟩), t2, t3, t4, u5, u6, u7, u8, u9, u10, u11, u12, t13, t14, t15, t16, t17, t18, t19, t20, t21, t22, t23, t24, t25, t26, t27, t28, t29, t30], []⟩ W9) :
    Code.wp Tryd.prog (regOf Tryd.f22 1) Q ⟨#[t0, .pointer (some ⟨w.heap.size, 0, none⟩), t2, t3, t4, t5, t6, t7, t8, t9, t10, t11, t12, t13, t14, t15, t16, t17, t18, t19, t20, t21, t22, t23, t24, t25, t26, t27, t28, t29, t30], []⟩ W := by
  have HKK := Lib.hid hK
  clear hK
  conv => arg 2; whnf
  obtain ⟨⟨EA, Ec⟩, hmE⟩ : ∃ x, m.E = x := ⟨_, rfl⟩
  obtain ⟨⟨TA, Tc⟩, hmT⟩ : ∃ x, m.T = x := ⟨_, rfl⟩
  obtain ⟨ne, hne⟩ : ∃ x, c.efs.length = x := ⟨_, rfl⟩
  obtain ⟨nt, hnt⟩ : ∃ x, c.trs.length = x := ⟨_, rfl⟩
  have HNS := Lib.hid (And.intro hne hnt)
  have HC2 : Hid (∀ W', Below w.heap.size w W' → Calls Tryd.prog 45 #[.slice EA ne Ec] W' fun e w' => ∃ A' c', e = .returned (.slice A' ne c') ∧ XOwns w' W'.heap.size 106 5 A' ne c' (ecs c.efs) ∧ Below W'.heap.size W' w') := Lib.hid (fun W' hb => by
    have hS := (hR.below hb).E
    rw [hmE] at hS
    have h1 := hS.row
    rw [hne] at h1
    exact clone_efs EA ne Ec (ecs c.efs) W' h1 (one_ecs _) hS.ok.2.1 (by have := hsm.E; omega))
  have HC5 : Hid (∀ W', Below w.heap.size w W' → Calls Tryd.prog 46 #[.slice TA nt Tc] W' fun e w' => ∃ A' c', e = .returned (.slice A' nt c') ∧ XOwns w' W'.heap.size 112 2 A' nt c' (trcs (c.trs.zip m.TS)) ∧ Below W'.heap.size W' w') := Lib.hid (fun W' hb => by
    have hS := (hR.below hb).T
    rw [hmT] at hS
    have h1 := hS.row
    rw [hnt] at h1
    exact clone_trs TA nt Tc (trcs (c.trs.zip m.TS)) W' h1 (one_trcs _) hS.ok.2.1 (by have := hsm.T; omega))
  have HP := Lib.hid hP
  have HB := Lib.hid hB
  have HRES := Lib.hid hres
  have HQ := Lib.hid hQ
  have hne_ : Nonempty (In (fun W' => Blk W' w.heap.size 74 (c.cells m).toArray)) := ⟨⟨W, hP⟩⟩
  have x11 : ∀ s : In (fun W' => Blk W' w.heap.size 74 (c.cells m).toArray), s.W.cell? ⟨w.heap.size, 11, none⟩ = some (.slice EA ne Ec) := fun s => (s.h.at_ 11).trans (by show some (m.E.v c.efs.length) = _; rw [hmE, hne]; rfl)
  have x12 : ∀ s : In (fun W' => Blk W' w.heap.size 74 (c.cells m).toArray), s.W.cell? ⟨w.heap.size, 12, none⟩ = some (.slice TA nt Tc) := fun s => (s.h.at_ 12).trans (by show some (m.T.v c.trs.length) = _; rw [hmT, hnt]; rfl)
  have hgB := hP.lt
  clear hR hsm hB hP hres hQ hmE hmT hne hnt
  have hneT : Nonempty (In (fun _ => True)) := ⟨⟨W, trivial⟩⟩
  refine wp_region_late2 (Ph (fun w' => ∃ s : In (fun W' => Blk W' w.heap.size 74 (c.cells m).toArray), w' = s.W) (fun w' => ∃ s : In (fun _ => True), w' = s.W)) (fun w' => ∃ s : In (fun _ => True), w' = s.W) (fun w => ⟨⟨w, trivial⟩, rfl⟩) [7,9] [0,3] [1,4] (.one 2 [6] (.one 5 [] (.one 7 [8] (.one 9 [] .done)))) (by kernel_rfl) (by kernel_rfl) HQ.out ⟨⟨_, HP.out.drew⟩, rfl⟩ ?_
  refine quiet_as (C' := (fun w' => ∃ s : In (fun _ => True), w' = s.W)) rfl ?_
  simp only [opsAt, List.getElem?_toArray, List.getElem?_cons_succ, List.getElem?_cons_zero]
  repeat (go_big_quiet_step (fail))
  refine wpQuiet_nil ?_
  refine quiet_as (C' := (fun w' => ∃ s : In (fun W' => Blk W' w.heap.size 74 (c.cells m).toArray), w' = s.W)) rfl ?_
  try simp only [opsAt, List.getElem?_toArray, List.getElem?_cons_succ, List.getElem?_cons_zero]
  repeat (go_big_quiet_step (fail))
  refine wpQuiet_nil ?_
  obtain ⟨W_d, hwd⟩ : ∃ v, W.drew = v := ⟨_, rfl⟩
  have HBW_1 : Hid (Below w.heap.size w W_d) := Lib.hid (by rw [← hwd]; exact (HB.out).drew)
  have HBR_1 : Hid (Below W.heap.size W W_d) := Lib.hid (by rw [← hwd]; exact (Below.refl _ _).drew)
  have PB_1 := Lib.hid ((HP.out).call (show Below W.heap.size W W_d by rw [← hwd]; exact (Below.refl _ _).drew))
  have FR_1 := Lib.hid ((HRES.out).call (show Below W.heap.size W W_d by rw [← hwd]; exact (Below.refl _ _).drew))
  rw [hwd]
  clear hwd
  refine eff_as (C' := (fun w' => ∃ s : In (fun W' => Blk W' w.heap.size 74 (c.cells m).toArray), w' = s.W)) rfl ?_
  (refine eff_lit rfl rfl (fun K hK => ?_))
  go_big_op
  refine (HC2.out W_d HBW_1.out).mono ?_
  rintro e W_2 ⟨A1, e1, rfl, hx, hbW_2⟩
  have FE_3 := Lib.hid (hx.more HBW_1.out.size)
  have HBW_3 := Lib.hid (below_call HBW_1.out hbW_2 HBW_1.out.size)
  clear HBW_1
  have HBR_3 := Lib.hid (below_call HBR_1.out hbW_2 HBR_1.out.size)
  clear HBR_1
  have PB_3 := Lib.hid (PB_1.out.call hbW_2)
  clear PB_1
  have FR_3 := Lib.hid (FR_1.out.call hbW_2)
  clear FR_1
  clear hbW_2
  clear hx
  refine hK _ _ ⟨⟨_, PB_3.out⟩, rfl⟩ ?_
  clear hK K
  try simp only [opsAt, List.getElem?_toArray, List.getElem?_cons_succ, List.getElem?_cons_zero]
  repeat (go_big_quiet_step (fail))
  refine wpQuiet_nil ?_
  refine eff_as (C' := (fun w' => ∃ s : In (fun W' => Blk W' w.heap.size 74 (c.cells m).toArray), w' = s.W)) rfl ?_
  (refine eff_lit rfl rfl (fun K hK => ?_))
  go_big_op
  refine (HC5.out W_2 HBW_3.out).mono ?_
  rintro e W_4 ⟨A2, e2, rfl, hx, hbW_4⟩
  have FT_5 := Lib.hid (hx.more HBW_3.out.size)
  have HBW_5 := Lib.hid (below_call HBW_3.out hbW_4 HBW_3.out.size)
  clear HBW_3
  have HBR_5 := Lib.hid (below_call HBR_3.out hbW_4 HBR_3.out.size)
  clear HBR_3
  have PB_5 := Lib.hid (PB_3.out.call hbW_4)
  clear PB_3
  have FR_5 := Lib.hid (FR_3.out.call hbW_4)
  clear FR_3
  have FE_5 := Lib.hid (FE_3.out.below hbW_4)
  clear FE_3
  clear hbW_4
  clear hx
  refine hK _ _ ⟨⟨_, PB_5.out⟩, rfl⟩ ?_
  clear hK K
  try simp only [opsAt, List.getElem?_toArray, List.getElem?_cons_succ, List.getElem?_cons_zero]
  refine wpQuiet_nil ?_
  refine eff_as (C' := (fun w' => ∃ s : In (fun _ => True), w' = s.W)) rfl ?_
  (refine eff_lit rfl rfl (fun K hK => ?_))
  have q9 := (PB_5.out.at_ 11).trans rfl
  have f9 := PB_5.out.free 11
  have l9 := PB_5.out.lt
  go_big_op
  obtain ⟨W_6, hvW_6⟩ : ∃ v, W_4.setCell ⟨w.heap.size, 11, none⟩ (.slice A1 ne e1) = v := ⟨_, rfl⟩
  have hg9 : W_4.grownBy W_6 (some w.heap.size) := by rw [← hvW_6]; exact only_setCell (only_refl _ _) (.inl rfl) _
  have hk9 := PB_5.out.put 11 (.slice A1 ne e1)
  rw [hvW_6] at hk9
  rw [hvW_6]
  clear q9 f9 l9 hvW_6
  have HBW_7 := Lib.hid (HBW_5.out.grown hg9 HBW_5.out.size (fun q hq => by injection hq with hq; omega))
  clear HBW_5
  have FR_7 := Lib.hid (FR_5.out.grown hg9 (fun e => by injection e with e; omega))
  clear FR_5
  have FE_7 := Lib.hid (FE_5.out.blk_ PB_5.out hg9 (by decide))
  clear FE_5
  have FT_7 := Lib.hid (FT_5.out.blk_ PB_5.out hg9 (by decide))
  clear FT_5
  have PB_8 := Lib.hid hk9
  clear hk9 hg9 PB_5
  refine hK _ _ ⟨⟨_, trivial⟩, rfl⟩ ?_
  clear hK K
  try simp only [opsAt, List.getElem?_toArray, List.getElem?_cons_succ, List.getElem?_cons_zero]
  try simp only [Act.put]
  repeat (go_big_quiet_step (fail))
  refine wpQuiet_nil ?_
  refine eff_as (C' := (fun w' => ∃ s : In (fun _ => True), w' = s.W)) rfl ?_
  (refine eff_lit rfl rfl (fun K hK => ?_))
  have q9 := (PB_8.out.at_ 12).trans rfl
  have f9 := PB_8.out.free 12
  have l9 := PB_8.out.lt
  go_big_op
  obtain ⟨W_9, hvW_9⟩ : ∃ v, W_6.setCell ⟨w.heap.size, 12, none⟩ (.slice A2 nt e2) = v := ⟨_, rfl⟩
  have hg9 : W_6.grownBy W_9 (some w.heap.size) := by rw [← hvW_9]; exact only_setCell (only_refl _ _) (.inl rfl) _
  have hk9 := PB_8.out.put 12 (.slice A2 nt e2)
  rw [hvW_9] at hk9
  rw [hvW_9]
  clear q9 f9 l9 hvW_9
  have HBW_10 := Lib.hid (HBW_7.out.grown hg9 HBW_7.out.size (fun q hq => by injection hq with hq; omega))
  clear HBW_7
  have FR_10 := Lib.hid (FR_7.out.grown hg9 (fun e => by injection e with e; omega))
  clear FR_7
  have FE_10 := Lib.hid (FE_7.out.blk_ PB_8.out hg9 (by decide))
  clear FE_7
  have FT_10 := Lib.hid (FT_7.out.blk_ PB_8.out hg9 (by decide))
  clear FT_7
  have PB_11 := Lib.hid hk9
  clear hk9 hg9 PB_8
  refine hK _ _ ⟨⟨_, trivial⟩, rfl⟩ ?_
  clear hK K
  try simp only [opsAt, List.getElem?_toArray, List.getElem?_cons_succ, List.getElem?_cons_zero]
  refine wpQuiet_nil ?_
  refine effs_done ?_
  have hPC : (((c.cells m).toArray.setIfInBounds 11 (.slice A1 ne e1)).setIfInBounds 12 (.slice A2 nt e2)) = (c.cells ⟨⟨A1, e1⟩, ⟨A2, e2⟩, m.TS⟩).toArray := by
    simp only [Cd.cells, Sl.v, List.setIfInBounds_toArray, List.set_cons_succ, List.set_cons_zero]
    rw [HNS.out.1, HNS.out.2]
  have hPB := PB_11.out
  rw [hPC] at hPB
  refine HKK.out _ _ _ _ _ _ _ _ ⟨⟨A1, e1⟩, ⟨A2, e2⟩, m.TS⟩ _ ⟨rfl, ?_, ?_, hPB, FR_10.out, HBW_10.out⟩
  · rw [HNS.out.1]; exact FE_10.out
  · rw [HNS.out.2]; exact FT_10.out


set_option maxRecDepth 100000 in
set_option maxHeartbeats 3200000 in
theorem cd_trig (w W : World) (c : Cd) (E2 : Sl) (g1 c1 k gt : Nat) (tA : Option Addr) (tc : Nat) (ts TS0 ts2 : List Sl) (x : Trg) (sT : Sl) (hRr : TsR w sT c.trs ts) (hx : c.trs[k]? = some x) (hI : TrS w c.trs ts (some ⟨g1, 0, none⟩) c.trs.length c1 k ts2 W) (ht : ts2[k]? = some ⟨tA, tc⟩) (hsm : CdB c) (hP : Blk W w.heap.size 74 (c.cells ⟨E2, ⟨some ⟨g1, 0, none⟩, c1⟩, TS0⟩).toArray) (hT : Blk W gt 112 #[.int .i64 x.wh, .slice tA x.efs.length tc]) (hE : XOwns W w.heap.size 106 5 E2.A c.efs.length E2.c (ecs c.efs)) (hres : Blk W (w.heap.size + 1) 74 zcd) (Q : Exit → Act → World → Prop) (t0 t2 t5 t6 t7 t8 t9 t10 t11 t12 t13 t14 t15 t16 t17 t18 t19 t20 t21 t22 t23 t24 t25 t26 t27 t28 t29 t30 : Value)
    (hQ : ∀ d v c a w, Q (.panic c) (Act.put a d v) w → Q (.panic c) a w)
    (hK : ∀ (u21 u22 u23 u24 u25 u26 u27 u28 : Value) (ts3 : List Sl) (W9 : World), TrS w c.trs ts (some ⟨g1, 0, none⟩) c.trs.length c1 (k + 1) ts3 W9 ∧ Blk W9 w.heap.size 74 (c.cells ⟨E2, ⟨some ⟨g1, 0, none⟩, c1⟩, TS0⟩).toArray ∧ XOwns W9 w.heap.size 106 5 E2.A c.efs.length E2.c (ecs c.efs) ∧ Blk W9 (w.heap.size + 1) 74 zcd → Q .normal ⟨#[t0, .pointer (some ⟨w.heap.size, 0, none⟩), t2, .int .i64 k, .pointer (some ⟨gt, 0, none⟩), t5, t6, t7, t8, t9, t10, t11, t12, t13, t14, t15, t16, t17, t18, t19, t20, u21, u22, u23, u24, u25, u26, u27, u28, t29, t30], []⟩ W9) :
    Code.wp Tryd.prog (regOf Tryd.f22 5) Q ⟨#[t0, .pointer (some ⟨w.heap.size, 0, none⟩), t2, .int .i64 k, .pointer (some ⟨gt, 0, none⟩), t5, t6, t7, t8, t9, t10, t11, t12, t13, t14, t15, t16, t17, t18, t19, t20, t21, t22, t23, t24, t25, t26, t27, t28, t29, t30], []⟩ W := by
  have HKK := Lib.hid hK
  clear hK
  conv => arg 2; whnf
  have hkl : k < c.trs.length := (List.getElem?_eq_some_iff.1 hx).1
  obtain ⟨n, hn⟩ : ∃ x, x = c.trs.length := ⟨_, rfl⟩
  obtain ⟨ne, hne⟩ : ∃ y, x.efs.length = y := ⟨_, rfl⟩
  have HNE := Lib.hid hne
  have HX := Lib.hid hx
  have HTT := Lib.hid ht
  have HN := Lib.hid hn
  have hrd := hI.reads hRr hx ht
  have HC5 : Hid (∀ W', Below W.heap.size W W' → Calls Tryd.prog 45 #[.slice tA ne tc] W' fun e w' => ∃ A' c', e = .returned (.slice A' ne c') ∧ XOwns w' W'.heap.size 106 5 A' ne c' (ecs x.efs) ∧ Below W'.heap.size W' w') := Lib.hid (fun W' hb => by
    have h1 := hrd.1.below hb
    rw [hne] at h1
    exact clone_efs tA ne tc (ecs x.efs) W' h1 (one_ecs _) hrd.2.2.1 (by have := hsm.TE x (List.mem_of_getElem? hx); omega))
  have HI := Lib.hid hI
  have HB : Hid (Below w.heap.size w W) := Lib.hid hI.bel
  have HP := Lib.hid hP
  have HT := Lib.hid hT
  have HE := Lib.hid hE
  have HRES := Lib.hid hres
  have HQ := Lib.hid hQ
  have hne_ : Nonempty (In (fun W' => Blk W' w.heap.size 74 (c.cells ⟨E2, ⟨some ⟨g1, 0, none⟩, c1⟩, TS0⟩).toArray ∧ Blk W' gt 112 #[.int .i64 x.wh, .slice tA x.efs.length tc])) := ⟨⟨W, hP, hT⟩⟩
  have x12 : ∀ s : In (fun W' => Blk W' w.heap.size 74 (c.cells ⟨E2, ⟨some ⟨g1, 0, none⟩, c1⟩, TS0⟩).toArray ∧ Blk W' gt 112 #[.int .i64 x.wh, .slice tA x.efs.length tc]), s.W.cell? ⟨w.heap.size, 12, none⟩ = some (.slice (some ⟨g1, 0, none⟩) n c1) := fun s => (s.h.1.at_ 12).trans (by show some (Sl.v ⟨some ⟨g1, 0, none⟩, c1⟩ c.trs.length) = _; rw [← hn]; rfl)
  have x1 : ∀ s : In (fun W' => Blk W' w.heap.size 74 (c.cells ⟨E2, ⟨some ⟨g1, 0, none⟩, c1⟩, TS0⟩).toArray ∧ Blk W' gt 112 #[.int .i64 x.wh, .slice tA x.efs.length tc]), s.W.cell? ⟨gt, 1, none⟩ = some (.slice tA ne tc) := fun s => (s.h.2.at_ 1).trans (by show some (Value.slice tA x.efs.length tc) = _; rw [hne])
  have hgB := hP.lt
  have hgT := hT.lt
  have hkn : (k : Int) < n := by omega
  have hn9 : n ≤ 100000 := by have := hsm.T; omega
  have hng : g1 < W.heap.size ∧ w.heap.size ≤ g1 := by have := hI.row.lt g1 rfl; omega
  have HNG := Lib.hid hng
  have HAP : Hid (g1 ≠ w.heap.size ∧ g1 ≠ w.heap.size + 1) := Lib.hid ⟨fun e => hI.row.apart_blk hP (by decide) (by rw [e]; rfl), fun e => hI.row.apart_blk hres (by decide) (by rw [e]; rfl)⟩
  clear hx hI ht hsm hP hT hE hres hQ hne hn hrd hRr hkl
  have hneT : Nonempty (In (fun _ => True)) := ⟨⟨W, trivial⟩⟩
  refine wp_region_late2 (Ph (fun w' => ∃ s : In (fun W' => Blk W' w.heap.size 74 (c.cells ⟨E2, ⟨some ⟨g1, 0, none⟩, c1⟩, TS0⟩).toArray ∧ Blk W' gt 112 #[.int .i64 x.wh, .slice tA x.efs.length tc]), w' = s.W) (fun w' => ∃ s : In (fun _ => True), w' = s.W)) (fun w' => ∃ s : In (fun _ => True), w' = s.W) (fun w => ⟨⟨w, trivial⟩, rfl⟩) [8] [0,2,3] [1,4] (.one 5 [6,7] (.one 8 [] .done)) (by kernel_rfl) (by kernel_rfl) HQ.out ⟨⟨_, ⟨HP.out.drew, HT.out.drew⟩⟩, rfl⟩ ?_
  refine quiet_as (C' := (fun w' => ∃ s : In (fun _ => True), w' = s.W)) rfl ?_
  simp only [opsAt, List.getElem?_toArray, List.getElem?_cons_succ, List.getElem?_cons_zero]
  repeat (go_big_quiet_step (fail))
  refine wpQuiet_nil ?_
  refine quiet_as (C' := (fun w' => ∃ s : In (fun W' => Blk W' w.heap.size 74 (c.cells ⟨E2, ⟨some ⟨g1, 0, none⟩, c1⟩, TS0⟩).toArray ∧ Blk W' gt 112 #[.int .i64 x.wh, .slice tA x.efs.length tc]), w' = s.W)) rfl ?_
  try simp only [opsAt, List.getElem?_toArray, List.getElem?_cons_succ, List.getElem?_cons_zero]
  repeat (go_big_quiet_step (fail))
  refine wpQuiet_nil ?_
  obtain ⟨W_d, hwd⟩ : ∃ v, W.drew = v := ⟨_, rfl⟩
  have HBW_1 : Hid (Below w.heap.size w W_d) := Lib.hid (by rw [← hwd]; exact (HB.out).drew)
  have HBR_1 : Hid (Below W.heap.size W W_d) := Lib.hid (by rw [← hwd]; exact (Below.refl _ _).drew)
  have FP_1 := Lib.hid ((HP.out).call (show Below W.heap.size W W_d by rw [← hwd]; exact (Below.refl _ _).drew))
  have FG_1 := Lib.hid ((HT.out).call (show Below W.heap.size W W_d by rw [← hwd]; exact (Below.refl _ _).drew))
  have FI_1 := Lib.hid ((HI.out).below (show Below W.heap.size W W_d by rw [← hwd]; exact (Below.refl _ _).drew))
  have FE_1 := Lib.hid ((HE.out).below (show Below W.heap.size W W_d by rw [← hwd]; exact (Below.refl _ _).drew))
  have FR_1 := Lib.hid ((HRES.out).call (show Below W.heap.size W W_d by rw [← hwd]; exact (Below.refl _ _).drew))
  rw [hwd]
  clear hwd
  refine eff_as (C' := (fun w' => ∃ s : In (fun W' => Blk W' w.heap.size 74 (c.cells ⟨E2, ⟨some ⟨g1, 0, none⟩, c1⟩, TS0⟩).toArray ∧ Blk W' gt 112 #[.int .i64 x.wh, .slice tA x.efs.length tc]), w' = s.W)) rfl ?_
  (refine eff_lit rfl rfl (fun K hK => ?_))
  go_big_op
  refine (HC5.out W_d HBR_1.out).mono ?_
  rintro e W_2 ⟨A2, e2, rfl, hx, hbW_2⟩
  have FX_3 := Lib.hid (hx.more (Nat.le_trans HB.out.size HBR_1.out.size))
  have HBW_3 := Lib.hid (below_call HBW_1.out hbW_2 HBW_1.out.size)
  clear HBW_1
  have HBR_3 := Lib.hid (below_call HBR_1.out hbW_2 HBR_1.out.size)
  clear HBR_1
  have FP_3 := Lib.hid (FP_1.out.call hbW_2)
  clear FP_1
  have FG_3 := Lib.hid (FG_1.out.call hbW_2)
  clear FG_1
  have FI_3 := Lib.hid (FI_1.out.below hbW_2)
  clear FI_1
  have FE_3 := Lib.hid (FE_1.out.below hbW_2)
  clear FE_1
  have FR_3 := Lib.hid (FR_1.out.call hbW_2)
  clear FR_1
  clear hbW_2
  clear hx
  refine hK _ _ ⟨⟨_, ⟨FP_3.out, FG_3.out⟩⟩, rfl⟩ ?_
  clear hK K
  try simp only [opsAt, List.getElem?_toArray, List.getElem?_cons_succ, List.getElem?_cons_zero]
  repeat (go_big_quiet_step (fail))
  refine wpQuiet_nil ?_
  refine eff_as (C' := (fun w' => ∃ s : In (fun _ => True), w' = s.W)) rfl ?_
  (refine eff_lit rfl rfl (fun K hK => ?_))
  have hFX := FX_3.out
  have hj : (trcs (c.trs.zip ts2))[k * 2 + 1]? = some (Sl.v ⟨tA, tc⟩ x.efs.length) := trcs_at HX.out HTT.out
  obtain ⟨g9, e9, -, l9, q9, f9⟩ := FI_3.out.row.cell hj
  injection e9 with e9
  injection e9 with e9
  subst e9
  rw [show Sl.v ⟨tA, tc⟩ x.efs.length = Value.slice tA ne tc by rw [HNE.out]; rfl] at q9
  go_big_op
  obtain ⟨V9, hv9⟩ : ∃ v, W_2.setCell ⟨g1, k * 2 + 1, none⟩ (.slice A2 ne e2) = v := ⟨_, rfl⟩
  have hg9 : W_2.grownBy V9 (some g1) := by rw [← hv9]; exact only_setCell (only_refl _ _) (.inl rfl) _
  have hI9 := FI_3.out.put (t := ⟨A2, e2⟩) HX.out (by rw [HNE.out]; exact hFX)
  rw [show Sl.v ⟨A2, e2⟩ x.efs.length = Value.slice A2 ne e2 by rw [HNE.out]; rfl, hv9] at hI9
  have hP9 := FP_3.out.grown hg9 (fun e => by injection e with e; exact HAP.out.1 e.symm)
  have hR9 := FR_3.out.grown hg9 (fun e => by injection e with e; exact HAP.out.2 e.symm)
  have hE9 := FE_3.out.grown hg9 (by
    rcases FE_3.out.apart FI_3.out.row (by decide) with h | h
    · exact .inl h
    · exact .inr h)
  rw [hv9]
  clear q9 f9 l9 hv9 hj
  refine hK _ _ ⟨⟨_, trivial⟩, rfl⟩ ?_
  clear hK K
  try simp only [opsAt, List.getElem?_toArray, List.getElem?_cons_succ, List.getElem?_cons_zero]
  refine wpQuiet_nil ?_
  refine effs_done ?_
  refine HKK.out _ _ _ _ _ _ _ _ _ V9 ⟨hI9, hP9, hE9, hR9⟩


theorem trcs_at0 {l : List Trg} {ts : List Sl} {i : Nat} {x : Trg} {t : Sl} (hx : l[i]? = some x) (ht : ts[i]? = some t) : (trcs (l.zip ts))[i * 2 + 0]? = some (.int .i64 x.wh) := by
  have hz : (l.zip ts)[i]? = some (x, t) := by
    rw [List.getElem?_zip_eq_some]
    exact ⟨hx, ht⟩
  exact (flatMap_at (enc := fun p : Trg × Sl => p.1.cells p.2) (k := 2) (fun _ => rfl) hz (j := 0) (by decide)).trans rfl
set_option maxRecDepth 100000 in
set_option maxHeartbeats 3200000 in
theorem ccopy_any (c : Cd) (m : CdM) (w : World) (h : CdR w c m) (hsm : CdB c) : Calls Tryd.prog 22 #[.agg (c.cells m).toArray] w (CopyEnd c w) := by
  have HR := Lib.hid h
  have HSM := Lib.hid hsm
  obtain ⟨w1, hw1⟩ : ∃ x, (w.alloc (.cells (c.cells m).toArray 74)).alloc (.cells zcd 74) = x := ⟨_, rfl⟩
  have hz : zcd = #[.string ⟨#[]⟩, .int .i64 0, .int .i64 0, .int .i64 0, .int .i64 0, .int .i64 0, .int .i64 0, .int .i64 0, .int .i64 0, .int .i64 0, .int .i64 0, .slice none 0 0, .slice none 0 0, .int .i64 0] := rfl
  have HP : Hid (Blk w1 w.heap.size 74 (c.cells m).toArray) := Lib.hid (by rw [← hw1]; exact (Blk.mk_ _ _ _ _ rfl).alloc _)
  have HRES : Hid (Blk w1 (w.heap.size + 1) 74 zcd) := Lib.hid (by rw [← hw1]; exact Blk.mk_ _ _ _ _ (by simp))
  have HB1 : Hid (Below w.heap.size w w1) := Lib.hid (by rw [← hw1]; exact ((Below.refl _ _).alloc (Nat.le_refl _) _).alloc (by simp) _)
  obtain ⟨cs, hcs⟩ : ∃ cs, (c.cells m).toArray = cs := ⟨_, rfl⟩
  have HCS := Lib.hid hcs
  rw [hcs, hz] at hw1
  rw [hcs]
  clear h hsm hz hcs
  go_enter Tryd.func22, Tryd.ntmps22
  go_wp2
  clear hw1
  refine cd_lists w w1 c m HR.out HSM.out HB1.out HP.out HRES.out _ _ _ _ _ _ _ _ _ _ _ _ _ _ _ _ _ _ _ _ _ _ _ _ _ _ _ _ _ _ _ ?_ ?_
  · exact fun d _ _ _ _ h => by cases d <;> exact h
  intro v5 v6 v7 v8 v9 v10 v11 v12 m' w2 ⟨hTS, hE, hT, hP, hRs, hB⟩
  obtain ⟨⟨EA, ec⟩, ⟨TA, tc⟩, TS0⟩ := m'
  simp only at hTS hE hT
  subst hTS
  obtain ⟨n, hn⟩ : ∃ x, c.trs.length = x := ⟨_, rfl⟩
  have HN := Lib.hid hn
  have x12 : w2.cell? ⟨w.heap.size, 12, none⟩ = some (.slice TA n tc) := (hP.at_ 12).trans (by show some (Value.slice TA c.trs.length tc) = _; rw [hn])
  have hn9 : n ≤ 100000 := by have := HSM.out.T; omega
  have HI0 : Hid (TrS w c.trs m.TS TA n tc 0 m.TS w2) := Lib.hid ⟨by rw [← hn]; exact hT, HR.out.T.len, fun i x t _ h2 => .inl ⟨Nat.zero_le _, h2⟩, hB⟩
  have HE0 := Lib.hid hE
  have HP0 := Lib.hid hP
  have HR0 := Lib.hid hRs
  clear hE hT hP hRs hB hn HP HRES HB1
  go_wp2_with fail
  clear x12
  go_loopw [16] (fun i W => ∃ (k : Nat) (ts' : List Sl), k ≤ n ∧ i = .int .i64 k ∧ Hid (TrS w c.trs m.TS TA n tc k ts' W) ∧ Hid (Blk W w.heap.size 74 (c.cells ⟨⟨EA, ec⟩, ⟨TA, tc⟩, m.TS⟩).toArray) ∧ Hid (XOwns W w.heap.size 106 5 EA c.efs.length ec (ecs c.efs)) ∧ Hid (Blk W (w.heap.size + 1) 74 zcd)) (fun i _ => n - (intOf i).toNat)
  case atStart => exact ⟨0, m.TS, Nat.zero_le _, rfl, HI0, HP0, HE0, HR0⟩
  case round =>
    clear HI0 HP0 HE0 HR0
    obtain ⟨k, ts', hk, rfl, HI, HP, HE, HRS⟩ := hrel
    by_cases hkn : k < n
    · have hkn' : (k : Int) < n := by omega
      obtain ⟨x, hx⟩ := get_of (l := c.trs) (k := k) (by rw [HN.out]; exact hkn)
      obtain ⟨t, ht⟩ := get_of (l := ts') (k := k) (by rw [HI.out.len, HN.out]; exact hkn)
      obtain ⟨g, rfl, hg1, hg2, c1, f1⟩ := HI.out.row.cell (trcs_at hx ht)
      obtain ⟨g9, e9, -, -, c0, -⟩ := HI.out.row.cell (trcs_at0 hx ht)
      injection e9 with e9
      injection e9 with e9
      subst e9
      obtain ⟨tA, uc⟩ := t
      have HX := Lib.hid hx
      have HT := Lib.hid ht
      simp only [Sl.v] at c1
      simp only [Nat.add_zero] at c0
      obtain ⟨w5, hw5⟩ : ∃ y, wr.alloc (.cells #[.int .i64 x.wh, .slice tA x.efs.length uc] 112) = y := ⟨_, rfl⟩
      have hb5 : Below wr.heap.size wr w5 := by rw [← hw5]; exact (Below.refl _ _).alloc (Nat.le_refl _) _
      have HT5 : Hid (Blk w5 wr.heap.size 112 #[.int .i64 x.wh, .slice tA x.efs.length uc]) := Lib.hid (by rw [← hw5]; exact Blk.mk_ _ _ _ _ rfl)
      have HI5 := Lib.hid (HI.out.below hb5)
      have HP5 := Lib.hid (HP.out.call hb5)
      have HE5 := Lib.hid (HE.out.below hb5)
      have HR5 := Lib.hid (HRS.out.call hb5)
      clear hx ht f1 hb5 HI HP HE HRS
      go_wp2_with fail
      clear c0 c1 hw5
      refine cd_trig w w5 c ⟨EA, ec⟩ g tc k wr.heap.size tA uc m.TS m.TS ts' x m.T HR.out.T HX.out (by have := HI5.out; rwa [← HN.out] at this) HT.out HSM.out HP5.out HT5.out HE5.out HR5.out _ _ _ _ _ _ _ _ _ _ _ _ _ _ _ _ _ _ _ _ _ _ _ _ _ _ _ _ _ ?_ ?_
      · exact fun d _ _ _ _ h => by cases d <;> exact h
      intro v21 v22 v23 v24 v25 v26 v27 v28 ts3 w6 ⟨hI6, hP6, hE6, hR6⟩
      have HI6 := Lib.hid hI6
      rw [HN.out] at HI6
      have HP6 := Lib.hid hP6
      have HE6 := Lib.hid hE6
      have HR6 := Lib.hid hR6
      clear hI6 hP6 hE6 hR6
      go_wp2_with fail
      go_roundw
      case rel => exact ⟨k + 1, ts3, hkn, by go_num, HI6, HP6, HE6, HR6⟩
      case measure => simp [intOf]; omega
    · have HKE : Hid (k = n) := Lib.hid (by omega)
      clear hk
      have hHL : (Instr.loadAt 74 (.pointer (some ⟨w.heap.size, 0, none⟩))).run Tryd.prog wr = .ok (.agg (c.cells ⟨⟨EA, ec⟩, ⟨TA, tc⟩, m.TS⟩).toArray) wr := HP.out.mid (o := 0) (ty := 74) (c.cells ⟨⟨EA, ec⟩, ⟨TA, tc⟩, m.TS⟩) _ (fun j v hj => by rw [Nat.zero_add]; simpa using hj) Tryd.underlying74 rfl (by rw [size_card]; rfl)
      have HLP := Lib.hid hHL
      obtain ⟨W8, hst, hB8, hg8⟩ := HRS.out.storeAll (ty := 74) (c.cells ⟨⟨EA, ec⟩, ⟨TA, tc⟩, m.TS⟩) rfl (by rw [size_card]; rfl) (one_cd _ _)
      have HST := Lib.hid hst
      have HB8 := Lib.hid hB8
      have hO := (HI.out.done HR.out.T HN.out HKE.out)
      have HEND : Hid (CdO W8 w.heap.size c ⟨⟨EA, ec⟩, ⟨TA, tc⟩, ts'⟩ ∧ Below w.heap.size w W8) := Lib.hid ⟨⟨HR.out.nm, HE.out.blk_ HRS.out hg8 (by decide), hO.blk HRS.out hg8 (by decide) (by decide)⟩, HI.out.bel.grown hg8 HI.out.bel.size (fun q hq => by injection hq with hq; omega)⟩
      have hcells : (c.cells ⟨⟨EA, ec⟩, ⟨TA, tc⟩, m.TS⟩).toArray = (c.cells ⟨⟨EA, ec⟩, ⟨TA, tc⟩, ts'⟩).toArray := rfl
      rw [hcells] at HLP HST HB8
      obtain ⟨PC, hPC⟩ : ∃ PC, (c.cells ⟨⟨EA, ec⟩, ⟨TA, tc⟩, ts'⟩).toArray = PC := ⟨_, rfl⟩
      have hsz : PC.size = 14 := by rw [← hPC]; rfl
      have HPE := Lib.hid hPC
      have HSZ := Lib.hid hsz
      rw [hPC] at HLP HST HB8
      clear hst hB8 hg8 hO hcells hPC hsz hHL HI HP HE HRS
      go_wp2_with (first | (refine wpList_load_by HLP.out rfl rfl rfl ?_; simp only [Act.put, List.setIfInBounds_toArray, List.set_cons_succ, List.set_cons_zero]) | (refine wpList_store_by HST.out rfl rfl rfl rfl ?_; simp only [Act.put, List.setIfInBounds_toArray, List.set_cons_succ, List.set_cons_zero]) | fail)
      refine bodyPost_ret (v := .agg PC) (ret_cell (fn := Tryd.f22) (p := 2) rfl rfl HB8.out Tryd.underlying74 rfl (by rw [size_card, HSZ.out])) rfl ?_
      exact ⟨⟨⟨EA, ec⟩, ⟨TA, tc⟩, ts'⟩, by rw [HPE.out], HEND.out.1, HEND.out.2⟩
end Go.Proofs.YtpbbemmjodegkaaDoor
