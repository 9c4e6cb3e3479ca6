/-
  Texts: Shs, Eqs.
-/
import Derived.Test.YtagpphelgghbpaaTk24
import Derived.Test.YtagpphelgghbpaaTk25
/-
  A board is shown, and seen.
-/
set_option linter.unusedSimpArgs false
set_option linter.unusedVariables false
namespace Go.Proofs.Ytagpphelgghbpaa
open Go.RowKit

def ShowEnd (b : Bd) (w0 : World) (g : Nat) (e : Ending) (w' : World) : Prop := e = .returned (.int .i64 0) ∧ ∃ (A : Option Addr) (c : Nat) (m' : PuM), Blk w' g 102 #[.bool true, .int .u64 0, .int .u64 1, .slice A 1 c] ∧ XOwns w' w0.heap.size 108 38 A 1 c ((puOf b).cells m' ++ [.int .u64 1]) ∧ PuO w' w0.heap.size (puOf b) m' ∧ Below w0.heap.size w0 w'
set_option maxRecDepth 100000 in
set_option maxHeartbeats 3200000 in
theorem show_any (b : Bd) (m : BdM) (w0 w : World) (g : Nat) (h : BdR w b m) (hz : b.plc.length < 9223372036854775807) (hv : b.Valid) (hB : Below w0.heap.size w0 w) (hg : w0.heap.size ≤ g) (hS : Blk w g 102 #[.bool true, .int .u64 0, .int .u64 0, .slice none 0 0]) :
    Calls Try.prog 18 #[.pointer (some ⟨g, 0, none⟩), .int .u64 1, .agg (b.cells m).toArray] w (ShowEnd b w0 g) := by
  have HG := Lib.hid hg
  have HR := Lib.hid h
  obtain ⟨cs, hcs⟩ : ∃ cs, (b.cells m).toArray = cs := ⟨_, rfl⟩
  have HOF : Hid (∀ W, Below w.heap.size w W → Calls Try.prog 38 #[.agg cs] W (SofEnd b W)) := Lib.hid (fun W hb => by rw [← hcs]; exact sof_any b m W (h.below hb) hz hv)
  obtain ⟨w1, hw1⟩ : ∃ w1, w.alloc (.cells cs 33) = w1 := ⟨_, rfl⟩
  have HB1 : Hid (Below w.heap.size w w1) := Lib.hid (by rw [← hw1]; exact (Below.refl _ _).alloc (Nat.le_refl _) _)
  have hbx : Blk w1 w.heap.size 33 cs := by rw [← hw1]; exact Blk.mk_ w _ _ _ rfl
  have HBX1 := Lib.hid hbx
  have HLB : Hid ((Instr.loadAt 33 (.pointer (some ⟨w.heap.size, 0, none⟩))).run Try.prog w1 = .ok (.agg cs) w1) := Lib.hid (by
    rw [← hcs] at hbx ⊢
    exact hbx.mid (b.cells m) _ (fun j v hj => by rw [Nat.zero_add]; simpa using hj) Try.underlying33 rfl size_board)
  have HW0 := Lib.hid (below_call hB HB1.out hB.size)
  have HS1 := Lib.hid (hS.call HB1.out)
  have n1 : w1.cell? ⟨g, 0, none⟩ = some (.bool true) := (HS1.out.at_ 0).trans rfl
  rw [hcs]
  clear h hz hv hB hg hS hcs hbx
  go_enter Try.func18, Try.ntmps18
  go_wp2_with (first
    | (go_at_call 37; refine (none_f g w1 n1).mono ?_; rintro e w_ ⟨rfl, rfl⟩)
    | (refine wpList_load_by HLB.out rfl rfl rfl ?_; simp only [Act.put, List.setIfInBounds_toArray, List.set_cons_succ, List.set_cons_zero])
    | fail)
  refine (HOF.out w1 HB1.out).mono ?_
  rintro e w2 ⟨m', rfl, hO, hb2⟩
  have hone := one_pu (puOf b) m'
  have hlen : ((puOf b).cells m').length = 37 := rfl
  obtain ⟨PC, hPC⟩ : ∃ l, (puOf b).cells m' = l := ⟨_, rfl⟩
  rw [hPC] at hone hlen
  rw [hPC]
  have HPC := Lib.hid hPC
  have HONE := Lib.hid hone
  have HLEN := Lib.hid hlen
  obtain ⟨g7, hg7⟩ : ∃ x, w2.heap.size = x := ⟨_, rfl⟩
  have hz3 := Blk.mk_ w2 59 zpu g7 hg7
  obtain ⟨W4, hst, hB4, hg4⟩ := hz3.storeAll (ty := 59) PC (by rw [hlen]; rfl) (by rw [size_public, hlen]) hone
  have hb24 : Below w2.heap.size w2 W4 := ((Below.refl _ _).alloc (Nat.le_refl _) _).grown hg4 (by simp) (fun q hq => by injection hq with hq; omega)
  have HST := Lib.hid hst
  have HS4 := Lib.hid ((HS1.out.call hb2).call hb24)
  have HB4 := Lib.hid (below_call HW0.out (hb2.trans (hb24.mono hb2.size)) HW0.out.size)
  have HP4 := Lib.hid hB4
  have HO4 := Lib.hid ((hO.below hb24).more HW0.out.size)
  have HN7 : Hid (w0.heap.size ≤ g7 ∧ g ≠ g7) := Lib.hid ⟨by have := HW0.out.size; have := hb2.size; omega, by have := (HS1.out.call hb2).lt; omega⟩
  clear hO hb2 hone hlen hPC hz3 hst hB4 hg4 hb24 n1 hw1
  unfold zpu at HST
  go_wp2_with (first
    | (refine wpList_store_by HST.out rfl rfl rfl rfl ?_; simp only [Act.put, List.setIfInBounds_toArray, List.set_cons_succ, List.set_cons_zero])
    | (go_at_call 39; refine (goOn_any g 0 0 none 0 W4 HS4.out (by omega) (.inl rfl)).mono ?_)
    | fail)
  rintro e w5 ⟨rfl, hS5, hg5⟩
  have HS5 := Lib.hid hS5
  have hw0g := HG.out
  have HB5 := Lib.hid (HB4.out.grown hg5 HB4.out.size (fun q hq => by injection hq with hq; omega))
  have HP5 := Lib.hid (HP4.out.grown hg5 (fun e => by injection e with e; exact HN7.out.2 e.symm))
  have HO5 := Lib.hid (HO4.out.blk HS4.out hg5 (by unfold offT; decide))
  have c3 := (HS5.out.at_ 3).trans rfl
  have hgl := HS5.out.lt
  clear hS5 hg5 HST hg7
  go_wp2_with fail
  refine sh_app w0 w5 g g7 PC (puOf b) m' HLEN.out HONE.out HB5.out HG.out HN7.out.1 HN7.out.2 HS5.out HP5.out HO5.out _ _ _ _ _ _ _ _ _ _ _ _ _ _ _ _ _ _ _ _ _ _ _ _ _ _ _ _ _ _ _ _ _ _ _ _ _ _ _ _ _ _ _ _ _ _ ?_ ?_
  · exact fun d _ _ _ _ h => by cases d <;> exact h
  intro v28 v29 v30 v31 v32 v33 v34 v35 v36 v37 v38 v39 v40 v41 v42 v43 A c w6 h6
  have HS6 := Lib.hid h6.1
  have HX6 := Lib.hid h6.2.1
  have HO6 := Lib.hid h6.2.2.1
  have HB6 := Lib.hid h6.2.2.2
  clear h6 c3 hgl HS5 HB5 HP5 HO5
  go_wp2_with (first
    | (go_at_call 39; refine (goOn_any g 1 c A 1 w6 HS6.out (by omega) (.inr rfl)).mono ?_)
    | fail)
  rintro e w7 ⟨rfl, hS7, hg7⟩
  have HS7 := Lib.hid hS7
  have HB7 := Lib.hid (HB6.out.grown hg7 HB6.out.size (fun q hq => by injection hq with hq; omega))
  have HX7 := Lib.hid (HX6.out.blk_ HS6.out hg7 (by decide))
  have HO7 := Lib.hid (HO6.out.blk HS6.out hg7 (by unfold offT; decide))
  clear hS7 hg7
  go_wp2_with fail
  go_ret
  exact ⟨rfl, A, c, m', HS7.out, by rw [HPC.out]; exact HX7.out, HO7.out, HB7.out⟩
set_option maxRecDepth 100000 in
set_option maxHeartbeats 3200000 in
theorem see_copy (w0 W : World) (g gA c g4 : Nat) (p : Pu) (m : PuM) (hsm : PuSm p) (hB : Below w0.heap.size w0 W) (hg4 : w0.heap.size ≤ g4) (hne : g ≠ g4) (hS : Blk W g 102 #[.bool true, .int .u64 0, .int .u64 1, .slice (some ⟨gA, 0, none⟩) 1 c]) (hX : XOwns W w0.heap.size 108 38 (some ⟨gA, 0, none⟩) 1 c (p.cells m ++ [Value.int .u64 1])) (hO : PuO W w0.heap.size p m) (h4 : Blk W g4 59 zpu) (Q : Exit → Act → World → Prop) (t1 t2 t3 t5 t6 t7 t8 t9 t10 t11 t12 t13 t14 t15 t16 t17 t18 t19 t20 t21 t22 t23 t24 t25 t26 t27 t28 t29 t30 t31 t32 t33 t34 t35 t36 t37 t38 t39 t40 t41 t42 t43 t44 t45 : Value)
    (hQ : ∀ d v c a w, Q (.panic c) (Act.put a d v) w → Q (.panic c) a w)
    (hK : ∀ (u31 u32 u33 u34 u35 u36 u37 u38 u39 u40 u41 u42 u43 u44 u45 : Value) (m' : PuM) (W9 : World), Blk W9 g4 59 (p.cells m').toArray ∧ PuO W9 w0.heap.size p m' ∧ Below w0.heap.size w0 W9 → Q .normal ⟨#[.pointer (some ⟨g, 0, none⟩), t1, t2, t3, .pointer (some ⟨g4, 0, none⟩), .int .u64 1, .int .i64 0, t7, t8, t9, t10, t11, t12, t13, t14, t15, t16, t17, t18, t19, t20, t21, t22, t23, t24, t25, t26, t27, t28, t29, t30, u31, u32, u33, u34, u35, u36, u37, u38, u39, u40, u41, u42, u43, u44, u45], []⟩ W9) :
    Code.wp Try.prog (regOf Try.f19 6) Q ⟨#[.pointer (some ⟨g, 0, none⟩), t1, t2, t3, .pointer (some ⟨g4, 0, none⟩), t5, t6, t7, t8, t9, t10, t11, t12, t13, t14, t15, t16, t17, t18, t19, t20, t21, t22, t23, t24, t25, t26, t27, t28, t29, t30, t31, t32, t33, t34, t35, t36, t37, t38, t39, t40, t41, t42, t43, t44, t45], []⟩ W := by
  have HKK := Lib.hid hK
  clear hK
  conv => arg 2; whnf
  have HB := Lib.hid hB
  have HS := Lib.hid hS
  have HX := Lib.hid hX
  have HO := Lib.hid hO
  have H4 := Lib.hid h4
  have HG4 := Lib.hid hg4
  have HNE := Lib.hid hne
  have HSM := Lib.hid hsm
  have HQ := Lib.hid hQ
  have hsl := hS.lt
  have hal := (hX.lt gA rfl).2
  have hne_ : Nonempty (In (fun W' => Blk W' g 102 #[.bool true, .int .u64 0, .int .u64 1, .slice (some ⟨gA, 0, none⟩) 1 c] ∧ XOwns W' w0.heap.size 108 38 (some ⟨gA, 0, none⟩) 1 c (p.cells m ++ [Value.int .u64 1]))) := ⟨⟨W, hS, hX⟩⟩
  have hcell : ∀ s : In (fun W' => Blk W' g 102 #[.bool true, .int .u64 0, .int .u64 1, .slice (some ⟨gA, 0, none⟩) 1 c] ∧ XOwns W' w0.heap.size 108 38 (some ⟨gA, 0, none⟩) 1 c (p.cells m ++ [Value.int .u64 1])), ∀ (j : Nat) (u : Value), (p.cells m ++ [Value.int .u64 1])[j]? = some u → s.W.cell? ⟨gA, j, none⟩ = some u := fun s j u hj => by
    obtain ⟨ad, e, _, hc⟩ := s.h.2.reads.2 (by omega)
    injection e with e
    subst e
    have := hc j u hj
    rw [show Addr.add ⟨gA, 0, none⟩ j = ⟨gA, j, none⟩ by unfold Addr.add; split <;> simp_all] at this
    exact this
  have x3 : ∀ s : In (fun W' => Blk W' g 102 #[.bool true, .int .u64 0, .int .u64 1, .slice (some ⟨gA, 0, none⟩) 1 c] ∧ XOwns W' w0.heap.size 108 38 (some ⟨gA, 0, none⟩) 1 c (p.cells m ++ [Value.int .u64 1])), s.W.cell? ⟨g, 3, none⟩ = some (.slice (some ⟨gA, 0, none⟩) 1 c) := fun s => (s.h.1.at_ 3).trans rfl
  have x37 : ∀ s : In (fun W' => Blk W' g 102 #[.bool true, .int .u64 0, .int .u64 1, .slice (some ⟨gA, 0, none⟩) 1 c] ∧ XOwns W' w0.heap.size 108 38 (some ⟨gA, 0, none⟩) 1 c (p.cells m ++ [Value.int .u64 1])), s.W.cell? ⟨gA, 37, none⟩ = some (.int .u64 1) := fun s => hcell s 37 _ rfl
  have HL59 : Hid (∀ W', (∃ s : In (fun W' => Blk W' g 102 #[.bool true, .int .u64 0, .int .u64 1, .slice (some ⟨gA, 0, none⟩) 1 c] ∧ XOwns W' w0.heap.size 108 38 (some ⟨gA, 0, none⟩) 1 c (p.cells m ++ [Value.int .u64 1])), W' = s.W) → (Instr.loadAt 59 (.pointer (some ⟨gA, 0, none⟩))).run Try.prog W' = .ok (.agg (p.cells m).toArray) W') := Lib.hid (fun W' hW => by
    obtain ⟨s, rfl⟩ := hW
    exact run_loadAt_mid s.W gA 0 59 (p.cells m) _ (fun j v hj => by rw [Nat.zero_add]; exact hcell s j v (by rw [List.getElem?_append_left ((List.getElem?_eq_some_iff.1 hj).1)]; exact hj)) Try.underlying59 rfl (by rw [size_public]; rfl))
  clear hsm hB hS hX hO h4 hg4 hne hQ hcell
  refine wp_region_sched (fun w' => ∃ s : In (fun W' => Blk W' g 102 #[.bool true, .int .u64 0, .int .u64 1, .slice (some ⟨gA, 0, none⟩) 1 c] ∧ XOwns W' w0.heap.size 108 38 (some ⟨gA, 0, none⟩) 1 c (p.cells m ++ [Value.int .u64 1])), w' = s.W) [0,1,2,3,4,5,6,8,9,10,11,12,13,14] (.one 7 [] (.one 15 [16,17] .done)) (by kernel_rfl) (by kernel_rfl) HQ.out ⟨⟨_, ⟨HS.out.drew, HX.out⟩⟩, rfl⟩ ?_
  refine quiet_as (C' := (fun w' => ∃ s : In (fun W' => Blk W' g 102 #[.bool true, .int .u64 0, .int .u64 1, .slice (some ⟨gA, 0, none⟩) 1 c] ∧ XOwns W' w0.heap.size 108 38 (some ⟨gA, 0, none⟩) 1 c (p.cells m ++ [Value.int .u64 1])), w' = s.W)) rfl ?_
  simp only [opsAt, List.getElem?_toArray, List.getElem?_cons_succ, List.getElem?_cons_zero]
  repeat (first | (refine wpQuiet_load_by HL59.out ⟨_, ⟨⟨_, HS.out, HX.out⟩, rfl⟩⟩ rfl rfl rfl ?_; simp only [Act.put, List.setIfInBounds_toArray, List.set_cons_succ, List.set_cons_zero]) | go_big_quiet_step (fail))
  refine wpQuiet_nil ?_
  obtain ⟨W_d, hwd⟩ : ∃ v, W.drew = v := ⟨_, rfl⟩
  have HBW_1 : Hid (Below w0.heap.size w0 W_d) := Lib.hid (by rw [← hwd]; exact (HB.out).drew)
  have HBR_1 : Hid (Below W.heap.size W W_d) := Lib.hid (by rw [← hwd]; exact (Below.refl _ _).drew)
  have SB_1 := Lib.hid ((HS.out).call (show Below W.heap.size W W_d by rw [← hwd]; exact (Below.refl _ _).drew))
  have FX_1 := Lib.hid ((HX.out).below (show Below W.heap.size W W_d by rw [← hwd]; exact (Below.refl _ _).drew))
  have FO_1 := Lib.hid ((HO.out).below (show Below W.heap.size W W_d by rw [← hwd]; exact (Below.refl _ _).drew))
  have P4_1 := Lib.hid ((H4.out).call (show Below W.heap.size W W_d by rw [← hwd]; exact (Below.refl _ _).drew))
  rw [hwd]
  clear hwd
  refine eff_as (C' := (fun w' => ∃ s : In (fun W' => Blk W' g 102 #[.bool true, .int .u64 0, .int .u64 1, .slice (some ⟨gA, 0, none⟩) 1 c] ∧ XOwns W' w0.heap.size 108 38 (some ⟨gA, 0, none⟩) 1 c (p.cells m ++ [Value.int .u64 1])), w' = s.W)) rfl ?_
  (refine eff_lit rfl rfl (fun K hK => ?_))
  go_big_op
  refine (copied_any p m W_d FO_1.out.isR HSM.out).mono ?_
  rintro e W_2 ⟨m', rfl, hx, hbW_2⟩
  have FN_3 := Lib.hid ((hx.more HBW_1.out.size : PuO _ w0.heap.size p m'))
  have HBW_3 := Lib.hid (below_call HBW_1.out hbW_2 HBW_1.out.size)
  clear HBW_1
  have HBR_3 := Lib.hid (below_call HBR_1.out hbW_2 HBR_1.out.size)
  clear HBR_1
  have SB_3 := Lib.hid (SB_1.out.call hbW_2)
  clear SB_1
  have FX_3 := Lib.hid (FX_1.out.below hbW_2)
  clear FX_1
  have FO_3 := Lib.hid (FO_1.out.below hbW_2)
  clear FO_1
  have P4_3 := Lib.hid (P4_1.out.call hbW_2)
  clear P4_1
  clear hbW_2
  clear hx
  refine hK _ _ ⟨⟨_, ⟨SB_3.out, FX_3.out⟩⟩, rfl⟩ ?_
  clear hK K
  try simp only [opsAt, List.getElem?_toArray, List.getElem?_cons_succ, List.getElem?_cons_zero]
  refine wpQuiet_nil ?_
  refine eff_as (C' := (fun w' => ∃ s : In (fun W' => Blk W' g 102 #[.bool true, .int .u64 0, .int .u64 1, .slice (some ⟨gA, 0, none⟩) 1 c] ∧ XOwns W' w0.heap.size 108 38 (some ⟨gA, 0, none⟩) 1 c (p.cells m ++ [Value.int .u64 1])), w' = s.W)) rfl ?_
  (refine eff_lit rfl rfl (fun K hK => ?_))
  obtain ⟨W_4, hrun, hk9, hg9⟩ := P4_3.out.storeAll (ty := 59) (p.cells m') rfl (by rw [size_public]; rfl) (one_pu _ _)
  refine wp_store_by hrun rfl rfl rfl ?_
  simp only [Act.put, List.setIfInBounds_toArray, List.set_cons_succ, List.set_cons_zero]
  clear hrun
  have hG9 := HG4.out
  have HBW_5 := Lib.hid (HBW_3.out.grown hg9 HBW_3.out.size (fun q hq => by injection hq with hq; omega))
  clear HBW_3
  have SB_5 := Lib.hid (SB_3.out.grown hg9 (fun e => by injection e with e; exact HNE.out e))
  clear SB_3
  have FX_5 := Lib.hid (FX_3.out.blk_ P4_3.out hg9 (by decide))
  clear FX_3
  have FN_5 := Lib.hid (FN_3.out.blk P4_3.out hg9 (by unfold offT; decide))
  clear FN_3
  clear hG9 hg9
  have HK9 := Lib.hid hk9
  clear hk9
  refine hK _ _ ⟨⟨_, ⟨SB_5.out, FX_5.out⟩⟩, rfl⟩ ?_
  clear hK K
  try simp only [opsAt, List.getElem?_toArray, List.getElem?_cons_succ, List.getElem?_cons_zero]
  repeat (first | (refine wpQuiet_load_by HL59.out ⟨_, ⟨⟨_, HS.out, HX.out⟩, rfl⟩⟩ rfl rfl rfl ?_; simp only [Act.put, List.setIfInBounds_toArray, List.set_cons_succ, List.set_cons_zero]) | go_big_quiet_step (fail))
  refine wpQuiet_nil ?_
  refine effs_done ?_
  exact HKK.out _ _ _ _ _ _ _ _ _ _ _ _ _ _ _ m' _ ⟨HK9.out, FN_5.out, HBW_5.out⟩

set_option maxRecDepth 100000 in
theorem size_shown : (Try.prog.info? 108).map (·.size) = some 38 := by decide +kernel
def SeeEnd (w0 : World) (p : Pu) (e : Ending) (w' : World) : Prop := ∃ m', e = .returned (.tuple #[.agg (p.cells m').toArray, .int .u64 1, .int .i64 0]) ∧ PuO w' w0.heap.size p m' ∧ Below w0.heap.size w0 w'
theorem ret_cell3 {fn : Func} {p q r : Tmp} {ty : TypeId} {tmps : Array Value} {w : World} {g t : Nat} {cs : Array Value} {d : TypeDesc} (h : fn.results = #[.cell p ty, .tmp q, .tmp r]) (hp : tmps.getD p undef = .pointer (some ⟨g, 0, none⟩)) (hb : Blk w g t cs)
    (hu : Try.prog.underlying ty = some d) (hd : d.isRow = true) (hi : (Try.prog.info? ty).map (·.size) = some cs.size) : (results fn tmps).run Try.prog w = .ok (.tuple #[.agg cs, tmps.getD q undef, tmps.getD r undef]) w := by
  have hp' : tmps[p]?.getD undef = .pointer (some ⟨g, 0, none⟩) := by simpa using hp
  simp [results, h, hp', asAddr, run_loadVar_row w g t ty cs (0, 0) d hb hu (by cases d <;> simp_all) hi]
set_option maxRecDepth 100000 in
set_option maxHeartbeats 3200000 in
theorem see_any (w0 w : World) (g c : Nat) (A : Option Addr) (p : Pu) (m : PuM) (hsm : PuSm p) (hB : Below w0.heap.size w0 w) (hg : w0.heap.size ≤ g) (hS : Blk w g 102 #[.bool true, .int .u64 0, .int .u64 1, .slice A 1 c]) (hX : XOwns w w0.heap.size 108 38 A 1 c (p.cells m ++ [Value.int .u64 1])) (hO : PuO w w0.heap.size p m) :
    Calls Try.prog 19 #[.pointer (some ⟨g, 0, none⟩), .int .u64 1] w (SeeEnd w0 p) := by
  have HSM := Lib.hid hsm
  have HG := Lib.hid hg
  obtain ⟨gA, rfl⟩ : ∃ gA, A = some ⟨gA, 0, none⟩ := by
    obtain ⟨gA, cap, hv, _⟩ := hX.1.form (by omega)
    injection hv
    exact ⟨gA, by assumption⟩
  obtain ⟨w1, hw1⟩ : ∃ w1, w.alloc (.cells zpu 59) = w1 := ⟨_, rfl⟩
  obtain ⟨g4, hg4⟩ : ∃ x, w.heap.size = x := ⟨_, rfl⟩
  have hal : Below w.heap.size w w1 := by rw [← hw1]; exact (Below.refl _ _).alloc (Nat.le_refl _) _
  have H41 : Hid (Blk w1 g4 59 zpu) := Lib.hid (by rw [← hw1]; exact Blk.mk_ w _ _ _ hg4)
  have HN4 : Hid (w0.heap.size ≤ g4 ∧ g ≠ g4) := Lib.hid ⟨by have := hB.size; omega, by have := hS.lt; omega⟩
  have HB1 := Lib.hid (below_call hB hal hB.size)
  have HS1 := Lib.hid (hS.call hal)
  have HX1 := Lib.hid (hX.below hal)
  have HO1 := Lib.hid (hO.below hal)
  have n1 : w1.cell? ⟨g, 0, none⟩ = some (.bool true) := (HS1.out.at_ 0).trans rfl
  clear hsm hB hg hS hX hO hal
  unfold zpu at hw1
  go_enter Try.func19, Try.ntmps19
  go_wp2_with (first
    | (go_at_call 37; refine (none_f g w1 n1).mono ?_; rintro e w_ ⟨rfl, rfl⟩)
    | (go_at_call 39; refine (goOn_any g 1 c _ 1 w1 HS1.out (by omega) (.inr rfl)).mono ?_)
    | fail)
  rintro e w2 ⟨rfl, hS2, hg2⟩
  have hw0g := HG.out
  have HS2 := Lib.hid hS2
  have HB2 := Lib.hid (HB1.out.grown hg2 HB1.out.size (fun q hq => by injection hq with hq; omega))
  have HX2 := Lib.hid (HX1.out.blk_ HS1.out hg2 (by decide))
  have HO2 := Lib.hid (HO1.out.blk HS1.out hg2 (by unfold offT; decide))
  have H42 := Lib.hid (H41.out.grown hg2 (fun e => by injection e with e; exact HN4.out.2 e.symm))
  have c1 := (HS2.out.at_ 1).trans rfl
  have c2 := (HS2.out.at_ 2).trans rfl
  have c3 := (HS2.out.at_ 3).trans rfl
  have hgl := HS2.out.lt
  have HL108 : Hid ((Instr.loadAt 108 (.pointer (some ⟨gA, 0, none⟩))).run Try.prog w2 = .ok (.agg (p.cells m ++ [Value.int .u64 1]).toArray) w2) := Lib.hid (by
    refine run_loadAt_mid w2 gA 0 108 (p.cells m ++ [Value.int .u64 1]) _ (fun j v hj => ?_) Try.underlying108 rfl (by rw [size_shown]; rfl)
    obtain ⟨ad, e, _, hc⟩ := HX2.out.reads.2 (by omega)
    injection e with e
    subst e
    have := hc j v hj
    rw [show Addr.add ⟨gA, 0, none⟩ j = ⟨gA, j, none⟩ by unfold Addr.add; split <;> simp_all] at this
    rw [Nat.zero_add]
    exact this)
  have HDU := Lib.hid (due_any g (p.cells m ++ [Value.int .u64 1]) w2 c1 c2 hgl rfl)
  obtain ⟨C8, hC8⟩ : ∃ C8, (p.cells m ++ [Value.int .u64 1]).toArray = C8 := ⟨_, rfl⟩
  rw [hC8] at HL108 HDU
  clear hS2 hg2 hC8 c1 c2 n1 hw1 hg4
  go_wp2_with (first
    | (refine wpList_load_by HL108.out rfl rfl rfl ?_; simp only [Act.put, List.setIfInBounds_toArray, List.set_cons_succ, List.set_cons_zero])
    | fail)
  refine HDU.out.mono ?_
  rintro e w3 ⟨rfl, hb3⟩
  have HS3 := Lib.hid (HS2.out.call hb3)
  have HB3 := Lib.hid (below_call HB2.out hb3 HB2.out.size)
  have HX3 := Lib.hid (HX2.out.below hb3)
  have HO3 := Lib.hid (HO2.out.below hb3)
  have H43 := Lib.hid (H42.out.call hb3)
  clear hb3 c3 hgl HL108 HDU
  go_wp2_with fail
  refine see_copy w0 w3 g gA c g4 p m HSM.out HB3.out HN4.out.1 HN4.out.2 HS3.out HX3.out HO3.out H43.out _ _ _ _ _ _ _ _ _ _ _ _ _ _ _ _ _ _ _ _ _ _ _ _ _ _ _ _ _ _ _ _ _ _ _ _ _ _ _ _ _ _ _ _ _ ?_ ?_
  · exact fun d _ _ _ _ h => by cases d <;> exact h
  intro v31 v32 v33 v34 v35 v36 v37 v38 v39 v40 v41 v42 v43 v44 v45 m' w9 h9
  have H9 := Lib.hid h9
  clear h9
  go_wp2_with fail
  refine bodyPost_ret (v := .tuple #[.agg (p.cells m').toArray, .int .u64 1, .int .i64 0]) ((ret_cell3 (fn := Try.f19) (p := 4) (q := 5) (r := 6) rfl rfl H9.out.1 Try.underlying59 rfl (by rw [size_public]; rfl)).trans rfl) rfl ?_
  exact ⟨m', rfl, H9.out.2.1, H9.out.2.2⟩
end Go.Proofs.Ytagpphelgghbpaa

/-
  slices.Equal of what is equal.
-/
set_option linter.unusedSimpArgs false
set_option linter.unusedVariables false
namespace Go.Proofs.Ytagpphelgghbpaa
open Go.RowKit

set_option maxRecDepth 100000 in
set_option maxHeartbeats 1600000 in
theorem eqs_ints (A B : Option Addr) (n c c' : Nat) (l : List Int) (w : World) (hx : Reads w 1 A n (ics l)) (hy : Reads w 1 B n (ics l)) (hl : l.length = n) (hn : n ≤ 9223372036854775807) :
    Calls Try.prog 53 #[.slice A n c, .slice B n c'] w fun e w' => e = .returned (.bool true) ∧ Below w.heap.size w w' := by
  have HX := Lib.hid hx
  have HY := Lib.hid hy
  have HL := Lib.hid hl
  clear hx hy hl
  go_enter Try.func53, Try.ntmps53
  go_wp2
  go_loopw [13] (fun i W => ∃ k : Nat, k ≤ n ∧ i = .int .i64 k ∧ Below w.heap.size w W) (fun i _ => n - (intOf i).toNat)
  case atStart => exact ⟨0, Nat.zero_le _, rfl, Below.refl _ _⟩
  case round =>
    obtain ⟨k, hk, rfl, hB⟩ := hrel
    have hz := hB.size
    by_cases hlt : k < n
    · have hlt' : (k : Int) < n := by omega
      obtain ⟨ad, rfl, hab, c0⟩ := int_at (HX.out.below hB) hlt
      obtain ⟨bd, rfl, hbb, e0⟩ := int_at (HY.out.below hB) hlt
      have hnq : (0 : Nat) = 0 := rfl
      go_wp2
      go_quiet (fail)
      clear hnq
      go_wp2
      go_roundw
      case rel => exact ⟨k + 1, by omega, by go_num, below_drew_ hB nq⟩
      case measure => simp [intOf]; omega
    · have hlt' : decide ((k : Int) < n) = false := by simp; omega
      have HB := Lib.hid hB
      clear hB
      go_wp2
      go_ret
      exact ⟨rfl, HB.out⟩
set_option maxRecDepth 100000 in
theorem neq_blks (o : Bk) (W : World) : (binOp .neq 93 (.agg #[.int .i64 o.b, .int .i64 o.a]) (.agg #[.int .i64 o.b, .int .i64 o.a])).run Try.prog W = .ok (.bool false) W := by
  have h1 : Try.prog.underlying 93 = some (.struct (Try.prog.fieldsOf 93)) := by kernel_rfl
  have h2 : Try.prog.stoodInHeld 93 = false := by kernel_rfl
  rw [run_neq_struct, run_equalIn_agg W 9999 93 _ _ h1 h2]
  simp [Program.fieldsOf, Try.underlying93, Op.eqFields, go_sem]
set_option maxRecDepth 100000 in
set_option maxHeartbeats 1600000 in
theorem eqs_blks (A B : Option Addr) (n c c' : Nat) (l : List Bk) (w : World) (hx : Reads w 2 A n (bcs l)) (hy : Reads w 2 B n (bcs l)) (hl : l.length = n) (hn : n ≤ 9223372036854775807) :
    Calls Try.prog 54 #[.slice A n c, .slice B n c'] w fun e w' => e = .returned (.bool true) ∧ Below w.heap.size w w' := by
  have HX := Lib.hid hx
  have HY := Lib.hid hy
  have HL := Lib.hid hl
  clear hx hy hl
  go_enter Try.func54, Try.ntmps54
  go_wp2
  go_loopw [13] (fun i W => ∃ k : Nat, k ≤ n ∧ i = .int .i64 k ∧ Below w.heap.size w W) (fun i _ => n - (intOf i).toNat)
  case atStart => exact ⟨0, Nat.zero_le _, rfl, Below.refl _ _⟩
  case round =>
    obtain ⟨k, hk, rfl, hB⟩ := hrel
    have hz := hB.size
    by_cases hlt : k < n
    · have hlt' : (k : Int) < n := by omega
      obtain ⟨o, ho⟩ := get_of (l := l) (k := k) (by have := HL.out; omega)
      obtain ⟨ad, rfl, hab, c0, c1⟩ := blk_at (HX.out.below hB) ho hlt
      obtain ⟨bd, rfl, hbb, e0, e1⟩ := blk_at (HY.out.below hB) ho hlt
      clear ho
      have hnq := neq_blks o
      have hgd : Try.prog.eqGuardType Try.prog.depth 93 = false := by kernel_rfl
      go_wp2
      go_quiet (fail)
      clear hnq
      go_wp2
      go_roundw
      case rel => exact ⟨k + 1, by omega, by go_num, below_drew_ hB nq⟩
      case measure => simp [intOf]; omega
    · have hlt' : decide ((k : Int) < n) = false := by simp; omega
      have HB := Lib.hid hB
      clear hB
      go_wp2
      go_ret
      exact ⟨rfl, HB.out⟩
set_option maxRecDepth 100000 in
theorem neq_tgts (o : Tg) (W : World) : (binOp .neq 78 (.agg #[.int .i64 o.id, .int .i64 o.pl]) (.agg #[.int .i64 o.id, .int .i64 o.pl])).run Try.prog W = .ok (.bool false) W := by
  have h1 : Try.prog.underlying 78 = some (.struct (Try.prog.fieldsOf 78)) := by kernel_rfl
  have h2 : Try.prog.stoodInHeld 78 = false := by kernel_rfl
  rw [run_neq_struct, run_equalIn_agg W 9999 78 _ _ h1 h2]
  simp [Program.fieldsOf, Try.underlying78, Op.eqFields, go_sem]
set_option maxRecDepth 100000 in
set_option maxHeartbeats 1600000 in
theorem eqs_tgts (A B : Option Addr) (n c c' : Nat) (l : List Tg) (w : World) (hx : Reads w 2 A n (tcs l)) (hy : Reads w 2 B n (tcs l)) (hl : l.length = n) (hn : n ≤ 9223372036854775807) :
    Calls Try.prog 72 #[.slice A n c, .slice B n c'] w fun e w' => e = .returned (.bool true) ∧ Below w.heap.size w w' := by
  have HX := Lib.hid hx
  have HY := Lib.hid hy
  have HL := Lib.hid hl
  clear hx hy hl
  go_enter Try.func72, Try.ntmps72
  go_wp2
  go_loopw [13] (fun i W => ∃ k : Nat, k ≤ n ∧ i = .int .i64 k ∧ Below w.heap.size w W) (fun i _ => n - (intOf i).toNat)
  case atStart => exact ⟨0, Nat.zero_le _, rfl, Below.refl _ _⟩
  case round =>
    obtain ⟨k, hk, rfl, hB⟩ := hrel
    have hz := hB.size
    by_cases hlt : k < n
    · have hlt' : (k : Int) < n := by omega
      obtain ⟨o, ho⟩ := get_of (l := l) (k := k) (by have := HL.out; omega)
      obtain ⟨ad, rfl, hab, c0, c1⟩ := tgt_at (HX.out.below hB) ho hlt
      obtain ⟨bd, rfl, hbb, e0, e1⟩ := tgt_at (HY.out.below hB) ho hlt
      clear ho
      have hnq := neq_tgts o
      have hgd : Try.prog.eqGuardType Try.prog.depth 78 = false := by kernel_rfl
      go_wp2
      go_quiet (fail)
      clear hnq
      go_wp2
      go_roundw
      case rel => exact ⟨k + 1, by omega, by go_num, below_drew_ hB nq⟩
      case measure => simp [intOf]; omega
    · have hlt' : decide ((k : Int) < n) = false := by simp; omega
      have HB := Lib.hid hB
      clear hB
      go_wp2
      go_ret
      exact ⟨rfl, HB.out⟩
set_option maxRecDepth 100000 in
theorem neq_objs (o : Ob) (W : World) : (binOp .neq 88 (.agg #[.int .i64 o.id, .int .i64 o.card, .int .i64 o.own, .int .i64 o.pow, .int .i64 o.tou, .int .i64 o.dam, .int .i64 o.cnt, .int .i64 o.pp, .int .i64 o.pt, .bool o.tap, .bool o.sick, .bool o.doom]) (.agg #[.int .i64 o.id, .int .i64 o.card, .int .i64 o.own, .int .i64 o.pow, .int .i64 o.tou, .int .i64 o.dam, .int .i64 o.cnt, .int .i64 o.pp, .int .i64 o.pt, .bool o.tap, .bool o.sick, .bool o.doom])).run Try.prog W = .ok (.bool false) W := by
  have h1 : Try.prog.underlying 88 = some (.struct (Try.prog.fieldsOf 88)) := by kernel_rfl
  have h2 : Try.prog.stoodInHeld 88 = false := by kernel_rfl
  rw [run_neq_struct, run_equalIn_agg W 9999 88 _ _ h1 h2]
  simp [Program.fieldsOf, Try.underlying88, Op.eqFields, go_sem]
set_option maxRecDepth 100000 in
set_option maxHeartbeats 1600000 in
theorem eqs_objs (A B : Option Addr) (n c c' : Nat) (l : List Ob) (w : World) (hx : Reads w 12 A n (ocs l)) (hy : Reads w 12 B n (ocs l)) (hl : l.length = n) (hn : n ≤ 9223372036854775807) :
    Calls Try.prog 73 #[.slice A n c, .slice B n c'] w fun e w' => e = .returned (.bool true) ∧ Below w.heap.size w w' := by
  have HX := Lib.hid hx
  have HY := Lib.hid hy
  have HL := Lib.hid hl
  clear hx hy hl
  go_enter Try.func73, Try.ntmps73
  go_wp2
  go_loopw [13] (fun i W => ∃ k : Nat, k ≤ n ∧ i = .int .i64 k ∧ Below w.heap.size w W) (fun i _ => n - (intOf i).toNat)
  case atStart => exact ⟨0, Nat.zero_le _, rfl, Below.refl _ _⟩
  case round =>
    obtain ⟨k, hk, rfl, hB⟩ := hrel
    have hz := hB.size
    by_cases hlt : k < n
    · have hlt' : (k : Int) < n := by omega
      obtain ⟨o, ho⟩ := get_of (l := l) (k := k) (by have := HL.out; omega)
      obtain ⟨ad, rfl, hab, c0, c1, c2, c3, c4, c5, c6, c7, c8, c9, c10, c11⟩ := obj_at (HX.out.below hB) ho hlt
      obtain ⟨bd, rfl, hbb, e0, e1, e2, e3, e4, e5, e6, e7, e8, e9, e10, e11⟩ := obj_at (HY.out.below hB) ho hlt
      clear ho
      have hnq := neq_objs o
      have hgd : Try.prog.eqGuardType Try.prog.depth 88 = false := by kernel_rfl
      go_wp2
      go_quiet (fail)
      clear hnq
      go_wp2
      go_roundw
      case rel => exact ⟨k + 1, by omega, by go_num, below_drew_ hB nq⟩
      case measure => simp [intOf]; omega
    · have hlt' : decide ((k : Int) < n) = false := by simp; omega
      have HB := Lib.hid hB
      clear hB
      go_wp2
      go_ret
      exact ⟨rfl, HB.out⟩
end Go.Proofs.Ytagpphelgghbpaa
