/-
  Texts: Shw.
-/
import Derived.Test.YtagpphelgghbpaaTk23
/-
  A board is shown.
-/
set_option linter.unusedSimpArgs false
set_option linter.unusedVariables false
namespace Go.Proofs.Ytagpphelgghbpaa
open Go.RowKit

theorem clip_nil (w : World) : Calls Try.prog 40 #[.slice none 0 0] w fun e w' => e = .returned (.slice none 0 0) ∧ w = w' := by
  go_enter Try.func40, Try.ntmps40
  go_wp2
  go_ret
  exact ⟨rfl, rfl⟩
set_option maxRecDepth 100000 in
theorem tinfo_shown : (Try.prog.info? 108).map (fun i => (i.zero, i.size, i.bytes)) = some (some (.agg #[.int .i64 0, .int .i64 0, .int .i64 0, .int .i64 0, .int .i64 0, .int .i64 0, .int .i64 0, .slice none 0 0, .slice none 0 0, .bool false, .bool false, .bool false, .int .i64 0, .int .i64 0, .int .i64 0, .int .i64 0, .int .i64 0, .int .i64 0, .int .i64 0, .int .i64 0, .int .i64 0, .slice none 0 0, .slice none 0 0, .bool false, .bool false, .bool false, .int .i64 0, .int .i64 0, .slice none 0 0, .slice none 0 0, .slice none 0 0, .slice none 0 0, .int .i64 0, .int .i64 0, .int .i64 0, .int .i64 0, .int .i64 0, .int .u64 0]), 38, 400) := by kernel_rfl
theorem built_pub (PC : List Value) (h : PC.length = 37) : Try.prog.built 108 [(0, .agg PC.toArray), (1, .int .u64 1)] = some (PC ++ [Value.int .u64 1]).toArray := by
  rcases PC with _ | ⟨v0, PC⟩
  · simp at h
  rcases PC with _ | ⟨v1, PC⟩
  · simp at h
  rcases PC with _ | ⟨v2, PC⟩
  · simp at h
  rcases PC with _ | ⟨v3, PC⟩
  · simp at h
  rcases PC with _ | ⟨v4, PC⟩
  · simp at h
  rcases PC with _ | ⟨v5, PC⟩
  · simp at h
  rcases PC with _ | ⟨v6, PC⟩
  · simp at h
  rcases PC with _ | ⟨v7, PC⟩
  · simp at h
  rcases PC with _ | ⟨v8, PC⟩
  · simp at h
  rcases PC with _ | ⟨v9, PC⟩
  · simp at h
  rcases PC with _ | ⟨v10, PC⟩
  · simp at h
  rcases PC with _ | ⟨v11, PC⟩
  · simp at h
  rcases PC with _ | ⟨v12, PC⟩
  · simp at h
  rcases PC with _ | ⟨v13, PC⟩
  · simp at h
  rcases PC with _ | ⟨v14, PC⟩
  · simp at h
  rcases PC with _ | ⟨v15, PC⟩
  · simp at h
  rcases PC with _ | ⟨v16, PC⟩
  · simp at h
  rcases PC with _ | ⟨v17, PC⟩
  · simp at h
  rcases PC with _ | ⟨v18, PC⟩
  · simp at h
  rcases PC with _ | ⟨v19, PC⟩
  · simp at h
  rcases PC with _ | ⟨v20, PC⟩
  · simp at h
  rcases PC with _ | ⟨v21, PC⟩
  · simp at h
  rcases PC with _ | ⟨v22, PC⟩
  · simp at h
  rcases PC with _ | ⟨v23, PC⟩
  · simp at h
  rcases PC with _ | ⟨v24, PC⟩
  · simp at h
  rcases PC with _ | ⟨v25, PC⟩
  · simp at h
  rcases PC with _ | ⟨v26, PC⟩
  · simp at h
  rcases PC with _ | ⟨v27, PC⟩
  · simp at h
  rcases PC with _ | ⟨v28, PC⟩
  · simp at h
  rcases PC with _ | ⟨v29, PC⟩
  · simp at h
  rcases PC with _ | ⟨v30, PC⟩
  · simp at h
  rcases PC with _ | ⟨v31, PC⟩
  · simp at h
  rcases PC with _ | ⟨v32, PC⟩
  · simp at h
  rcases PC with _ | ⟨v33, PC⟩
  · simp at h
  rcases PC with _ | ⟨v34, PC⟩
  · simp at h
  rcases PC with _ | ⟨v35, PC⟩
  · simp at h
  rcases PC with _ | ⟨v36, PC⟩
  · simp at h
  rcases PC with _ | ⟨v37, PC⟩
  · exact built_shown v0 v1 v2 v3 v4 v5 v6 v7 v8 v9 v10 v11 v12 v13 v14 v15 v16 v17 v18 v19 v20 v21 v22 v23 v24 v25 v26 v27 v28 v29 v30 v31 v32 v33 v34 v35 v36
  · simp at h
theorem slice_pub (PC : List Value) (h : PC.length = 38) (W : World) : (Instr.buildSlice 100 1 #[(0, .agg PC.toArray)]).run Try.prog W = .ok (.slice (some ⟨W.heap.size, 0, none⟩) 1 1) (W.alloc (.cells PC.toArray 108)) := by
  rcases PC with _ | ⟨v0, PC⟩
  · simp at h
  rcases PC with _ | ⟨v1, PC⟩
  · simp at h
  rcases PC with _ | ⟨v2, PC⟩
  · simp at h
  rcases PC with _ | ⟨v3, PC⟩
  · simp at h
  rcases PC with _ | ⟨v4, PC⟩
  · simp at h
  rcases PC with _ | ⟨v5, PC⟩
  · simp at h
  rcases PC with _ | ⟨v6, PC⟩
  · simp at h
  rcases PC with _ | ⟨v7, PC⟩
  · simp at h
  rcases PC with _ | ⟨v8, PC⟩
  · simp at h
  rcases PC with _ | ⟨v9, PC⟩
  · simp at h
  rcases PC with _ | ⟨v10, PC⟩
  · simp at h
  rcases PC with _ | ⟨v11, PC⟩
  · simp at h
  rcases PC with _ | ⟨v12, PC⟩
  · simp at h
  rcases PC with _ | ⟨v13, PC⟩
  · simp at h
  rcases PC with _ | ⟨v14, PC⟩
  · simp at h
  rcases PC with _ | ⟨v15, PC⟩
  · simp at h
  rcases PC with _ | ⟨v16, PC⟩
  · simp at h
  rcases PC with _ | ⟨v17, PC⟩
  · simp at h
  rcases PC with _ | ⟨v18, PC⟩
  · simp at h
  rcases PC with _ | ⟨v19, PC⟩
  · simp at h
  rcases PC with _ | ⟨v20, PC⟩
  · simp at h
  rcases PC with _ | ⟨v21, PC⟩
  · simp at h
  rcases PC with _ | ⟨v22, PC⟩
  · simp at h
  rcases PC with _ | ⟨v23, PC⟩
  · simp at h
  rcases PC with _ | ⟨v24, PC⟩
  · simp at h
  rcases PC with _ | ⟨v25, PC⟩
  · simp at h
  rcases PC with _ | ⟨v26, PC⟩
  · simp at h
  rcases PC with _ | ⟨v27, PC⟩
  · simp at h
  rcases PC with _ | ⟨v28, PC⟩
  · simp at h
  rcases PC with _ | ⟨v29, PC⟩
  · simp at h
  rcases PC with _ | ⟨v30, PC⟩
  · simp at h
  rcases PC with _ | ⟨v31, PC⟩
  · simp at h
  rcases PC with _ | ⟨v32, PC⟩
  · simp at h
  rcases PC with _ | ⟨v33, PC⟩
  · simp at h
  rcases PC with _ | ⟨v34, PC⟩
  · simp at h
  rcases PC with _ | ⟨v35, PC⟩
  · simp at h
  rcases PC with _ | ⟨v36, PC⟩
  · simp at h
  rcases PC with _ | ⟨v37, PC⟩
  · simp at h
  rcases PC with _ | ⟨v38, PC⟩
  · exact slice_shown v0 v1 v2 v3 v4 v5 v6 v7 v8 v9 v10 v11 v12 v13 v14 v15 v16 v17 v18 v19 v20 v21 v22 v23 v24 v25 v26 v27 v28 v29 v30 v31 v32 v33 v34 v35 v36 v37 W
  · simp at h
set_option maxRecDepth 100000 in
set_option maxHeartbeats 3200000 in
theorem sh_app (w W : World) (gS g7 : Nat) (PC : List Value) (p : Pu) (m : PuM) (hl : PC.length = 37) (hone : ∀ u ∈ PC, u.oneCell' = true) (hB : Below w.heap.size w W) (hgS : w.heap.size ≤ gS) (hg7 : w.heap.size ≤ g7) (hne : gS ≠ g7) (hS : Blk W gS 102 #[.bool true, .int .u64 0, .int .u64 1, .slice none 0 0]) (hP : Blk W g7 59 PC.toArray) (hO : PuO W w.heap.size p m) (Q : Exit → Act → World → Prop) (t1 t2 t3 t4 t5 t6 t8 t9 t10 t11 t12 t13 t14 t15 t16 t17 t18 t19 t20 t21 t22 t23 t24 t25 t26 t27 t28 t29 t30 t31 t32 t33 t34 t35 t36 t37 t38 t39 t40 t41 t42 t43 t44 t45 t46 : Value)
    (hQ : ∀ d v c a w, Q (.panic c) (Act.put a d v) w → Q (.panic c) a w)
    (hK : ∀ (u28 u29 u30 u31 u32 u33 u34 u35 u36 u37 u38 u39 u40 u41 u42 u43 : Value) (A : Option Addr) (c : Nat) (W9 : World), Blk W9 gS 102 #[.bool true, .int .u64 0, .int .u64 1, .slice A 1 c] ∧ XOwns W9 w.heap.size 108 38 A 1 c (PC ++ [.int .u64 1]) ∧ PuO W9 w.heap.size p m ∧ Below w.heap.size w W9 → Q .normal ⟨#[.pointer (some ⟨gS, 0, none⟩), t1, t2, t3, t4, t5, t6, .pointer (some ⟨g7, 0, none⟩), t8, t9, t10, t11, t12, t13, t14, t15, t16, t17, t18, t19, t20, t21, t22, t23, t24, t25, t26, t27, u28, u29, u30, u31, u32, u33, u34, u35, u36, u37, u38, u39, u40, u41, u42, u43, t44, t45, t46], []⟩ W9) :
    Code.wp Try.prog (regOf Try.f18 9) Q ⟨#[.pointer (some ⟨gS, 0, none⟩), t1, t2, t3, t4, t5, t6, .pointer (some ⟨g7, 0, none⟩), t8, t9, t10, t11, t12, t13, t14, t15, t16, t17, t18, t19, t20, t21, t22, t23, t24, t25, t26, t27, t28, t29, t30, t31, t32, t33, t34, t35, t36, t37, t38, t39, t40, t41, t42, t43, t44, t45, t46], []⟩ W := by
  have HKK := Lib.hid hK
  clear hK
  conv => arg 2; whnf
  have HB := Lib.hid hB
  have HS := Lib.hid hS
  have HP := Lib.hid hP
  have HO := Lib.hid hO
  have HQ := Lib.hid hQ
  have HN := Lib.hid (And.intro hgS (And.intro hg7 hne))
  have HL := Lib.hid hl
  have HONE := Lib.hid hone
  have hsl := hS.lt
  have h7l := hP.lt
  have hne_ : Nonempty (In (fun W' => Blk W' gS 102 #[.bool true, .int .u64 0, .int .u64 1, .slice none 0 0] ∧ Blk W' g7 59 PC.toArray)) := ⟨⟨W, hS, hP⟩⟩
  have x2 : ∀ s : In (fun W' => Blk W' gS 102 #[.bool true, .int .u64 0, .int .u64 1, .slice none 0 0] ∧ Blk W' g7 59 PC.toArray), s.W.cell? ⟨gS, 2, none⟩ = some (.int .u64 1) := fun s => (s.h.1.at_ 2).trans rfl
  have x3 : ∀ s : In (fun W' => Blk W' gS 102 #[.bool true, .int .u64 0, .int .u64 1, .slice none 0 0] ∧ Blk W' g7 59 PC.toArray), s.W.cell? ⟨gS, 3, none⟩ = some (.slice none 0 0) := fun s => (s.h.1.at_ 3).trans rfl
  have HL59 : Hid (∀ W', (∃ s : In (fun W' => Blk W' gS 102 #[.bool true, .int .u64 0, .int .u64 1, .slice none 0 0] ∧ Blk W' g7 59 PC.toArray), W' = s.W) → (Instr.loadAt 59 (.pointer (some ⟨g7, 0, none⟩))).run Try.prog W' = .ok (.agg PC.toArray) W') := Lib.hid (fun W' hW => by
    obtain ⟨s, rfl⟩ := hW
    exact s.h.2.mid PC _ (fun j v hj => by rw [Nat.zero_add]; simpa using hj) Try.underlying59 rfl (by rw [size_public, hl]))
  obtain ⟨C8, hC8⟩ : ∃ C8, PC ++ [Value.int .u64 1] = C8 := ⟨_, rfl⟩
  have HC8 := Lib.hid hC8
  have HBU : Hid (Try.prog.built 108 [(0, .agg PC.toArray), (1, .int .u64 1)] = some C8.toArray) := Lib.hid (by rw [← hC8]; exact built_pub PC hl)
  have hl8 : C8.length = 38 := by rw [← hC8]; simp [hl]
  have HL8 := Lib.hid hl8
  have HONE8 : Hid (∀ u ∈ C8, u.oneCell' = true) := Lib.hid (by
    rw [← hC8]
    intro u hu
    rcases List.mem_append.1 hu with hu | hu
    · exact hone u hu
    · simp only [List.mem_singleton] at hu
      subst hu
      rfl)
  have HSL : Hid (∀ W', (Instr.buildSlice 100 1 #[(0, .agg C8.toArray)]).run Try.prog W' = .ok (.slice (some ⟨W'.heap.size, 0, none⟩) 1 1) (W'.alloc (.cells C8.toArray 108))) := Lib.hid (fun W' => slice_pub C8 hl8 W')
  clear hl hone hB hgS hg7 hne hS hP hO hQ hC8 hl8
  have hneT : Nonempty (In (fun _ => True)) := ⟨⟨W, trivial⟩⟩
  refine wp_region_late2 (Ph (fun w' => ∃ s : In (fun W' => Blk W' gS 102 #[.bool true, .int .u64 0, .int .u64 1, .slice none 0 0] ∧ Blk W' g7 59 PC.toArray), w' = s.W) (fun w' => ∃ s : In (fun _ => True), w' = s.W)) (fun w' => ∃ s : In (fun _ => True), w' = s.W) (fun w => ⟨⟨w, trivial⟩, rfl⟩) [16] [0,1,2,3,7,8,9] [4,6,10,11] (.two 5 [] (.one 12 [] (.one 13 [14,15] (.one 16 [] .done))) 12 [] (.one 5 [] (.one 13 [14,15] (.one 16 [] .done)))) (by kernel_rfl) (by kernel_rfl) HQ.out ⟨⟨_, ⟨HS.out.drew, HP.out.drew⟩⟩, rfl⟩ ?_
  refine quiet_as (C' := (fun w' => ∃ s : In (fun _ => True), w' = s.W)) rfl ?_
  simp only [opsAt, List.getElem?_toArray, List.getElem?_cons_succ, List.getElem?_cons_zero]
  repeat (first | (refine wpQuiet_load_by HL59.out ⟨_, ⟨⟨_, HS.out, HP.out⟩, rfl⟩⟩ rfl rfl rfl ?_; simp only [Act.put, List.setIfInBounds_toArray, List.set_cons_succ, List.set_cons_zero]) | (refine wpQuiet_op_by (fun _ _ => run_of_build (parts := #[(0, .tmp 34), (1, .tmp 38)]) (parts' := #[(0, .agg PC.toArray), (1, .int .u64 1)]) rfl (by first | rfl | simp [Act.eval]) HBU.out) rfl ?_; simp only [Act.put, List.setIfInBounds_toArray, List.set_cons_succ, List.set_cons_zero]) | go_big_quiet_step (fail))
  refine wpQuiet_nil ?_
  refine quiet_as (C' := (fun w' => ∃ s : In (fun W' => Blk W' gS 102 #[.bool true, .int .u64 0, .int .u64 1, .slice none 0 0] ∧ Blk W' g7 59 PC.toArray), w' = s.W)) rfl ?_
  try simp only [opsAt, List.getElem?_toArray, List.getElem?_cons_succ, List.getElem?_cons_zero]
  repeat (first | (refine wpQuiet_load_by HL59.out ⟨_, ⟨⟨_, HS.out, HP.out⟩, rfl⟩⟩ rfl rfl rfl ?_; simp only [Act.put, List.setIfInBounds_toArray, List.set_cons_succ, List.set_cons_zero]) | (refine wpQuiet_op_by (fun _ _ => run_of_build (parts := #[(0, .tmp 34), (1, .tmp 38)]) (parts' := #[(0, .agg PC.toArray), (1, .int .u64 1)]) rfl (by first | rfl | simp [Act.eval]) HBU.out) rfl ?_; simp only [Act.put, List.setIfInBounds_toArray, List.set_cons_succ, List.set_cons_zero]) | go_big_quiet_step (fail))
  refine wpQuiet_nil ?_
  obtain ⟨W_d, hwd⟩ : ∃ v, W.drew = v := ⟨_, rfl⟩
  have HBW_1 : Hid (Below w.heap.size w W_d) := Lib.hid (by rw [← hwd]; exact (HB.out).drew)
  have HBR_1 : Hid (Below W.heap.size W W_d) := Lib.hid (by rw [← hwd]; exact (Below.refl _ _).drew)
  have SB_1 := Lib.hid ((HS.out).call (show Below W.heap.size W W_d by rw [← hwd]; exact (Below.refl _ _).drew))
  have P7_1 := Lib.hid ((HP.out).call (show Below W.heap.size W W_d by rw [← hwd]; exact (Below.refl _ _).drew))
  have FO_1 := Lib.hid ((HO.out).below (show Below W.heap.size W W_d by rw [← hwd]; exact (Below.refl _ _).drew))
  rw [hwd]
  clear hwd
  refine ⟨?_, ?_⟩
  · refine eff_as (C' := (fun w' => ∃ s : In (fun W' => Blk W' gS 102 #[.bool true, .int .u64 0, .int .u64 1, .slice none 0 0] ∧ Blk W' g7 59 PC.toArray), w' = s.W)) rfl ?_
    (refine eff_lit rfl rfl (fun K hK => ?_))
    go_big_op
    refine (clip_nil _).mono ?_
    rintro e w_ ⟨rfl, rfl⟩
    refine hK _ _ ⟨⟨_, ⟨SB_1.out, P7_1.out⟩⟩, rfl⟩ ?_
    clear hK K
    try simp only [opsAt, List.getElem?_toArray, List.getElem?_cons_succ, List.getElem?_cons_zero]
    refine wpQuiet_nil ?_
    refine eff_as (C' := (fun w' => ∃ s : In (fun W' => Blk W' gS 102 #[.bool true, .int .u64 0, .int .u64 1, .slice none 0 0] ∧ Blk W' g7 59 PC.toArray), w' = s.W)) rfl ?_
    (refine eff_lit rfl rfl (fun K hK => ?_))
    refine wp_op_by (run_of_slice (parts := #[(0, .tmp 39)]) (parts' := #[(0, .agg C8.toArray)]) rfl (by first | rfl | simp [Act.eval]) (HSL.out W_d)) ?_
    simp only [Act.put, List.setIfInBounds_toArray, List.set_cons_succ, List.set_cons_zero]
    obtain ⟨W_2, hvW_2⟩ : ∃ v, W_d.alloc (.cells C8.toArray 108) = v := ⟨_, rfl⟩
    have hbW_2 : Below W_d.heap.size W_d W_2 := by rw [← hvW_2]; exact (Below.refl _ _).alloc (Nat.le_refl _) _
    obtain ⟨gL, hgL⟩ : ∃ v, W_d.heap.size = v := ⟨_, rfl⟩
    have hk9 : Blk W_2 gL 108 C8.toArray := by rw [← hvW_2]; exact Blk.mk_ _ _ _ _ hgL
    rw [hvW_2, hgL]
    have LT_3 := Lib.hid (hk9)
    have HBW_3 := Lib.hid (below_call HBW_1.out hbW_2 HBW_1.out.size)
    clear HBW_1
    have HBR_3 := Lib.hid (below_call HBR_1.out hbW_2 HBR_1.out.size)
    clear HBR_1
    have SB_3 := Lib.hid (SB_1.out.call hbW_2)
    clear SB_1
    have P7_3 := Lib.hid (P7_1.out.call hbW_2)
    clear P7_1
    have FO_3 := Lib.hid (FO_1.out.below hbW_2)
    clear FO_1
    clear hk9 hvW_2 hgL hbW_2
    refine hK _ _ ⟨⟨_, ⟨SB_3.out, P7_3.out⟩⟩, rfl⟩ ?_
    clear hK K
    try simp only [opsAt, List.getElem?_toArray, List.getElem?_cons_succ, List.getElem?_cons_zero]
    refine wpQuiet_nil ?_
    refine eff_as (C' := (fun w' => ∃ s : In (fun W' => Blk W' gS 102 #[.bool true, .int .u64 0, .int .u64 1, .slice none 0 0] ∧ Blk W' g7 59 PC.toArray), w' = s.W)) rfl ?_
    (refine eff_lit rfl rfl (fun K hK => ?_))
    refine append_xr_op (w := W_2) (.tmp 33) (.tmp 40) 100 rfl W_2.heap.size 108 _ 38 400 tinfo_shown Try.underlying100 rfl (by decide) none 0 0 [] rfl (XOwns.nil_ _ _ _ _) (some ⟨gL, 0, none⟩) 1 1 C8 rfl (fun h => by cases h) (by have h := reads_block LT_3.out 38 1 (by simp [HL8.out]); exact h) HONE8.out (by omega) (by omega) (Nat.le_refl _) ?_
    intro A8 c8 W_4 ho8 hbW_4
    simp only [Act.put, List.setIfInBounds_toArray, List.set_cons_succ, List.set_cons_zero]
    rw [List.nil_append] at ho8
    have FA_5 := Lib.hid ((ho8.more HBW_3.out.size : XOwns _ w.heap.size _ _ A8 1 c8 C8))
    have HBW_5 := Lib.hid (below_call HBW_3.out hbW_4 HBW_3.out.size)
    clear HBW_3
    have HBR_5 := Lib.hid (below_call HBR_3.out hbW_4 HBR_3.out.size)
    clear HBR_3
    have SB_5 := Lib.hid (SB_3.out.call hbW_4)
    clear SB_3
    have P7_5 := Lib.hid (P7_3.out.call hbW_4)
    clear P7_3
    have FO_5 := Lib.hid (FO_3.out.below hbW_4)
    clear FO_3
    have LT_5 := Lib.hid (LT_3.out.call hbW_4)
    clear LT_3
    clear ho8 hbW_4
    refine hK _ _ ⟨⟨_, ⟨SB_5.out, P7_5.out⟩⟩, rfl⟩ ?_
    clear hK K
    try simp only [opsAt, List.getElem?_toArray, List.getElem?_cons_succ, List.getElem?_cons_zero]
    repeat (first | (refine wpQuiet_load_by HL59.out ⟨_, ⟨⟨_, HS.out, HP.out⟩, rfl⟩⟩ rfl rfl rfl ?_; simp only [Act.put, List.setIfInBounds_toArray, List.set_cons_succ, List.set_cons_zero]) | (refine wpQuiet_op_by (fun _ _ => run_of_build (parts := #[(0, .tmp 34), (1, .tmp 38)]) (parts' := #[(0, .agg PC.toArray), (1, .int .u64 1)]) rfl (by first | rfl | simp [Act.eval]) HBU.out) rfl ?_; simp only [Act.put, List.setIfInBounds_toArray, List.set_cons_succ, List.set_cons_zero]) | go_big_quiet_step (fail))
    refine wpQuiet_nil ?_
    refine eff_as (C' := (fun w' => ∃ s : In (fun _ => True), w' = s.W)) rfl ?_
    (refine eff_lit rfl rfl (fun K hK => ?_))
    have q9 := (SB_5.out.at_ 3).trans rfl
    have f9 := SB_5.out.free 3
    have l9 := SB_5.out.lt
    go_big_op
    obtain ⟨W_6, hvW_6⟩ : ∃ v, W_4.setCell ⟨gS, 3, none⟩ (.slice A8 1 c8) = v := ⟨_, rfl⟩
    have hg9 : W_4.grownBy W_6 (some gS) := by rw [← hvW_6]; exact only_setCell (only_refl _ _) (.inl rfl) _
    have hk9 := SB_5.out.put 3 (.slice A8 1 c8)
    rw [hvW_6] at hk9
    rw [hvW_6]
    clear q9 f9 l9 hvW_6
    have hN9 := HN.out
    have HBW_7 := Lib.hid (HBW_5.out.grown hg9 HBW_5.out.size (fun q hq => by injection hq with hq; omega))
    clear HBW_5
    have P7_7 := Lib.hid (P7_5.out.grown hg9 (fun e => by injection e with e; exact HN.out.2.2 e.symm))
    clear P7_5
    have FO_7 := Lib.hid (FO_5.out.blk SB_5.out hg9 (by unfold offT; decide))
    clear FO_5
    have FA_7 := Lib.hid (FA_5.out.blk_ SB_5.out hg9 (by decide))
    clear FA_5
    have SB_8 := Lib.hid hk9
    clear hk9 hg9 SB_5
    refine hK _ _ ⟨⟨_, trivial⟩, rfl⟩ ?_
    clear hK K
    try simp only [opsAt, List.getElem?_toArray, List.getElem?_cons_succ, List.getElem?_cons_zero]
    refine wpQuiet_nil ?_
    refine effs_done ?_
    have hfa := FA_7.out
    rw [← HC8.out] at hfa
    exact HKK.out _ _ _ _ _ _ _ _ _ _ _ _ _ _ _ _ A8 c8 _ ⟨SB_8.out, hfa, FO_7.out, HBW_7.out⟩
  · refine eff_as (C' := (fun w' => ∃ s : In (fun W' => Blk W' gS 102 #[.bool true, .int .u64 0, .int .u64 1, .slice none 0 0] ∧ Blk W' g7 59 PC.toArray), w' = s.W)) rfl ?_
    (refine eff_lit rfl rfl (fun K hK => ?_))
    refine wp_op_by (run_of_slice (parts := #[(0, .tmp 39)]) (parts' := #[(0, .agg C8.toArray)]) rfl (by first | rfl | simp [Act.eval]) (HSL.out W_d)) ?_
    simp only [Act.put, List.setIfInBounds_toArray, List.set_cons_succ, List.set_cons_zero]
    obtain ⟨W_9, hvW_9⟩ : ∃ v, W_d.alloc (.cells C8.toArray 108) = v := ⟨_, rfl⟩
    have hbW_9 : Below W_d.heap.size W_d W_9 := by rw [← hvW_9]; exact (Below.refl _ _).alloc (Nat.le_refl _) _
    obtain ⟨gL, hgL⟩ : ∃ v, W_d.heap.size = v := ⟨_, rfl⟩
    have hk9 : Blk W_9 gL 108 C8.toArray := by rw [← hvW_9]; exact Blk.mk_ _ _ _ _ hgL
    rw [hvW_9, hgL]
    have LT_10 := Lib.hid (hk9)
    have HBW_10 := Lib.hid (below_call HBW_1.out hbW_9 HBW_1.out.size)
    clear HBW_1
    have HBR_10 := Lib.hid (below_call HBR_1.out hbW_9 HBR_1.out.size)
    clear HBR_1
    have SB_10 := Lib.hid (SB_1.out.call hbW_9)
    clear SB_1
    have P7_10 := Lib.hid (P7_1.out.call hbW_9)
    clear P7_1
    have FO_10 := Lib.hid (FO_1.out.below hbW_9)
    clear FO_1
    clear hk9 hvW_9 hgL hbW_9
    refine hK _ _ ⟨⟨_, ⟨SB_10.out, P7_10.out⟩⟩, rfl⟩ ?_
    clear hK K
    try simp only [opsAt, List.getElem?_toArray, List.getElem?_cons_succ, List.getElem?_cons_zero]
    refine wpQuiet_nil ?_
    refine eff_as (C' := (fun w' => ∃ s : In (fun W' => Blk W' gS 102 #[.bool true, .int .u64 0, .int .u64 1, .slice none 0 0] ∧ Blk W' g7 59 PC.toArray), w' = s.W)) rfl ?_
    (refine eff_lit rfl rfl (fun K hK => ?_))
    go_big_op
    refine (clip_nil _).mono ?_
    rintro e w_ ⟨rfl, rfl⟩
    refine hK _ _ ⟨⟨_, ⟨SB_10.out, P7_10.out⟩⟩, rfl⟩ ?_
    clear hK K
    try simp only [opsAt, List.getElem?_toArray, List.getElem?_cons_succ, List.getElem?_cons_zero]
    refine wpQuiet_nil ?_
    refine eff_as (C' := (fun w' => ∃ s : In (fun W' => Blk W' gS 102 #[.bool true, .int .u64 0, .int .u64 1, .slice none 0 0] ∧ Blk W' g7 59 PC.toArray), w' = s.W)) rfl ?_
    (refine eff_lit rfl rfl (fun K hK => ?_))
    refine append_xr_op (w := W_9) (.tmp 33) (.tmp 40) 100 rfl W_9.heap.size 108 _ 38 400 tinfo_shown Try.underlying100 rfl (by decide) none 0 0 [] rfl (XOwns.nil_ _ _ _ _) (some ⟨gL, 0, none⟩) 1 1 C8 rfl (fun h => by cases h) (by have h := reads_block LT_10.out 38 1 (by simp [HL8.out]); exact h) HONE8.out (by omega) (by omega) (Nat.le_refl _) ?_
    intro A8 c8 W_11 ho8 hbW_11
    simp only [Act.put, List.setIfInBounds_toArray, List.set_cons_succ, List.set_cons_zero]
    rw [List.nil_append] at ho8
    have FA_12 := Lib.hid ((ho8.more HBW_10.out.size : XOwns _ w.heap.size _ _ A8 1 c8 C8))
    have HBW_12 := Lib.hid (below_call HBW_10.out hbW_11 HBW_10.out.size)
    clear HBW_10
    have HBR_12 := Lib.hid (below_call HBR_10.out hbW_11 HBR_10.out.size)
    clear HBR_10
    have SB_12 := Lib.hid (SB_10.out.call hbW_11)
    clear SB_10
    have P7_12 := Lib.hid (P7_10.out.call hbW_11)
    clear P7_10
    have FO_12 := Lib.hid (FO_10.out.below hbW_11)
    clear FO_10
    have LT_12 := Lib.hid (LT_10.out.call hbW_11)
    clear LT_10
    clear ho8 hbW_11
    refine hK _ _ ⟨⟨_, ⟨SB_12.out, P7_12.out⟩⟩, rfl⟩ ?_
    clear hK K
    try simp only [opsAt, List.getElem?_toArray, List.getElem?_cons_succ, List.getElem?_cons_zero]
    repeat (first | (refine wpQuiet_load_by HL59.out ⟨_, ⟨⟨_, HS.out, HP.out⟩, rfl⟩⟩ rfl rfl rfl ?_; simp only [Act.put, List.setIfInBounds_toArray, List.set_cons_succ, List.set_cons_zero]) | (refine wpQuiet_op_by (fun _ _ => run_of_build (parts := #[(0, .tmp 34), (1, .tmp 38)]) (parts' := #[(0, .agg PC.toArray), (1, .int .u64 1)]) rfl (by first | rfl | simp [Act.eval]) HBU.out) rfl ?_; simp only [Act.put, List.setIfInBounds_toArray, List.set_cons_succ, List.set_cons_zero]) | go_big_quiet_step (fail))
    refine wpQuiet_nil ?_
    refine eff_as (C' := (fun w' => ∃ s : In (fun _ => True), w' = s.W)) rfl ?_
    (refine eff_lit rfl rfl (fun K hK => ?_))
    have q9 := (SB_12.out.at_ 3).trans rfl
    have f9 := SB_12.out.free 3
    have l9 := SB_12.out.lt
    go_big_op
    obtain ⟨W_13, hvW_13⟩ : ∃ v, W_11.setCell ⟨gS, 3, none⟩ (.slice A8 1 c8) = v := ⟨_, rfl⟩
    have hg9 : W_11.grownBy W_13 (some gS) := by rw [← hvW_13]; exact only_setCell (only_refl _ _) (.inl rfl) _
    have hk9 := SB_12.out.put 3 (.slice A8 1 c8)
    rw [hvW_13] at hk9
    rw [hvW_13]
    clear q9 f9 l9 hvW_13
    have hN9 := HN.out
    have HBW_14 := Lib.hid (HBW_12.out.grown hg9 HBW_12.out.size (fun q hq => by injection hq with hq; omega))
    clear HBW_12
    have P7_14 := Lib.hid (P7_12.out.grown hg9 (fun e => by injection e with e; exact HN.out.2.2 e.symm))
    clear P7_12
    have FO_14 := Lib.hid (FO_12.out.blk SB_12.out hg9 (by unfold offT; decide))
    clear FO_12
    have FA_14 := Lib.hid (FA_12.out.blk_ SB_12.out hg9 (by decide))
    clear FA_12
    have SB_15 := Lib.hid hk9
    clear hk9 hg9 SB_12
    refine hK _ _ ⟨⟨_, trivial⟩, rfl⟩ ?_
    clear hK K
    try simp only [opsAt, List.getElem?_toArray, List.getElem?_cons_succ, List.getElem?_cons_zero]
    refine wpQuiet_nil ?_
    refine effs_done ?_
    have hfa := FA_14.out
    rw [← HC8.out] at hfa
    exact HKK.out _ _ _ _ _ _ _ _ _ _ _ _ _ _ _ _ A8 c8 _ ⟨SB_15.out, hfa, FO_14.out, HBW_14.out⟩

end Go.Proofs.Ytagpphelgghbpaa
