/-
  Texts: Roh.
-/
import Derived.Test.YtagpphelgghbpaaGreatAk45
set_option linter.unusedSimpArgs false
set_option linter.unusedVariables false
namespace Go.Proofs.YtagpphelgghbpaaGreat
open Go.RowKit

theorem view_load {W : World} {g : Nat} {VC : Array Value} (hl : VC.toList.length = 43) (h : Blk W g 98 VC) : (Instr.loadAt 98 (.pointer (some ⟨g, 0, none⟩))).run Tryz.prog W = .ok (.agg VC) W := by
  have h' : Blk W g 98 VC.toList.toArray := by rw [Array.toArray_toList]; exact h
  have := h'.mid VC.toList _ (fun j v hj => by rw [Nat.zero_add]; simpa using hj) Tryz.underlying98 rfl (by rw [size_view, hl])
  rwa [Array.toArray_toList] at this
set_option maxRecDepth 100000 in
set_option maxHeartbeats 3200000 in
theorem rsm_r1 (W : World) (gX gY : Nat) (VA VB : Array Value) (x y : List Int) (hX : Blk W gX 98 VA) (hY : Blk W gY 98 VB) (hla : VA.toList.length = 43) (hlb : VB.toList.length = 43) (hCA : ∀ W', Below W.heap.size W W' → Calls Tryz.prog 74 #[.agg VA] W' (NumEnd x W')) (hCB : ∀ W', Below W.heap.size W W' → Calls Tryz.prog 74 #[.agg VB] W' (NumEnd y W')) (Q : Exit → Act → World → Prop) (t0 t1 t4 t5 t6 t7 t8 t9 t10 t11 t12 t13 t14 t15 t16 t17 t18 t19 t20 t21 t22 t23 t24 t25 t26 t27 t28 t29 t30 t31 : Value)
    (hQ : ∀ d v c a w, Q (.panic c) (Act.put a d v) w → Q (.panic c) a w)
    (hK : ∀ (u8 u9 u10 u11 : Value) (gx cx gy cy : Nat) (W9 : World), Reads W9 1 (some ⟨gx, 0, none⟩) x.length (ics x) ∧ Reads W9 1 (some ⟨gy, 0, none⟩) y.length (ics y) ∧ Below W.heap.size W W9 → Q .normal ⟨#[t0, t1, .pointer (some ⟨gX, 0, none⟩), .pointer (some ⟨gY, 0, none⟩), t4, .slice (some ⟨gx, 0, none⟩) x.length cx, .slice (some ⟨gy, 0, none⟩) y.length cy, t7, u8, u9, u10, u11, t12, t13, t14, t15, t16, t17, t18, t19, t20, t21, t22, t23, t24, t25, t26, t27, t28, t29, t30, t31], []⟩ W9) :
    Code.wp Tryz.prog (regOf Tryz.f40 1) Q ⟨#[t0, t1, .pointer (some ⟨gX, 0, none⟩), .pointer (some ⟨gY, 0, none⟩), t4, t5, t6, t7, t8, t9, t10, t11, t12, t13, t14, t15, t16, t17, t18, t19, t20, t21, t22, t23, t24, t25, t26, t27, t28, t29, t30, t31], []⟩ W := by
  have HKK := Lib.hid hK
  clear hK
  conv => arg 2; whnf
  have HL1 : Hid (∀ W', (∃ s : In (fun W' => Blk W' gX 98 VA ∧ Blk W' gY 98 VB), W' = s.W) → (Instr.loadAt 98 (.pointer (some ⟨gX, 0, none⟩))).run Tryz.prog W' = .ok (.agg VA) W') := Lib.hid (fun W' hW => by
    obtain ⟨s, rfl⟩ := hW
    exact view_load hla s.h.1)
  have HL2 : Hid (∀ W', (∃ s : In (fun W' => Blk W' gX 98 VA ∧ Blk W' gY 98 VB), W' = s.W) → (Instr.loadAt 98 (.pointer (some ⟨gY, 0, none⟩))).run Tryz.prog W' = .ok (.agg VB) W') := Lib.hid (fun W' hW => by
    obtain ⟨s, rfl⟩ := hW
    exact view_load hlb s.h.2)
  have HCA := Lib.hid hCA
  have HCB := Lib.hid hCB
  have HP := Lib.hid (And.intro hX hY)
  have HQ := Lib.hid hQ
  have hne_ : Nonempty (In (fun W' => Blk W' gX 98 VA ∧ Blk W' gY 98 VB)) := ⟨⟨W, hX, hY⟩⟩
  clear hX hY hla hlb hCA hCB hQ
  refine wp_region_sched (fun w' => ∃ s : In (fun W' => Blk W' gX 98 VA ∧ Blk W' gY 98 VB), w' = s.W) [0,2] (.one 1 [] (.one 3 [4,5] .done)) (by kernel_rfl) (by kernel_rfl) HQ.out ⟨⟨_, ⟨HP.out.1.drew, HP.out.2.drew⟩⟩, rfl⟩ ?_
  refine quiet_as (C' := (fun w' => ∃ s : In (fun W' => Blk W' gX 98 VA ∧ Blk W' gY 98 VB), w' = s.W)) rfl ?_
  simp only [opsAt, List.getElem?_toArray, List.getElem?_cons_succ, List.getElem?_cons_zero]
  repeat (first | (first | (refine wpQuiet_load_by HL1.out ⟨_, ⟨⟨_, HP.out.1, HP.out.2⟩, rfl⟩⟩ rfl rfl rfl ?_; simp only [Act.put, List.setIfInBounds_toArray, List.set_cons_succ, List.set_cons_zero]) | (refine wpQuiet_load_by HL2.out ⟨_, ⟨⟨_, HP.out.1, HP.out.2⟩, rfl⟩⟩ rfl rfl rfl ?_; simp only [Act.put, List.setIfInBounds_toArray, List.set_cons_succ, List.set_cons_zero])) | go_big_quiet_step (fail))
  refine wpQuiet_nil ?_
  obtain ⟨W_d, hwd⟩ : ∃ v, W.drew = v := ⟨_, rfl⟩
  have HBW_1 : Hid (Below W.heap.size W W_d) := Lib.hid (by rw [← hwd]; exact (Below.refl _ _).drew)
  have HBR_1 : Hid (Below W.heap.size W W_d) := Lib.hid (by rw [← hwd]; exact (Below.refl _ _).drew)
  have P1_1 := Lib.hid ((HP.out.1).call (show Below W.heap.size W W_d by rw [← hwd]; exact (Below.refl _ _).drew))
  have P2_1 := Lib.hid ((HP.out.2).call (show Below W.heap.size W W_d by rw [← hwd]; exact (Below.refl _ _).drew))
  rw [hwd]
  clear hwd
  refine eff_as (C' := (fun w' => ∃ s : In (fun W' => Blk W' gX 98 VA ∧ Blk W' gY 98 VB), w' = s.W)) rfl ?_
  (refine eff_lit rfl rfl (fun K hK => ?_))
  go_big_op
  refine (HCA.out W_d HBR_1.out).mono ?_
  rintro e W_2 ⟨gx, cx, rfl, hx1, hbW_2⟩
  have FX_3 := Lib.hid (hx1)
  have HBW_3 := Lib.hid (below_call HBW_1.out hbW_2 HBW_1.out.size)
  clear HBW_1
  have HBR_3 := Lib.hid (below_call HBR_1.out hbW_2 HBR_1.out.size)
  clear HBR_1
  have P1_3 := Lib.hid (P1_1.out.call hbW_2)
  clear P1_1
  have P2_3 := Lib.hid (P2_1.out.call hbW_2)
  clear P2_1
  clear hbW_2
  clear hx1
  refine hK _ _ ⟨⟨_, ⟨P1_3.out, P2_3.out⟩⟩, rfl⟩ ?_
  clear hK K
  try simp only [opsAt, List.getElem?_toArray, List.getElem?_cons_succ, List.getElem?_cons_zero]
  refine wpQuiet_nil ?_
  refine eff_as (C' := (fun w' => ∃ s : In (fun W' => Blk W' gX 98 VA ∧ Blk W' gY 98 VB), w' = s.W)) rfl ?_
  (refine eff_lit rfl rfl (fun K hK => ?_))
  go_big_op
  refine (HCB.out W_2 HBR_3.out).mono ?_
  rintro e W_4 ⟨gy, cy, rfl, hx2, hbW_4⟩
  have FY_5 := Lib.hid (hx2)
  have HBW_5 := Lib.hid (below_call HBW_3.out hbW_4 HBW_3.out.size)
  clear HBW_3
  have HBR_5 := Lib.hid (below_call HBR_3.out hbW_4 HBR_3.out.size)
  clear HBR_3
  have P1_5 := Lib.hid (P1_3.out.call hbW_4)
  clear P1_3
  have P2_5 := Lib.hid (P2_3.out.call hbW_4)
  clear P2_3
  have FX_5 := Lib.hid (FX_3.out.below hbW_4)
  clear FX_3
  clear hbW_4
  clear hx2
  refine hK _ _ ⟨⟨_, ⟨P1_5.out, P2_5.out⟩⟩, rfl⟩ ?_
  clear hK K
  try simp only [opsAt, List.getElem?_toArray, List.getElem?_cons_succ, List.getElem?_cons_zero]
  repeat (first | (first | (refine wpQuiet_load_by HL1.out ⟨_, ⟨⟨_, HP.out.1, HP.out.2⟩, rfl⟩⟩ rfl rfl rfl ?_; simp only [Act.put, List.setIfInBounds_toArray, List.set_cons_succ, List.set_cons_zero]) | (refine wpQuiet_load_by HL2.out ⟨_, ⟨⟨_, HP.out.1, HP.out.2⟩, rfl⟩⟩ rfl rfl rfl ?_; simp only [Act.put, List.setIfInBounds_toArray, List.set_cons_succ, List.set_cons_zero])) | go_big_quiet_step (fail))
  refine wpQuiet_nil ?_
  refine effs_done ?_
  exact HKK.out _ _ _ _ gx cx gy cy _ ⟨FX_5.out.reads, FY_5.out.reads, HBR_5.out⟩

set_option maxRecDepth 100000 in
set_option maxHeartbeats 1600000 in
theorem rvsame_any (w : World) (VA VB : Array Value) (x y : List Int) (hla : VA.toList.length = 43) (hlb : VB.toList.length = 43) (hCA : ∀ W', Below w.heap.size w W' → Calls Tryz.prog 74 #[.agg VA] W' (NumEnd x W')) (hCB : ∀ W', Below w.heap.size w W' → Calls Tryz.prog 74 #[.agg VB] W' (NumEnd y W')) (hn : x.length ≤ 100000) :
    Calls Tryz.prog 40 #[.agg VA, .agg VB] w fun e w' => e = .returned (.bool (decide (x = y))) ∧ Below w.heap.size w w' := by
  obtain ⟨w2, hw2⟩ : ∃ z, (w.alloc (.cells VA 98)).alloc (.cells VB 98) = z := ⟨_, rfl⟩
  have HB2 : Hid (Below w.heap.size w w2) := Lib.hid (by rw [← hw2]; exact ((Below.refl _ _).alloc (Nat.le_refl _) _).alloc (by simp) _)
  have HKA : Hid (Blk w2 w.heap.size 98 VA) := Lib.hid (by rw [← hw2]; exact (Blk.mk_ w _ _ _ rfl).alloc _)
  have HKB : Hid (Blk w2 (w.heap.size + 1) 98 VB) := Lib.hid (by rw [← hw2]; exact Blk.mk_ _ _ _ _ (by simp))
  have HCA : Hid (∀ W', Below w2.heap.size w2 W' → Calls Tryz.prog 74 #[.agg VA] W' (NumEnd x W')) := Lib.hid (fun W' h => hCA W' (below_call HB2.out h HB2.out.size))
  have HCB : Hid (∀ W', Below w2.heap.size w2 W' → Calls Tryz.prog 74 #[.agg VB] W' (NumEnd y W')) := Lib.hid (fun W' h => hCB W' (below_call HB2.out h HB2.out.size))
  have HLL := Lib.hid (And.intro hla hlb)
  obtain ⟨n, hnx⟩ : ∃ z, x.length = z := ⟨_, rfl⟩
  obtain ⟨n', hny⟩ : ∃ z, y.length = z := ⟨_, rfl⟩
  have HL := Lib.hid hnx
  have HL' := Lib.hid hny
  rw [hnx] at hn
  clear hla hlb hCA hCB hnx hny
  go_enter Tryz.func40, Tryz.ntmps40
  go_wp2_with fail
  refine rsm_r1 w2 w.heap.size (w.heap.size + 1) VA VB x y HKA.out HKB.out HLL.out.1 HLL.out.2 HCA.out HCB.out _ _ _ _ _ _ _ _ _ _ _ _ _ _ _ _ _ _ _ _ _ _ _ _ _ _ _ _ _ _ _ ?_ ?_
  · exact fun d _ _ _ _ h => by cases d <;> exact h
  intro v8 v9 v10 v11 gx cx gy cy w3 h3
  rw [HL.out, HL'.out] at h3 ⊢
  have HX := Lib.hid h3.1
  have HY := Lib.hid h3.2.1
  have HB3 := Lib.hid (below_call HB2.out h3.2.2 HB2.out.size)
  clear h3 hw2
  by_cases hnn : n = n'
  · have hnb : ((n : Int) != (n' : Int)) = false := by rw [hnn]; simp
    have HNN := Lib.hid hnn
    clear hnn
    go_wp2_with fail
    go_loopw [7] (fun i W => ∃ k : Nat, k ≤ n ∧ i = .int .i64 k ∧ Hid (x.take k = y.take k ∧ Below w3.heap.size w3 W)) (fun i _ => n - (intOf i).toNat)
    case atStart => exact ⟨0, Nat.zero_le _, rfl, Lib.hid ⟨rfl, Below.refl _ _⟩⟩
    case round =>
      obtain ⟨k, hk, rfl, HI⟩ := hrel
      by_cases hkn : k < n
      · have hkn' : (k : Int) < n := by omega
        have hkm' : (k : Int) < n' := by have := HNN.out; omega
        have hkm : k < n' := by have := HNN.out; omega
        obtain ⟨ad, ea, -, c0⟩ := int_at (HX.out.below HI.out.2) hkn
        obtain ⟨ad', ea', -, c1⟩ := int_at (HY.out.below HI.out.2) hkm
        injection ea with ea
        injection ea' with ea'
        subst ea ea'
        rw [Addr.add_lit, Nat.zero_add] at c0 c1
        have hg0 := ith_get (xs := x) (k := k) (by rw [HL.out]; exact hkn)
        have hg1 := ith_get (xs := y) (k := k) (by rw [HL'.out]; exact hkm)
        obtain ⟨u, hu⟩ : ∃ z, ith x k = z := ⟨_, rfl⟩
        obtain ⟨v, hv⟩ : ∃ z, ith y k = z := ⟨_, rfl⟩
        rw [hu] at hg0 c0
        rw [hv] at hg1 c1
        have HG := Lib.hid (And.intro hg0 hg1)
        clear hg0 hg1 hu hv
        by_cases hxy : u = v
        · have HXY := Lib.hid hxy
          have hb : (u != v) = false := by simp [hxy]
          clear hxy
          go_wp2_with fail
          go_quiet (fail)
          go_wp2_with fail
          go_roundw
          case rel => exact ⟨k + 1, hkn, by go_num, Lib.hid ⟨take_eq_snoc HI.out.1 HG.out.1 (by rw [HXY.out]; exact HG.out.2), below_drewN HI.out.2 _⟩⟩
          case measure => simp [intOf]; omega
        · have HXY := Lib.hid hxy
          have hb : (u != v) = true := by simp [hxy]
          clear hxy
          go_wp2_with fail
          go_quiet (fail)
          go_wp2_with fail
          go_ret
          refine ⟨?_, below_drewN (below_call HB3.out HI.out.2 HB3.out.size) _⟩
          have hne : ¬ (x = y) := fun e => by
            have h1 := HG.out.1
            rw [e, HG.out.2] at h1
            injection h1 with h1
            exact HXY.out h1.symm
          rw [decide_eq_false hne]
          rfl
      · have HKE : Hid (k = n) := Lib.hid (by omega)
        have hkd : decide ((k : Int) < n) = false := decide_eq_false (by omega)
        clear hk
        go_wp2_with fail
        go_ret
        refine ⟨?_, below_call HB3.out HI.out.2 HB3.out.size⟩
        have h := HI.out.1
        rw [List.take_of_length_le (by rw [HL.out, HKE.out]; exact Nat.le_refl _), List.take_of_length_le (by rw [HL'.out, HKE.out, HNN.out]; exact Nat.le_refl _)] at h
        rw [decide_eq_true h]
        rfl
  · have hnb : ((n : Int) != (n' : Int)) = true := by simp; omega
    have HNE : Hid (¬ (x = y)) := Lib.hid (fun e => hnn (by rw [← HL.out, ← HL'.out, e]))
    clear hnn
    go_wp2_with fail
    go_ret
    exact ⟨by rw [decide_eq_false HNE.out]; rfl, HB3.out⟩
def RvX (b : Bd) (k : Nat) (VC : Array Value) (W : World) : Prop := VC.toList.length = 43 ∧ ∀ W', Below W.heap.size W W' → Calls Tryz.prog 74 #[.agg VC] W' (NumEnd (flatB b k) W')
theorem RvX.call {b : Bd} {k : Nat} {VC : Array Value} {W W' : World} (h : RvX b k VC W) (hb : Below W.heap.size W W') : RvX b k VC W' := ⟨h.1, fun W2 h2 => h.2 W2 (below_call hb h2 hb.size)⟩
theorem rof_x (b : Bd) (m : BdM) (w : World) (k : Nat) (hk : k < 2) (h : BdR w b m) (hv : b.Valid) :
    Calls Tryz.prog 41 #[.agg (b.cells m).toArray, .agg #[.int .i64 0, .int .i64 0, .slice none 0 0], .int .i64 k] w fun e w' => ∃ VC, e = .returned (.agg VC) ∧ RvX b k VC w' ∧ Below w.heap.size w w' := by
  refine (rof_any b m w k hk h hv).mono ?_
  rintro e w' ⟨pm, HA, Hc, rfl, hp, hx, hb⟩
  refine ⟨_, rfl, ⟨rfl, fun W2 h2 => ?_⟩, hb⟩
  have hr := hx.below h2
  have hF := vwF_of hv hk
  have := rflat_any W2 (k : Int) (puOf b) ((seN b k).hand.map (obI b.objs)) pm HA Hc (hp.below h2) (by rw [List.length_map]; exact hr) hF
  rw [List.length_map] at this
  exact this
theorem flatB_len {b : Bd} (hv : b.Valid) {k : Nat} (hk : k < 2) : (flatB b k).length ≤ 100000 := by
  have h := vwF_of hv hk
  have h0 := vsN_len h.s0
  have h1 := vsN_len h.s1
  have h2 := h.lH
  have h3 := itsN_len' h.S4
  have h4 := itsN_len' h.Q4
  have h5 := h.lS
  have h6 := h.lQ
  have h7 := h.lA
  have h8 := h.lK
  have h9 : ((puOf b).blk.flatMap bkN).length = 2 * (puOf b).blk.length := by
    generalize (puOf b).blk = l
    induction l with
    | nil => rfl
    | cons a l ih => rw [List.flatMap_cons, List.length_append, ih]; simp only [bkN, List.length_cons, List.length_nil]; omega
  unfold flatB vwN
  simp only [List.length_cons, List.length_append, obsN_len, List.length_nil, h9]
  omega
set_option maxRecDepth 100000 in
theorem size_prompt : (Tryz.prog.info? 92).map (·.size) = some 3 := by decide +kernel
set_option maxRecDepth 100000 in
set_option maxHeartbeats 3200000 in
theorem ral_r2 (W : World) (gA gB gP k : Nat) (hk : k < 2) (a b : Bd) (ma mb : BdM) (ca cb : Array Value) (hca : (a.cells ma).toArray = ca) (hcb : (b.cells mb).toArray = cb) (hA : Blk W gA 33 ca) (hB : Blk W gB 33 cb) (hP : Blk W gP 92 #[.int .i64 0, .int .i64 0, .slice none 0 0]) (hRa : BdR W a ma) (hRb : BdR W b mb) (hva : a.Valid) (hvb : b.Valid) (Q : Exit → Act → World → Prop) (t0 t1 t5 t6 t8 t9 t10 t11 t12 t13 t14 t15 t16 : Value)
    (hQ : ∀ d v c a w, Q (.panic c) (Act.put a d v) w → Q (.panic c) a w)
    (hK : ∀ (u8 u9 u10 u11 u12 u13 u14 u15 u16 : Value)  (W9 : World), Below W.heap.size W W9 → Q .normal ⟨#[t0, t1, .int .i64 k, .pointer (some ⟨gA, 0, none⟩), .pointer (some ⟨gB, 0, none⟩), t5, .bool (decide (flatB a k = flatB b k)), .pointer (some ⟨gP, 0, none⟩), u8, u9, u10, u11, u12, u13, u14, u15, u16], []⟩ W9) :
    Code.wp Tryz.prog (regOf Tryz.f15 2) Q ⟨#[t0, t1, .int .i64 k, .pointer (some ⟨gA, 0, none⟩), .pointer (some ⟨gB, 0, none⟩), t5, t6, .pointer (some ⟨gP, 0, none⟩), t8, t9, t10, t11, t12, t13, t14, t15, t16], []⟩ W := by
  have HKK := Lib.hid hK
  clear hK
  conv => arg 2; whnf
  have HL1 : Hid (∀ W', (∃ s : In (fun W' => Blk W' gA 33 ca ∧ Blk W' gB 33 cb ∧ Blk W' gP 92 #[.int .i64 0, .int .i64 0, .slice none 0 0]), W' = s.W) → (Instr.loadAt 33 (.pointer (some ⟨gA, 0, none⟩))).run Tryz.prog W' = .ok (.agg ca) W') := Lib.hid (fun W' hW => by
    obtain ⟨s, rfl⟩ := hW
    exact (show ∀ W', Blk W' gA 33 ca → (Instr.loadAt 33 (.pointer (some ⟨gA, 0, none⟩))).run Tryz.prog W' = .ok (.agg ca) W' from fun W' h => by rw [← hca] at h ⊢; exact board_load h) _ s.h.1)
  have HL2 : Hid (∀ W', (∃ s : In (fun W' => Blk W' gA 33 ca ∧ Blk W' gB 33 cb ∧ Blk W' gP 92 #[.int .i64 0, .int .i64 0, .slice none 0 0]), W' = s.W) → (Instr.loadAt 33 (.pointer (some ⟨gB, 0, none⟩))).run Tryz.prog W' = .ok (.agg cb) W') := Lib.hid (fun W' hW => by
    obtain ⟨s, rfl⟩ := hW
    exact (show ∀ W', Blk W' gB 33 cb → (Instr.loadAt 33 (.pointer (some ⟨gB, 0, none⟩))).run Tryz.prog W' = .ok (.agg cb) W' from fun W' h => by rw [← hcb] at h ⊢; exact board_load h) _ s.h.2.1)
  have HL3 : Hid (∀ W', (∃ s : In (fun W' => Blk W' gA 33 ca ∧ Blk W' gB 33 cb ∧ Blk W' gP 92 #[.int .i64 0, .int .i64 0, .slice none 0 0]), W' = s.W) → (Instr.loadAt 92 (.pointer (some ⟨gP, 0, none⟩))).run Tryz.prog W' = .ok (.agg #[.int .i64 0, .int .i64 0, .slice none 0 0]) W') := Lib.hid (fun W' hW => by
    obtain ⟨s, rfl⟩ := hW
    exact s.h.2.2.mid [.int .i64 0, .int .i64 0, .slice none 0 0] _ (fun j v hj => by rw [Nat.zero_add]; simpa using hj) Tryz.underlying92 rfl size_prompt)
  have HCA : Hid (∀ W', Below W.heap.size W W' → Calls Tryz.prog 41 #[.agg ca, .agg #[.int .i64 0, .int .i64 0, .slice none 0 0], .int .i64 k] W' fun e w' => ∃ VC, e = .returned (.agg VC) ∧ RvX a k VC w' ∧ Below W'.heap.size W' w') := Lib.hid (fun W' h => by rw [← hca]; exact rof_x a ma W' k hk (hRa.below h) hva)
  have HCB : Hid (∀ W', Below W.heap.size W W' → Calls Tryz.prog 41 #[.agg cb, .agg #[.int .i64 0, .int .i64 0, .slice none 0 0], .int .i64 k] W' fun e w' => ∃ VC, e = .returned (.agg VC) ∧ RvX b k VC w' ∧ Below W'.heap.size W' w') := Lib.hid (fun W' h => by rw [← hcb]; exact rof_x b mb W' k hk (hRb.below h) hvb)
  have HFL := Lib.hid (flatB_len hva hk)
  have HP := Lib.hid (And.intro hA (And.intro hB hP))
  have HQ := Lib.hid hQ
  have hne_ : Nonempty (In (fun W' => Blk W' gA 33 ca ∧ Blk W' gB 33 cb ∧ Blk W' gP 92 #[.int .i64 0, .int .i64 0, .slice none 0 0])) := ⟨⟨W, hA, hB, hP⟩⟩
  clear hA hB hP hRa hRb hva hvb hQ hca hcb hk
  refine wp_region_sched (fun w' => ∃ s : In (fun W' => Blk W' gA 33 ca ∧ Blk W' gB 33 cb ∧ Blk W' gP 92 #[.int .i64 0, .int .i64 0, .slice none 0 0]), w' = s.W) [0,1,2,4,5,6] (.one 3 [] (.one 7 [] (.one 8 [9] .done))) (by kernel_rfl) (by kernel_rfl) HQ.out ⟨⟨_, ⟨HP.out.1.drew, HP.out.2.1.drew, HP.out.2.2.drew⟩⟩, rfl⟩ ?_
  refine quiet_as (C' := (fun w' => ∃ s : In (fun W' => Blk W' gA 33 ca ∧ Blk W' gB 33 cb ∧ Blk W' gP 92 #[.int .i64 0, .int .i64 0, .slice none 0 0]), w' = s.W)) rfl ?_
  simp only [opsAt, List.getElem?_toArray, List.getElem?_cons_succ, List.getElem?_cons_zero]
  repeat (first | (first | (refine wpQuiet_load_by HL1.out ⟨_, ⟨⟨_, HP.out⟩, rfl⟩⟩ rfl rfl rfl ?_; simp only [Act.put, List.setIfInBounds_toArray, List.set_cons_succ, List.set_cons_zero]) | (refine wpQuiet_load_by HL2.out ⟨_, ⟨⟨_, HP.out⟩, rfl⟩⟩ rfl rfl rfl ?_; simp only [Act.put, List.setIfInBounds_toArray, List.set_cons_succ, List.set_cons_zero]) | (refine wpQuiet_load_by HL3.out ⟨_, ⟨⟨_, HP.out⟩, rfl⟩⟩ rfl rfl rfl ?_; simp only [Act.put, List.setIfInBounds_toArray, List.set_cons_succ, List.set_cons_zero])) | go_big_quiet_step (fail))
  refine wpQuiet_nil ?_
  obtain ⟨W_d, hwd⟩ : ∃ v, W.drew = v := ⟨_, rfl⟩
  have HBW_1 : Hid (Below W.heap.size W W_d) := Lib.hid (by rw [← hwd]; exact (Below.refl _ _).drew)
  have HBR_1 : Hid (Below W.heap.size W W_d) := Lib.hid (by rw [← hwd]; exact (Below.refl _ _).drew)
  have P1_1 := Lib.hid ((HP.out.1).call (show Below W.heap.size W W_d by rw [← hwd]; exact (Below.refl _ _).drew))
  have P2_1 := Lib.hid ((HP.out.2.1).call (show Below W.heap.size W W_d by rw [← hwd]; exact (Below.refl _ _).drew))
  have P3_1 := Lib.hid ((HP.out.2.2).call (show Below W.heap.size W W_d by rw [← hwd]; exact (Below.refl _ _).drew))
  rw [hwd]
  clear hwd
  refine eff_as (C' := (fun w' => ∃ s : In (fun W' => Blk W' gA 33 ca ∧ Blk W' gB 33 cb ∧ Blk W' gP 92 #[.int .i64 0, .int .i64 0, .slice none 0 0]), w' = s.W)) rfl ?_
  (refine eff_lit rfl rfl (fun K hK => ?_))
  go_big_op
  refine (HCA.out W_d HBR_1.out).mono ?_
  rintro e W_2 ⟨VA, rfl, hx1, hbW_2⟩
  have FX_3 := Lib.hid (hx1)
  have HBW_3 := Lib.hid (below_call HBW_1.out hbW_2 HBW_1.out.size)
  clear HBW_1
  have HBR_3 := Lib.hid (below_call HBR_1.out hbW_2 HBR_1.out.size)
  clear HBR_1
  have P1_3 := Lib.hid (P1_1.out.call hbW_2)
  clear P1_1
  have P2_3 := Lib.hid (P2_1.out.call hbW_2)
  clear P2_1
  have P3_3 := Lib.hid (P3_1.out.call hbW_2)
  clear P3_1
  clear hbW_2
  clear hx1
  refine hK _ _ ⟨⟨_, ⟨P1_3.out, P2_3.out, P3_3.out⟩⟩, rfl⟩ ?_
  clear hK K
  try simp only [opsAt, List.getElem?_toArray, List.getElem?_cons_succ, List.getElem?_cons_zero]
  refine wpQuiet_nil ?_
  refine eff_as (C' := (fun w' => ∃ s : In (fun W' => Blk W' gA 33 ca ∧ Blk W' gB 33 cb ∧ Blk W' gP 92 #[.int .i64 0, .int .i64 0, .slice none 0 0]), w' = s.W)) rfl ?_
  (refine eff_lit rfl rfl (fun K hK => ?_))
  go_big_op
  refine (HCB.out W_2 HBR_3.out).mono ?_
  rintro e W_4 ⟨VB, rfl, hx2, hbW_4⟩
  have FY_5 := Lib.hid (hx2)
  have HBW_5 := Lib.hid (below_call HBW_3.out hbW_4 HBW_3.out.size)
  clear HBW_3
  have HBR_5 := Lib.hid (below_call HBR_3.out hbW_4 HBR_3.out.size)
  clear HBR_3
  have P1_5 := Lib.hid (P1_3.out.call hbW_4)
  clear P1_3
  have P2_5 := Lib.hid (P2_3.out.call hbW_4)
  clear P2_3
  have P3_5 := Lib.hid (P3_3.out.call hbW_4)
  clear P3_3
  have FX_5 := Lib.hid (FX_3.out.call hbW_4)
  clear FX_3
  clear hbW_4
  clear hx2
  refine hK _ _ ⟨⟨_, ⟨P1_5.out, P2_5.out, P3_5.out⟩⟩, rfl⟩ ?_
  clear hK K
  try simp only [opsAt, List.getElem?_toArray, List.getElem?_cons_succ, List.getElem?_cons_zero]
  refine wpQuiet_nil ?_
  refine eff_as (C' := (fun w' => ∃ s : In (fun W' => Blk W' gA 33 ca ∧ Blk W' gB 33 cb ∧ Blk W' gP 92 #[.int .i64 0, .int .i64 0, .slice none 0 0]), w' = s.W)) rfl ?_
  (refine eff_lit rfl rfl (fun K hK => ?_))
  go_big_op
  refine (rvsame_any W_4 VA VB (flatB a k) (flatB b k) FX_5.out.1 FY_5.out.1 FX_5.out.2 FY_5.out.2 HFL.out).mono ?_
  rintro e W_6 ⟨rfl, hbW_6⟩
  have HBW_7 := Lib.hid (below_call HBW_5.out hbW_6 HBW_5.out.size)
  clear HBW_5
  have HBR_7 := Lib.hid (below_call HBR_5.out hbW_6 HBR_5.out.size)
  clear HBR_5
  have P1_7 := Lib.hid (P1_5.out.call hbW_6)
  clear P1_5
  have P2_7 := Lib.hid (P2_5.out.call hbW_6)
  clear P2_5
  have P3_7 := Lib.hid (P3_5.out.call hbW_6)
  clear P3_5
  have FX_7 := Lib.hid (FX_5.out.call hbW_6)
  clear FX_5
  have FY_7 := Lib.hid (FY_5.out.call hbW_6)
  clear FY_5
  clear hbW_6
  refine hK _ _ ⟨⟨_, ⟨P1_7.out, P2_7.out, P3_7.out⟩⟩, rfl⟩ ?_
  clear hK K
  try simp only [opsAt, List.getElem?_toArray, List.getElem?_cons_succ, List.getElem?_cons_zero]
  repeat (first | (first | (refine wpQuiet_load_by HL1.out ⟨_, ⟨⟨_, HP.out⟩, rfl⟩⟩ rfl rfl rfl ?_; simp only [Act.put, List.setIfInBounds_toArray, List.set_cons_succ, List.set_cons_zero]) | (refine wpQuiet_load_by HL2.out ⟨_, ⟨⟨_, HP.out⟩, rfl⟩⟩ rfl rfl rfl ?_; simp only [Act.put, List.setIfInBounds_toArray, List.set_cons_succ, List.set_cons_zero]) | (refine wpQuiet_load_by HL3.out ⟨_, ⟨⟨_, HP.out⟩, rfl⟩⟩ rfl rfl rfl ?_; simp only [Act.put, List.setIfInBounds_toArray, List.set_cons_succ, List.set_cons_zero])) | go_big_quiet_step (fail))
  refine wpQuiet_nil ?_
  refine effs_done ?_
  exact HKK.out _ _ _ _ _ _ _ _ _ _ HBR_7.out

set_option maxRecDepth 100000 in
set_option maxHeartbeats 1600000 in
theorem ralike_any (a b : Bd) (ma mb : BdM) (w : World) (k : Nat) (hk : k < 2) (hRa : BdR w a ma) (hRb : BdR w b mb) (hva : a.Valid) (hvb : b.Valid) :
    Calls Tryz.prog 15 #[.agg (a.cells ma).toArray, .agg (b.cells mb).toArray, .int .i64 k] w fun e w' => e = .returned (.bool (decide (flatB a k = flatB b k))) ∧ Below w.heap.size w w' := by
  obtain ⟨ca, hca⟩ : ∃ x, (a.cells ma).toArray = x := ⟨_, rfl⟩
  obtain ⟨cb, hcb⟩ : ∃ x, (b.cells mb).toArray = x := ⟨_, rfl⟩
  obtain ⟨w3, hw3⟩ : ∃ x, ((w.alloc (.cells ca 33)).alloc (.cells cb 33)).alloc (.cells #[.int .i64 0, .int .i64 0, .slice none 0 0] 92) = x := ⟨_, rfl⟩
  have HB3 : Hid (Below w.heap.size w w3) := Lib.hid (by rw [← hw3]; exact (((Below.refl _ _).alloc (Nat.le_refl _) _).alloc (by simp) _).alloc (by simp; omega) _)
  have HKA : Hid (Blk w3 w.heap.size 33 ca) := Lib.hid (by rw [← hw3]; exact ((Blk.mk_ w _ _ _ rfl).alloc _).alloc _)
  have HKB : Hid (Blk w3 (w.heap.size + 1) 33 cb) := Lib.hid (by rw [← hw3]; exact (Blk.mk_ _ _ _ _ (by simp)).alloc _)
  have HKP : Hid (Blk w3 (w.heap.size + 1 + 1) 92 #[.int .i64 0, .int .i64 0, .slice none 0 0]) := Lib.hid (by rw [← hw3]; exact Blk.mk_ _ _ _ _ (by simp))
  have HRR := Lib.hid (And.intro (hRa.below HB3.out) (hRb.below HB3.out))
  have HVV := Lib.hid (And.intro hva hvb)
  have HCC := Lib.hid (And.intro hca hcb)
  have HKK := Lib.hid hk
  rw [hca, hcb]
  clear hRa hRb hva hvb hca hcb hk
  go_enter Tryz.func15, Tryz.ntmps15
  go_wp2_with fail
  refine ral_r2 w3 w.heap.size (w.heap.size + 1) _ k HKK.out a b ma mb ca cb HCC.out.1 HCC.out.2 HKA.out HKB.out HKP.out HRR.out.1 HRR.out.2 HVV.out.1 HVV.out.2 _ _ _ _ _ _ _ _ _ _ _ _ _ _ ?_ ?_
  · exact fun d _ _ _ _ h => by cases d <;> exact h
  intro v8 v9 v10 v11 v12 v13 v14 v15 v16 w4 h4
  have HB4 := Lib.hid (below_call HB3.out h4 HB3.out.size)
  clear h4 hw3
  obtain ⟨dd, hdd⟩ : ∃ x, decide (flatB a k = flatB b k) = x := ⟨_, rfl⟩
  rw [hdd]
  have HDD := Lib.hid hdd
  clear hdd
  go_wp2_with fail
  go_ret
  exact ⟨by rw [HDD.out]; rfl, HB4.out⟩
end Go.Proofs.YtagpphelgghbpaaGreat
