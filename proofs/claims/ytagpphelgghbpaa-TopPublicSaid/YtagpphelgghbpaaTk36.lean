/-
  Texts: Pub, Hnd.
-/
import Derived.Test.YtagpphelgghbpaaTk35
import Derived.Test.YtagpphelgghbpaaTk23
/-
  zeitnottop.public on valid boards: the walk.
-/
set_option linter.unusedSimpArgs false
set_option linter.unusedVariables false
namespace Go.Proofs.Ytagpphelgghbpaa
open Go.RowKit

/-- What lies all the time. -/
structure PbS (w1 : World) (b : Bd) (cs : Array Value) (g0 g5 : Nat) (m5 : PuM) (W : World) : Prop where
  box : Blk W g0 33 cs
  P5 : Blk W g5 59 ((puOf b).cells m5).toArray
  O5 : PuO W w1.heap.size (puOf b) m5
  bel : Below w1.heap.size w1 W
theorem PbS.below {w1 : World} {b : Bd} {cs : Array Value} {g0 g5 : Nat} {m5 : PuM} {W W' : World} (h : PbS w1 b cs g0 g5 m5 W) (hb : Below W.heap.size W W') : PbS w1 b cs g0 g5 m5 W' := ⟨h.box.call hb, h.P5.call hb, h.O5.below hb, below_call h.bel hb h.bel.size⟩
theorem one_vwf (b : Bd) (k : Int) (x0 x1 : VsM) (A : Option Addr) (n c : Nat) (pm : PuM) : ∀ u ∈ vwf b k x0 x1 (.slice A n c) ((puOf b).tail pm), u.oneCell' = true := by
  intro u hu
  simp only [vwf, vwc, Pu.tail, Sl.v, List.mem_cons, List.mem_append, List.not_mem_nil, or_false] at hu
  rcases hu with rfl | hu | hu | rfl | (rfl | rfl | rfl | rfl | rfl | rfl | rfl | rfl | rfl) | rfl | rfl | rfl | rfl
  all_goals first
    | rfl
    | exact one_vs _ _ u hu
set_option maxRecDepth 100000 in
theorem built_prompt : Try.prog.built 69 [] = some #[.int .i64 0, .int .i64 0, .slice none 0 0] := by kernel_rfl
set_option maxRecDepth 100000 in
set_option maxHeartbeats 6400000 in
theorem public_any (b : Bd) (m : BdM) (w : World) (hR : BdR w b m) (hz : b.plc.length < 9223372036854775807) (hv : b.Valid) : Calls Try.prog 6 #[.agg (b.cells m).toArray] w fun e w' => e = .returned (.bool true) ∧ Below w.heap.size w w' := by
  have HR := Lib.hid hR
  have HSM := Lib.hid (bd_sm hv)
  obtain ⟨cs, hcs⟩ : ∃ cs, (b.cells m).toArray = cs := ⟨_, rfl⟩
  have hsz : cs.toList.length = 38 := by rw [← hcs]; rfl
  obtain ⟨w1, hw1⟩ : ∃ w1, w.alloc (.cells cs 33) = w1 := ⟨_, rfl⟩
  have hb1 : Below w.heap.size w w1 := by rw [← hw1]; exact (Below.refl _ _).alloc (Nat.le_refl _) _
  have hsz1 : w1.heap.size = w.heap.size + 1 := by rw [← hw1]; simp
  have HB1 := Lib.hid hb1
  have HR1 := Lib.hid (hR.below hb1)
  have HBX1 : Hid (Blk w1 w.heap.size 33 cs) := Lib.hid (by rw [← hw1]; exact Blk.mk_ w _ _ _ rfl)
  have HLD : Hid (∀ W, Blk W w.heap.size 33 cs → (Instr.loadAt 33 (.pointer (some ⟨w.heap.size, 0, none⟩))).run Try.prog W = .ok (.agg cs) W) := Lib.hid (fun W hW => by
    have := hW.mid (o := 0) (ty := 33) cs.toList _ (fun j v hj => by rw [Nat.zero_add]; simpa using hj) Try.underlying33 rfl (by rw [hsz]; exact size_board)
    rwa [Array.toArray_toList] at this)
  have HSH : Hid (∀ W g, Below w1.heap.size w1 W → w1.heap.size ≤ g → Blk W g 102 #[.bool true, .int .u64 0, .int .u64 0, .slice none 0 0] → Calls Try.prog 18 #[.pointer (some ⟨g, 0, none⟩), .int .u64 1, .agg cs] W (ShowEnd b w1 g)) := Lib.hid (fun W g h1 h2 h3 => by rw [← hcs]; exact show_any b m w1 W g (HR1.out.below h1) hz hv h1 h2 h3)
  have HVO : Hid (∀ (k : Nat) W, k < 2 → Below w1.heap.size w1 W → Calls Try.prog 20 #[.agg cs, .agg #[.int .i64 0, .int .i64 0, .slice none 0 0], .int .i64 k] W (VofEnd b k W)) := Lib.hid (fun k W hk h1 => by rw [← hcs]; exact vof_any b m W k hk (HR1.out.below h1) hz hv)
  have HHD : Hid (∀ (k : Nat), k < 2 → ∀ W, Below w1.heap.size w1 W → Calls Try.prog 21 #[.agg cs, .int .i64 k] W (HidEnd b k W)) := Lib.hid (fun k hk W h1 => by rw [← hcs]; exact hidden_any b m W k hk (HR1.out.below h1) hz hv)
  have HS1 := Lib.hid (snew w1)
  have HZ1 := Lib.hid hsz1
  rw [hcs]
  clear hR hz hv hcs hsz hb1 hsz1
  go_enter Try.func6, Try.ntmps6
  go_wp2_with (first
    | (go_at_call 17; refine HS1.out.mono ?_; rintro e w2 ⟨rfl, hk2, hb2⟩; obtain ⟨gS, hgS⟩ : ∃ g, w1.heap.size = g := ⟨_, rfl⟩; have HSW := Lib.hid (HSH.out w2 gS hb2 (Nat.le_of_eq hgS) (by rw [← hgS]; exact hk2)); have HB2 := Lib.hid hb2; have HGS := Lib.hid hgS; rw [hgS]; clear hk2 hb2)
    | (refine wpList_load_by (HLD.out w2 (HBX1.out.call HB2.out)) rfl rfl rfl ?_; simp only [Act.put, List.setIfInBounds_toArray, List.set_cons_succ, List.set_cons_zero])
    | (go_at_call 18; refine HSW.out.mono ?_; rintro e w3 ⟨rfl, A3, c3, m3, hk3, hx3, ho3, hb3⟩; have HSE := Lib.hid (see_any w1 w3 gS c3 A3 (puOf b) m3 (pu_sm HSM.out) hb3 (Nat.le_of_eq HGS.out) hk3 hx3 ho3); clear hk3 hx3 ho3 hb3)
    | (go_at_call 19; refine HSE.out.mono ?_; rintro e w4 ⟨m5, rfl, ho4, hb4⟩; obtain ⟨w5, hw5⟩ : ∃ w5, w4.alloc (.cells #[.int .i64 0, .int .i64 0, .int .i64 0, .int .i64 0, .int .i64 0, .int .i64 0, .int .i64 0, .slice none 0 0, .slice none 0 0, .bool false, .bool false, .bool false, .int .i64 0, .int .i64 0, .int .i64 0, .int .i64 0, .int .i64 0, .int .i64 0, .int .i64 0, .int .i64 0, .int .i64 0, .slice none 0 0, .slice none 0 0, .bool false, .bool false, .bool false, .int .i64 0, .int .i64 0, .slice none 0 0, .slice none 0 0, .slice none 0 0, .slice none 0 0, .int .i64 0, .int .i64 0, .int .i64 0, .int .i64 0, .int .i64 0] 59) = w5 := ⟨_, rfl⟩; obtain ⟨g5, hg5⟩ : ∃ g, w4.heap.size = g := ⟨_, rfl⟩; have hb5 : Below w4.heap.size w4 w5 := (by rw [← hw5]; exact (Below.refl _ _).alloc (Nat.le_refl _) _); have hk5 : Blk w5 g5 59 #[.int .i64 0, .int .i64 0, .int .i64 0, .int .i64 0, .int .i64 0, .int .i64 0, .int .i64 0, .slice none 0 0, .slice none 0 0, .bool false, .bool false, .bool false, .int .i64 0, .int .i64 0, .int .i64 0, .int .i64 0, .int .i64 0, .int .i64 0, .int .i64 0, .int .i64 0, .int .i64 0, .slice none 0 0, .slice none 0 0, .bool false, .bool false, .bool false, .int .i64 0, .int .i64 0, .slice none 0 0, .slice none 0 0, .slice none 0 0, .slice none 0 0, .int .i64 0, .int .i64 0, .int .i64 0, .int .i64 0, .int .i64 0] := (by rw [← hw5]; exact Blk.mk_ _ _ _ _ hg5); obtain ⟨w6, hst, hp6, hg6⟩ := hk5.storeAll (ty := 59) ((puOf b).cells m5) rfl (by rw [size_public] <;> rfl) (one_pu _ _); have HST := Lib.hid hst; have hb45 := below_call hb4 hb5 hb4.size; have HF6 : Hid (PbS w1 b cs w.heap.size g5 m5 w6) := Lib.hid ⟨(HBX1.out.call hb45).grown hg6 (fun e => by injection e with e; have := hb4.size; have := HZ1.out; omega), hp6, (ho4.below hb5).blk hk5 hg6 off_public, hb45.grown hg6 hb45.size (fun q hq => by injection hq with hq; have := hb4.size; omega)⟩; clear ho4 hb4 hb5 hk5 hst hp6 hg6 hb45)
    | (refine wpList_store_by HST.out rfl rfl rfl rfl ?_; simp only [Act.put, List.setIfInBounds_toArray, List.set_cons_succ, List.set_cons_zero])
    | fail)
  clear hw1 hw5
  go_loopw [7] (fun i W => ∃ (k : Nat), k ≤ 2 ∧ i = .int .i64 k ∧ Hid (PbS w1 b cs w.heap.size g5 m5 W)) (fun i _ => 2 - (intOf i).toNat)
  case atStart => exact ⟨0, by omega, rfl, HF6⟩
  case round =>
    obtain ⟨k, hk, rfl, HF⟩ := hrel
    clear HF6 HST HSE HSW HS1
    by_cases hk2 : k < 2
    · have hk2' : (k : Int) < 2 := by omega
      have HK2 := Lib.hid hk2
      have HVW := Lib.hid (HVO.out k wr hk2 HF.out.bel)
      go_wp2_with (first
        | (refine wpList_load_by (HLD.out wr HF.out.box) rfl rfl rfl ?_; simp only [Act.put, List.setIfInBounds_toArray, List.set_cons_succ, List.set_cons_zero])
        | (refine wpList_op_by rfl (run_of_build (parts := #[]) (parts' := #[]) rfl rfl built_prompt) ?_; simp only [Act.put, List.setIfInBounds_toArray, List.set_cons_succ, List.set_cons_zero])
        | (go_at_call 20; refine HVW.out.mono ?_; rintro e w7 ⟨pm, HA, Hc, rfl, ho7, -, hb7⟩; obtain ⟨VC, hVC⟩ : ∃ l, vwf b k pm.m0 pm.m1 (.slice HA (seN b k).hand.length Hc) ((puOf b).tail pm) = l := ⟨_, rfl⟩; have hlen : VC.length = 43 := (by rw [← hVC]; rfl); have hone : ∀ v ∈ VC, v.oneCell' = true := (by rw [← hVC]; exact one_vwf _ _ _ _ _ _ _ _); obtain ⟨w8, hw8⟩ : ∃ w8, w7.alloc (.cells #[.int .i64 0, .int .i64 0, .int .i64 0, .int .i64 0, .int .i64 0, .int .i64 0, .int .i64 0, .int .i64 0, .slice none 0 0, .slice none 0 0, .bool false, .bool false, .bool false, .int .i64 0, .int .i64 0, .int .i64 0, .int .i64 0, .int .i64 0, .int .i64 0, .int .i64 0, .int .i64 0, .int .i64 0, .slice none 0 0, .slice none 0 0, .bool false, .bool false, .bool false, .int .i64 0, .int .i64 0, .slice none 0 0, .slice none 0 0, .slice none 0 0, .slice none 0 0, .slice none 0 0, .int .i64 0, .int .i64 0, .int .i64 0, .int .i64 0, .int .i64 0, .int .i64 0, .int .i64 0, .int .i64 0, .slice none 0 0] 65) = w8 := ⟨_, rfl⟩; obtain ⟨g8, hg8⟩ : ∃ g, w7.heap.size = g := ⟨_, rfl⟩; have hb8 : Below w7.heap.size w7 w8 := (by rw [← hw8]; exact (Below.refl _ _).alloc (Nat.le_refl _) _); have hk8 : Blk w8 g8 65 #[.int .i64 0, .int .i64 0, .int .i64 0, .int .i64 0, .int .i64 0, .int .i64 0, .int .i64 0, .int .i64 0, .slice none 0 0, .slice none 0 0, .bool false, .bool false, .bool false, .int .i64 0, .int .i64 0, .int .i64 0, .int .i64 0, .int .i64 0, .int .i64 0, .int .i64 0, .int .i64 0, .int .i64 0, .slice none 0 0, .slice none 0 0, .bool false, .bool false, .bool false, .int .i64 0, .int .i64 0, .slice none 0 0, .slice none 0 0, .slice none 0 0, .slice none 0 0, .slice none 0 0, .int .i64 0, .int .i64 0, .int .i64 0, .int .i64 0, .int .i64 0, .int .i64 0, .int .i64 0, .int .i64 0, .slice none 0 0] := (by rw [← hw8]; exact Blk.mk_ _ _ _ _ hg8); obtain ⟨w9, hst, hp9, hg9⟩ := hk8.storeAll (ty := 65) VC (by rw [hlen] <;> rfl) (by rw [size_view, hlen]) hone; have HST := Lib.hid hst; have hb78 := below_call hb7 hb8 hb7.size; have hb9 : Below wr.heap.size wr w9 := hb78.grown hg9 hb78.size (fun q hq => by injection hq with hq; have := hb7.size; omega); have HF9 := Lib.hid (HF.out.below hb9); have HO9 : Hid (PuO w9 w1.heap.size (puOf b) pm) := Lib.hid (((ho7.below hb8).blk hk8 hg9 off_view).more HF.out.bel.size); have HV9 : Hid (Blk w9 g8 65 VC.toArray) := Lib.hid hp9; have HVC := Lib.hid hVC; rw [hVC]; clear ho7 hb7 hVC hlen hone hb8 hk8 hst hp9 hg9 hb78 hb9)
        | (refine wpList_store_by HST.out rfl rfl rfl rfl ?_; simp only [Act.put, List.setIfInBounds_toArray, List.set_cons_succ, List.set_cons_zero])
        | fail)
      rw [← HVC.out] at HV9
      clear HF hw8 HST HVW hk2
      rcases (show k = 0 ∨ k = 1 by have := HK2.out; omega) with h0 | h0
      · have HK0 := Lib.hid h0
        clear h0
        refine pb_hand0 k HK0.out w9 (puOf b) m5 pm g5 g8 _ Hc HA HF9.out.P5 HV9.out (by rw [HK0.out]; rfl) _ _ _ _ _ _ _ _ _ _ _ _ _ _ _ _ _ _ _ _ _ _ _ _ _ _ _ _ _ _ _ _ _ _ _ _ _ _ _ _ _ _ _ _ _ _ _ _ _ _ _ _ _ _ _ _ _ _ _ _ _ _ _ _ _ _ _ _ _ _ _ _ _ _ _ _ _ _ _ _ _ _ _ _ _ _ _ _ _ _ _ _ _ _ _ _ _ _ _ _ _ _ _ _ _ _ _ _ _ _ _ _ _ _ _ _ _ _ _ _ _ _ _ _ _ _ _ _ ?_ ?_
        · exact fun d _ _ _ _ h => by cases d <;> exact h
        intro v48 v49 v50 v51 v52 v53 v54 v55 v56 v57 v58 v59 W11 h11
        have HF11 := Lib.hid (HF9.out.below h11)
        have HV11 := Lib.hid (HV9.out.call h11)
        have HO11 := Lib.hid (HO9.out.below h11)
        clear h11 HF9 HV9 HO9
        iterate 7 go_step
        refine pb_seen W11 k (puOf b) pm g8 _ Hc HA HV11.out _ _ _ _ _ _ _ _ _ _ _ _ _ _ _ _ _ _ _ _ _ _ _ _ _ _ _ _ _ _ _ _ _ _ _ _ _ _ _ _ _ _ _ _ _ _ _ _ _ _ _ _ _ _ _ _ _ _ _ _ _ _ _ _ _ _ _ _ _ _ _ _ _ _ _ _ _ _ _ _ _ _ _ _ _ _ _ _ _ _ _ _ _ _ _ _ _ _ _ _ _ _ _ _ _ _ _ _ _ _ _ _ _ _ _ _ _ _ _ _ _ _ _ _ _ _ _ _ _ _ _ ?_ ?_
        · exact fun d _ _ _ _ h => by cases d <;> exact h
        intro v61 v62 v63 v64 v65 v66 v67 v68 v69 v70 v71 v72 v73 v74 v75 v76 v77 v78 v79 v80 v81 g10 W13 h13
        have HF13 := Lib.hid (HF11.out.below h13.2.2)
        have HV13 := Lib.hid (HV11.out.call h13.2.2)
        have HO13 := Lib.hid (HO11.out.below h13.2.2)
        have HX13 := Lib.hid h13.2.1
        clear h13 HF11 HV11 HO11
        have HHID := Lib.hid (HHD.out k (by have := HK2.out; omega) W13 HF13.out.bel)
        go_wp2_with (first
          | (refine wpList_load_by (HLD.out W13 HF13.out.box) rfl rfl rfl ?_; simp only [Act.put, List.setIfInBounds_toArray, List.set_cons_succ, List.set_cons_zero])
          | (go_at_call 21; refine HHID.out.mono ?_; rintro e w14 ⟨A11, c11, rfl, -, hb14⟩; have HF14 := Lib.hid (HF13.out.below hb14); have HV14 := Lib.hid (HV13.out.call hb14); have HO14 := Lib.hid (HO13.out.below hb14); have HX14 := Lib.hid (HX13.out.call hb14); clear hb14)
          | fail)
        refine pb_check0 k HK0.out w14 w1.heap.size (puOf b) m5 pm g5 g8 g10 _ Hc 0 b.s0.lib.length b.s1.lib.length b.s1.hand.length HA A11 _ c11 (pu_sm HSM.out) HF14.out.P5 HV14.out HX14.out HF14.out.O5 HO14.out rfl rfl rfl HSM.out.s0.L HSM.out.s1.L HSM.out.s1.H (by rw [HK0.out]; simp [hidS, seN, Nat.add_assoc]) _ _ _ _ _ _ _ _ _ _ _ _ _ _ _ _ _ _ _ _ _ _ _ _ _ _ _ _ _ _ _ _ _ _ _ _ _ _ _ _ _ _ _ _ _ _ _ _ _ _ _ _ _ _ _ _ _ _ _ _ _ _ _ _ _ _ _ _ _ _ _ _ _ _ _ _ _ _ _ _ _ _ _ _ _ _ _ _ _ _ _ _ _ _ _ _ _ _ _ _ _ _ _ _ _ _ _ _ _ _ _ _ _ _ _ _ _ _ _ _ _ _ _ _ _ _ ?_ ?_
        · exact fun d _ _ _ _ h => by cases d <;> exact h
        intro v88 v89 v90 v91 v92 v93 v94 v95 v96 v97 v98 v99 v100 v101 v102 v103 v104 v105 v106 v107 v108 v109 v110 v111 v112 v113 v114 v115 v116 v117 v118 v119 v120 v121 v122 v123 v124 v125 v126 v127 v128 v129 W15 h15
        have HF15 := Lib.hid (HF14.out.below h15)
        clear h15 HF14 HV14 HO14 HX14 HF13 HV13 HO13 HX13
        go_wp2_with fail
        go_roundw
        case rel => exact ⟨k + 1, by have := HK2.out; omega, by go_num, HF15⟩
        case measure => simp [intOf]; have := HK2.out; omega
      · have HK0 := Lib.hid h0
        clear h0
        refine pb_hand1 k HK0.out w9 (puOf b) m5 pm g5 g8 _ Hc HA HF9.out.P5 HV9.out (by rw [HK0.out]; rfl) _ _ _ _ _ _ _ _ _ _ _ _ _ _ _ _ _ _ _ _ _ _ _ _ _ _ _ _ _ _ _ _ _ _ _ _ _ _ _ _ _ _ _ _ _ _ _ _ _ _ _ _ _ _ _ _ _ _ _ _ _ _ _ _ _ _ _ _ _ _ _ _ _ _ _ _ _ _ _ _ _ _ _ _ _ _ _ _ _ _ _ _ _ _ _ _ _ _ _ _ _ _ _ _ _ _ _ _ _ _ _ _ _ _ _ _ _ _ _ _ _ _ _ _ _ _ _ _ ?_ ?_
        · exact fun d _ _ _ _ h => by cases d <;> exact h
        intro v48 v49 v50 v51 v52 v53 v54 v55 v56 v57 v58 v59 W11 h11
        have HF11 := Lib.hid (HF9.out.below h11)
        have HV11 := Lib.hid (HV9.out.call h11)
        have HO11 := Lib.hid (HO9.out.below h11)
        clear h11 HF9 HV9 HO9
        iterate 7 go_step
        refine pb_seen W11 k (puOf b) pm g8 _ Hc HA HV11.out _ _ _ _ _ _ _ _ _ _ _ _ _ _ _ _ _ _ _ _ _ _ _ _ _ _ _ _ _ _ _ _ _ _ _ _ _ _ _ _ _ _ _ _ _ _ _ _ _ _ _ _ _ _ _ _ _ _ _ _ _ _ _ _ _ _ _ _ _ _ _ _ _ _ _ _ _ _ _ _ _ _ _ _ _ _ _ _ _ _ _ _ _ _ _ _ _ _ _ _ _ _ _ _ _ _ _ _ _ _ _ _ _ _ _ _ _ _ _ _ _ _ _ _ _ _ _ _ _ _ _ ?_ ?_
        · exact fun d _ _ _ _ h => by cases d <;> exact h
        intro v61 v62 v63 v64 v65 v66 v67 v68 v69 v70 v71 v72 v73 v74 v75 v76 v77 v78 v79 v80 v81 g10 W13 h13
        have HF13 := Lib.hid (HF11.out.below h13.2.2)
        have HV13 := Lib.hid (HV11.out.call h13.2.2)
        have HO13 := Lib.hid (HO11.out.below h13.2.2)
        have HX13 := Lib.hid h13.2.1
        clear h13 HF11 HV11 HO11
        have HHID := Lib.hid (HHD.out k (by have := HK2.out; omega) W13 HF13.out.bel)
        go_wp2_with (first
          | (refine wpList_load_by (HLD.out W13 HF13.out.box) rfl rfl rfl ?_; simp only [Act.put, List.setIfInBounds_toArray, List.set_cons_succ, List.set_cons_zero])
          | (go_at_call 21; refine HHID.out.mono ?_; rintro e w14 ⟨A11, c11, rfl, -, hb14⟩; have HF14 := Lib.hid (HF13.out.below hb14); have HV14 := Lib.hid (HV13.out.call hb14); have HO14 := Lib.hid (HO13.out.below hb14); have HX14 := Lib.hid (HX13.out.call hb14); clear hb14)
          | fail)
        refine pb_check1 k HK0.out w14 w1.heap.size (puOf b) m5 pm g5 g8 g10 _ Hc 0 b.s0.lib.length b.s1.lib.length b.s0.hand.length HA A11 _ c11 (pu_sm HSM.out) HF14.out.P5 HV14.out HX14.out HF14.out.O5 HO14.out rfl rfl rfl HSM.out.s0.L HSM.out.s1.L HSM.out.s0.H (by rw [HK0.out]; simp [hidS, seN, Nat.add_assoc]) _ _ _ _ _ _ _ _ _ _ _ _ _ _ _ _ _ _ _ _ _ _ _ _ _ _ _ _ _ _ _ _ _ _ _ _ _ _ _ _ _ _ _ _ _ _ _ _ _ _ _ _ _ _ _ _ _ _ _ _ _ _ _ _ _ _ _ _ _ _ _ _ _ _ _ _ _ _ _ _ _ _ _ _ _ _ _ _ _ _ _ _ _ _ _ _ _ _ _ _ _ _ _ _ _ _ _ _ _ _ _ _ _ _ _ _ _ _ _ _ _ _ _ _ _ _ ?_ ?_
        · exact fun d _ _ _ _ h => by cases d <;> exact h
        intro v88 v89 v90 v91 v92 v93 v94 v95 v96 v97 v98 v99 v100 v101 v102 v103 v104 v105 v106 v107 v108 v109 v110 v111 v112 v113 v114 v115 v116 v117 v118 v119 v120 v121 v122 v123 v124 v125 v126 v127 v128 v129 W15 h15
        have HF15 := Lib.hid (HF14.out.below h15)
        clear h15 HF14 HV14 HO14 HX14 HF13 HV13 HO13 HX13
        go_wp2_with fail
        go_roundw
        case rel => exact ⟨k + 1, by have := HK2.out; omega, by go_num, HF15⟩
        case measure => simp [intOf]; have := HK2.out; omega
    · have hk2' : decide ((k : Int) < 2) = false := by simp; omega
      have HEND : Hid (Below w.heap.size w wr) := Lib.hid (HB1.out.trans (HF.out.bel.mono (by have := HZ1.out; omega)))
      go_wp2_with fail
      go_ret
      exact ⟨rfl, HEND.out⟩
end Go.Proofs.Ytagpphelgghbpaa

/-
  zeitnottop.hand: the walk.
-/
set_option linter.unusedSimpArgs false
set_option linter.unusedVariables false
namespace Go.Proofs.Ytagpphelgghbpaa
open Go.RowKit

/-- The boards of the example. -/
def exO (i c p : Int) : Ob := ⟨i, c, p, 0, 0, 0, 0, 0, 0, false, false, false⟩
def exB (lib hand : List Int) : Bd := ⟨[exO 1 0 0, exO 2 1 0, exO 3 2 0, exO 4 3 1, exO 5 4 1], { zse with life := 20, lib := lib, hand := hand }, { zse with life := 20, lib := [4, 5] }, [], [], [], [], 0, 0, 0, -1, 0⟩
def exS : Nat → Bd
  | 0 => exB [1, 2, 3] []
  | 1 => exB [1, 2] [3]
  | _ => exB [1] [3, 2]
theorem ex_new : nbS 20 20 [0, 1, 2] [3, 4] (([0, 1, 2] : List Int).length + ([3, 4] : List Int).length) = exB [1, 2, 3] [] := by rfl
theorem ex_v0 : (exB [1, 2, 3] []).Valid := by unfold Bd.Valid plcP figP; decide
theorem ex_v1 : (exB [1, 2] [3]).Valid := by unfold Bd.Valid plcP figP; decide
theorem ex_v2 : (exB [1] [3, 2]).Valid := by unfold Bd.Valid plcP figP; decide
theorem ex_w {lib hand : List Int} (h1 : ∀ x ∈ lib, wfI x) (h2 : ∀ x ∈ hand, wfI x) : BdW (exB lib hand) := by
  refine ⟨?_, fun q _ => ?_, fun x hx => ?_, fun x hx => ?_, fun x hx => ?_⟩
  · show ∀ o ∈ [exO 1 0 0, exO 2 1 0, exO 3 2 0, exO 4 3 1, exO 5 4 1], wfO o
    unfold wfO wfI
    decide
  · rcases q with _ | _ | _ | _ | _ | _ | _ | _ | q
    · exact h1
    · exact h2
    · exact fun x hx => by cases hx
    · exact fun x hx => by cases hx
    · show ∀ x ∈ [4, 5], wfI x
      unfold wfI
      decide
    · exact fun x hx => by cases hx
    · exact fun x hx => by cases hx
    · exact fun x hx => by cases hx
    · exact fun x hx => by cases hx
  · cases hx
  · cases hx
  · cases hx
theorem ex_w0 : BdW (exB [1, 2, 3] []) := ex_w (by unfold wfI; decide) (by unfold wfI; decide)
theorem ex_w1 : BdW (exB [1, 2] [3]) := ex_w (by unfold wfI; decide) (by unfold wfI; decide)
theorem ex_w2 : BdW (exB [1] [3, 2]) := ex_w (by unfold wfI; decide) (by unfold wfI; decide)
theorem ex_ok : ∀ k, k < 2 → DrOK (exS k) (exS (k + 1)) := by
  intro k hk
  rcases (show k = 0 ∨ k = 1 by omega) with rfl | rfl
  · exact ⟨[1, 2], 3, rfl, rfl, ex_v1, ex_w1, by omega, by decide, ⟨exO 3 2 0, by decide, rfl⟩, by decide⟩
  · exact ⟨[1], 2, rfl, rfl, ex_v2, ex_w2, by omega, by decide, ⟨exO 2 1 0, by decide, rfl⟩, by decide⟩
theorem ex_sm : ∀ k, k ≤ 2 → BdSm (exS k) := by
  intro k hk
  rcases (show k = 0 ∨ k = 1 ∨ k = 2 by omega) with rfl | rfl | rfl
  · exact bd_sm ex_v0
  · exact bd_sm ex_v1
  · exact bd_sm ex_v2
set_option maxRecDepth 100000 in
theorem built_decks (A B : Option Addr) (n c k d : Nat) : Try.prog.built 47 [(0, .slice A n c), (1, .slice B k d)] = some #[.slice A n c, .slice B k d] := by kernel_rfl
theorem board_load {W : World} {g : Nat} {b : Bd} {m : BdM} (h : Blk W g 33 (b.cells m).toArray) : (Instr.loadAt 33 (.pointer (some ⟨g, 0, none⟩))).run Try.prog W = .ok (.agg (b.cells m).toArray) W := h.mid (b.cells m) _ (fun j v hj => by rw [Nat.zero_add]; simpa using hj) Try.underlying33 rfl (by rw [size_board]; rfl)
set_option maxRecDepth 100000 in
set_option maxHeartbeats 6400000 in
theorem hand_any (w : World) : Calls Try.prog 5 #[] w fun e w' => e = .returned (.bool true) ∧ Below w.heap.size w w' := by
  obtain ⟨w1, hw1⟩ : ∃ w1, w.alloc (.cells #[.int .i64 0, .int .i64 1, .int .i64 2] 3) = w1 := ⟨_, rfl⟩
  obtain ⟨w2, hw2⟩ : ∃ w2, w1.alloc (.cells #[.int .i64 3, .int .i64 4] 3) = w2 := ⟨_, rfl⟩
  obtain ⟨gE, hgE⟩ : ∃ g, w1.heap.size = g := ⟨_, rfl⟩
  have hb1 : Below w.heap.size w w1 := by rw [← hw1]; exact (Below.refl _ _).alloc (Nat.le_refl _) _
  have hb2 : Below w1.heap.size w1 w2 := by rw [← hw2]; exact (Below.refl _ _).alloc (Nat.le_refl _) _
  have hk1 : Blk w1 w.heap.size 3 #[.int .i64 0, .int .i64 1, .int .i64 2] := by rw [← hw1]; exact Blk.mk_ w _ _ _ rfl
  have hk2 : Blk w2 gE 3 #[.int .i64 3, .int .i64 4] := by rw [← hw2]; exact Blk.mk_ w1 _ _ _ hgE
  have HB2 := Lib.hid (below_call hb1 hb2 hb1.size)
  have HNW : Hid (Calls Try.prog 15 #[.int .i64 20, .agg #[.slice (some ⟨w.heap.size, 0, none⟩) 3 3, .slice (some ⟨gE, 0, none⟩) 2 2]] w2 (NewEnd 20 [0, 1, 2] [3, 4] w2)) := Lib.hid (new_any 20 [0, 1, 2] [3, 4] _ _ 3 3 2 2 w2 rfl (reads_block (hk1.call hb2) 1 3 rfl) (reads_block hk2 1 2 rfl) (by decide) (by decide))
  clear hb1 hb2 hk1 hk2
  go_enter Try.func5, Try.ntmps5
  go_wp2_with (first
    | (refine wpList_op_by rfl (run_of_build (parts := #[(0, .tmp 4), (1, .tmp 5)]) (parts' := #[(0, .slice (some ⟨w.heap.size, 0, none⟩) 3 3), (1, .slice (some ⟨gE, 0, none⟩) 2 2)]) rfl (by first | rfl | simp [Act.eval]) (built_decks _ _ _ _ _ _)) ?_; simp only [Act.put, List.setIfInBounds_toArray, List.set_cons_succ, List.set_cons_zero])
    | (go_at_call 15; refine HNW.out.mono ?_; rintro e w3 ⟨m3, rfl, ho3, hb3⟩; rw [ex_new] at ho3; rw [ex_new]; have HO3 := Lib.hid ho3; have HB3 := Lib.hid (below_call HB2.out hb3 HB2.out.size); clear ho3 hb3; obtain ⟨w4, hw4⟩ : ∃ w4, w3.alloc (.cells #[.slice none 0 0, .int .i64 0, .int .i64 0, .int .i64 0, .int .i64 0, .int .i64 0, .slice none 0 0, .slice none 0 0, .slice none 0 0, .slice none 0 0, .bool false, .bool false, .bool false, .int .i64 0, .int .i64 0, .int .i64 0, .int .i64 0, .int .i64 0, .int .i64 0, .int .i64 0, .slice none 0 0, .slice none 0 0, .slice none 0 0, .slice none 0 0, .bool false, .bool false, .bool false, .int .i64 0, .int .i64 0, .slice none 0 0, .slice none 0 0, .slice none 0 0, .slice none 0 0, .int .i64 0, .int .i64 0, .int .i64 0, .int .i64 0, .int .i64 0] 33) = w4 := ⟨_, rfl⟩; obtain ⟨g1, hg1⟩ : ∃ g, w3.heap.size = g := ⟨_, rfl⟩; have hb4 : Below w3.heap.size w3 w4 := (by rw [← hw4]; exact (Below.refl _ _).alloc (Nat.le_refl _) _); have hk4 : Blk w4 g1 33 #[.slice none 0 0, .int .i64 0, .int .i64 0, .int .i64 0, .int .i64 0, .int .i64 0, .slice none 0 0, .slice none 0 0, .slice none 0 0, .slice none 0 0, .bool false, .bool false, .bool false, .int .i64 0, .int .i64 0, .int .i64 0, .int .i64 0, .int .i64 0, .int .i64 0, .int .i64 0, .slice none 0 0, .slice none 0 0, .slice none 0 0, .slice none 0 0, .bool false, .bool false, .bool false, .int .i64 0, .int .i64 0, .slice none 0 0, .slice none 0 0, .slice none 0 0, .slice none 0 0, .int .i64 0, .int .i64 0, .int .i64 0, .int .i64 0, .int .i64 0] := (by rw [← hw4]; exact Blk.mk_ _ _ _ _ hg1); obtain ⟨w5, hst, hp5, hg5⟩ := hk4.storeAll (ty := 33) ((exB [1, 2, 3] []).cells m3) rfl (by rw [size_board] <;> rfl) (one_bd _ _); have HST := Lib.hid hst; have HO5 : Hid (BdO w5 w2.heap.size (exB [1, 2, 3] []) m3) := Lib.hid ((HO3.out.below hb4).blk hk4 hg5 off_board); have HP5 := Lib.hid hp5; have hb34 := below_call HB3.out hb4 HB3.out.size; have HB5 : Hid (Below w.heap.size w w5) := Lib.hid (hb34.grown hg5 hb34.size (fun q hq => by injection hq with hq; have := HB3.out.size; omega)); have HGW : Hid (w.heap.size ≤ g1 ∧ g1 < w5.heap.size) := Lib.hid ⟨by have := HB3.out.size; omega, hp5.lt⟩; clear hb4 hk4 hst hp5 hg5 hb34)
    | (refine wpList_store_by HST.out rfl rfl rfl rfl ?_; simp only [Act.put, List.setIfInBounds_toArray, List.set_cons_succ, List.set_cons_zero])
    | (refine wpList_load_by (board_load HP5.out) rfl rfl rfl ?_; simp only [Act.put, List.setIfInBounds_toArray, List.set_cons_succ, List.set_cons_zero])
    | (go_at_call 16; refine (draw_any exS 2 m3 w5 (by decide) (HO5.out.isR ex_w0) ex_v0 (by decide) ex_sm ex_ok).mono ?_; rintro e w6 ⟨m6, rfl, ho6, hb6⟩; have HO6 := Lib.hid ho6; obtain ⟨w7, hst7, hp7, hg7⟩ := (HP5.out.call hb6).storeAll (ty := 33) ((exB [1] [3, 2]).cells m6) rfl (by rw [size_board] <;> rfl) (one_bd _ _); have HST7 := Lib.hid hst7; have hb6' := below_call HB5.out hb6 HB5.out.size; have HO7 : Hid (BdO w7 w5.heap.size (exB [1] [3, 2]) m6) := Lib.hid (HO6.out.blk (HP5.out.call hb6) hg7 off_board); have HP7 := Lib.hid hp7; have HB7 : Hid (Below w.heap.size w w7) := Lib.hid (hb6'.grown hg7 hb6'.size (fun q hq => by injection hq with hq; have := HGW.out.1; omega)); obtain ⟨⟨HA, Hc⟩, hmH⟩ : ∃ s, m6.m0.H = s := ⟨_, rfl⟩; have HC7 : Hid (Blk w7 g1 33 ((exB [1] [3, 2]).cells m6).toArray ∧ m6.m0.H = ⟨HA, Hc⟩) := Lib.hid ⟨hp7, hmH⟩; clear ho6 hb6 hst7 hp7 hg7 hb6' hmH)
    | (refine wpList_store_by HST7.out rfl rfl rfl rfl ?_; simp only [Act.put, List.setIfInBounds_toArray, List.set_cons_succ, List.set_cons_zero])
    | (refine wpList_load_by (board_load HP7.out) rfl rfl rfl ?_; simp only [Act.put, List.setIfInBounds_toArray, List.set_cons_succ, List.set_cons_zero])
    | (go_at_call 6; refine (public_any (exB [1] [3, 2]) m6 w7 (HO7.out.isR ex_w2) (by decide) ex_v2).mono ?_; rintro e w8 ⟨rfl, hb8⟩; have HB8 := Lib.hid (below_call HB7.out hb8 HB7.out.size); have c8 : w8.cell? ⟨g1, 7, none⟩ = some (.slice HA 2 Hc) := (by exact ((HP7.out.call hb8).at_ 7).trans (by show some (m6.m0.H.v 2) = _; rw [HC7.out.2]; rfl)); clear hb8)
    | fail)
  go_ret
  exact ⟨rfl, HB8.out⟩
end Go.Proofs.Ytagpphelgghbpaa
