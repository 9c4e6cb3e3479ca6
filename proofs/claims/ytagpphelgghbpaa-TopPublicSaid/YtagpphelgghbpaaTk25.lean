/-
  Texts: Sof.
-/
import Derived.Test.YtagpphelgghbpaaTk21
import Derived.Test.YtagpphelgghbpaaTk6
import Derived.Test.YtagpphelgghbpaaTk7
import Derived.Deep.DeepCutAuto
/-
  spectate.Of: what is public of a board.
-/
set_option linter.unusedSimpArgs false
set_option linter.unusedVariables false
namespace Go.Proofs.Ytagpphelgghbpaa
open Go.RowKit

set_option maxRecDepth 100000 in
set_option maxHeartbeats 6400000 in
theorem sof_any (b : Bd) (m : BdM) (w : World) (h : BdR w b m) (hz : b.plc.length < 9223372036854775807) (hv : b.Valid) :
    Calls Try.prog 38 #[.agg (b.cells m).toArray] w (SofEnd b w) := by
  have HSM := Lib.hid (bd_sm hv)
  have HV := Lib.hid hv
  have HR := Lib.hid h
  obtain ⟨cs, hcs⟩ : ∃ cs, (b.cells m).toArray = cs := ⟨_, rfl⟩
  have HCS := Lib.hid hcs
  rw [hcs]
  obtain ⟨w2, hw2⟩ : ∃ w2, (w.alloc (.cells cs 33)).alloc (.cells #[.int .i64 0, .int .i64 0, .int .i64 0, .int .i64 0, .int .i64 0, .int .i64 0, .int .i64 0, .slice none 0 0, .slice none 0 0, .bool false, .bool false, .bool false, .int .i64 0, .int .i64 0, .int .i64 0, .int .i64 0, .int .i64 0, .int .i64 0, .int .i64 0, .int .i64 0, .int .i64 0, .slice none 0 0, .slice none 0 0, .bool false, .bool false, .bool false, .int .i64 0, .int .i64 0, .slice none 0 0, .slice none 0 0, .slice none 0 0, .slice none 0 0, .int .i64 0, .int .i64 0, .int .i64 0, .int .i64 0, .int .i64 0] 59) = w2 := ⟨_, rfl⟩
  have HB2 : Hid (Below w.heap.size w w2) := Lib.hid (by rw [← hw2]; exact ((Below.refl _ _).alloc (Nat.le_refl _) _).alloc (by simp) _)
  have HBX2 : Hid (Blk w2 w.heap.size 33 cs) := Lib.hid (by rw [← hw2]; exact (Blk.mk_ w _ _ _ rfl).alloc _)
  have HRS2 : Hid (Blk w2 (w.heap.size + 1) 59 #[.int .i64 0, .int .i64 0, .int .i64 0, .int .i64 0, .int .i64 0, .int .i64 0, .int .i64 0, .slice none 0 0, .slice none 0 0, .bool false, .bool false, .bool false, .int .i64 0, .int .i64 0, .int .i64 0, .int .i64 0, .int .i64 0, .int .i64 0, .int .i64 0, .int .i64 0, .int .i64 0, .slice none 0 0, .slice none 0 0, .bool false, .bool false, .bool false, .int .i64 0, .int .i64 0, .slice none 0 0, .slice none 0 0, .slice none 0 0, .slice none 0 0, .int .i64 0, .int .i64 0, .int .i64 0, .int .i64 0, .int .i64 0]) := Lib.hid (by rw [← hw2]; exact Blk.mk_ _ _ _ _ (by simp))
  have HLB : Hid (∀ W, Blk W w.heap.size 33 cs → (Instr.loadAt 33 (.pointer (some ⟨w.heap.size, 0, none⟩))).run Try.prog W = .ok (.agg cs) W) := Lib.hid (fun W hW => by
    rw [← hcs] at hW ⊢
    exact hW.mid (b.cells m) _ (fun j v hj => by rw [Nat.zero_add]; simpa using hj) Try.underlying33 rfl size_board)
  have HVC := Lib.hid (valid_any b m w2 (h.below (HB2.out.mono (Nat.le_refl _))) hz)
  rw [hcs] at HVC
  have HL2 := Lib.hid (HLB.out w2 HBX2.out)
  obtain ⟨turn, hturn⟩ : ∃ x, b.turn = x := ⟨_, rfl⟩
  obtain ⟨actv, hactv⟩ : ∃ x, b.actv = x := ⟨_, rfl⟩
  obtain ⟨phs, hphs⟩ : ∃ x, b.phs = x := ⟨_, rfl⟩
  obtain ⟨hold, hhold⟩ : ∃ x, b.hold = x := ⟨_, rfl⟩
  obtain ⟨pas, hpas⟩ : ∃ x, b.pas = x := ⟨_, rfl⟩
  obtain ⟨ns, hns⟩ : ∃ x, b.stk.length = x := ⟨_, rfl⟩
  obtain ⟨nq, hnq⟩ : ∃ x, b.que.length = x := ⟨_, rfl⟩
  obtain ⟨na, hna⟩ : ∃ x, b.att.length = x := ⟨_, rfl⟩
  obtain ⟨nk, hnk⟩ : ∃ x, b.blk.length = x := ⟨_, rfl⟩
  obtain ⟨⟨SA, Sc⟩, hmS⟩ : ∃ x, m.S = x := ⟨_, rfl⟩
  obtain ⟨⟨QA, Qc⟩, hmQ⟩ : ∃ x, m.Q = x := ⟨_, rfl⟩
  obtain ⟨⟨AA, Ac⟩, hmA⟩ : ∃ x, m.AT = x := ⟨_, rfl⟩
  obtain ⟨⟨KA, Kc⟩, hmK⟩ : ∃ x, m.BK = x := ⟨_, rfl⟩
  have E29 : Hid (cs[29]? = some (.slice SA ns Sc)) := Lib.hid (by rw [← hcs]; show some (m.S.v b.stk.length) = _; rw [hmS, hns]; rfl)
  have E30 : Hid (cs[30]? = some (.slice QA nq Qc)) := Lib.hid (by rw [← hcs]; show some (m.Q.v b.que.length) = _; rw [hmQ, hnq]; rfl)
  have E31 : Hid (cs[31]? = some (.slice AA na Ac)) := Lib.hid (by rw [← hcs]; show some (m.AT.v b.att.length) = _; rw [hmA, hna]; rfl)
  have E32 : Hid (cs[32]? = some (.slice KA nk Kc)) := Lib.hid (by rw [← hcs]; show some (m.BK.v b.blk.length) = _; rw [hmK, hnk]; rfl)
  have E33 : Hid (cs[33]? = some (.int .i64 turn)) := Lib.hid (by rw [← hcs, ← hturn]; rfl)
  have E34 : Hid (cs[34]? = some (.int .i64 actv)) := Lib.hid (by rw [← hcs, ← hactv]; rfl)
  have E35 : Hid (cs[35]? = some (.int .i64 phs)) := Lib.hid (by rw [← hcs, ← hphs]; rfl)
  have E36 : Hid (cs[36]? = some (.int .i64 hold)) := Lib.hid (by rw [← hcs, ← hhold]; rfl)
  have E37 : Hid (cs[37]? = some (.int .i64 pas)) := Lib.hid (by rw [← hcs, ← hpas]; rfl)
  have HTAIL := Lib.hid (And.intro hturn (And.intro hactv (And.intro hphs (And.intro hhold hpas))))
  have HNS := Lib.hid (And.intro hns (And.intro hnq (And.intro hna hnk)))
  have HMM := Lib.hid (And.intro hmS (And.intro hmQ (And.intro hmA hmK)))
  have HNB : Hid (ns ≤ 200 ∧ nq ≤ 200 ∧ na ≤ 500 ∧ nk ≤ 500) := Lib.hid ⟨by rw [← hns]; exact HSM.out.S, by rw [← hnq]; exact HSM.out.Q, by rw [← hna]; exact HSM.out.AT, by rw [← hnk]; exact HSM.out.BK⟩
  clear h hv hcs hz hturn hactv hphs hhold hpas hns hnq hna hnk hmS hmQ hmA hmK
  go_enter Try.func38, Try.ntmps38
  go_wp2_with (first | (refine wpList_load_by HL2.out rfl rfl rfl ?_; simp only [Act.put, List.setIfInBounds_toArray, List.set_cons_succ, List.set_cons_zero]) | fail)
  refine HVC.out.mono ?_
  rintro e w3 ⟨v, rfl, hvv, hb3⟩
  obtain rfl : v = true := hvv.2 HV.out
  have HB3 := Lib.hid (below_call HB2.out hb3 HB2.out.size)
  have HBX3 := Lib.hid (HBX2.out.call hb3)
  have HRS3 := Lib.hid (HRS2.out.call hb3)
  clear hvv hb3 hw2
  go_wp2_with fail
  have HIS : Hid (∀ W, Below w3.heap.size w3 W → Calls Try.prog 63 #[.slice SA ns Sc] W (ItsEnd b.stk ns W)) := Lib.hid (fun W hb => by
    have hS := (HR.out.below (below_call HB3.out hb HB3.out.size)).S
    rw [HMM.out.1] at hS
    exact its_spec ⟨SA, Sc⟩ ns b.stk m.ST W hS HNS.out.1 (by have := HNB.out; omega) (fun x hx => by have := HSM.out.ST x hx; omega))
  have HIQ : Hid (∀ W, Below w3.heap.size w3 W → Calls Try.prog 63 #[.slice QA nq Qc] W (ItsEnd b.que nq W)) := Lib.hid (fun W hb => by
    have hS := (HR.out.below (below_call HB3.out hb HB3.out.size)).Q
    rw [HMM.out.2.1] at hS
    exact its_spec ⟨QA, Qc⟩ nq b.que m.QT W hS HNS.out.2.1 (by have := HNB.out; omega) (fun x hx => by have := HSM.out.QT x hx; omega))
  have HIA : Hid (∀ W, Below w3.heap.size w3 W → Calls Try.prog 46 #[.slice AA na Ac] W fun e w' => ∃ A' c', e = .returned (.slice A' na c') ∧ XOwns w' W.heap.size 3 1 A' na c' (ics b.att) ∧ Below W.heap.size W w') := Lib.hid (fun W hb => by
    have hS := (HR.out.below (below_call HB3.out hb HB3.out.size)).AT
    rw [HMM.out.2.2.1] at hS
    have h1 := hS.row
    rw [HNS.out.2.2.1] at h1
    exact clone_ints AA na Ac (ics b.att) W h1 (ics_one _) hS.ok.2.1 (by have := HNB.out; omega))
  have HIK : Hid (∀ W, Below w3.heap.size w3 W → Calls Try.prog 47 #[.slice KA nk Kc] W fun e w' => ∃ A' c', e = .returned (.slice A' nk c') ∧ XOwns w' W.heap.size 93 2 A' nk c' (bcs b.blk) ∧ Below W.heap.size W w') := Lib.hid (fun W hb => by
    have hS := (HR.out.below (below_call HB3.out hb HB3.out.size))
    have h1 := hS.BK
    have h2 := hS.Bo
    rw [HMM.out.2.2.2] at h1 h2
    rw [HNS.out.2.2.2] at h1
    exact clone_blks KA nk Kc (bcs b.blk) W h1 (one_bcs _) h2.2.1 (by have := HNB.out; omega))
  have x29 : ∀ s : Later w3.heap.size w3, s.W.cell? ⟨w.heap.size, 29, none⟩ = some (.slice SA ns Sc) := fun s => ((HBX3.out.call s.h).at_ 29).trans E29.out
  have x30 : ∀ s : Later w3.heap.size w3, s.W.cell? ⟨w.heap.size, 30, none⟩ = some (.slice QA nq Qc) := fun s => ((HBX3.out.call s.h).at_ 30).trans E30.out
  have x31 : ∀ s : Later w3.heap.size w3, s.W.cell? ⟨w.heap.size, 31, none⟩ = some (.slice AA na Ac) := fun s => ((HBX3.out.call s.h).at_ 31).trans E31.out
  have x32 : ∀ s : Later w3.heap.size w3, s.W.cell? ⟨w.heap.size, 32, none⟩ = some (.slice KA nk Kc) := fun s => ((HBX3.out.call s.h).at_ 32).trans E32.out
  have x33 : ∀ s : Later w3.heap.size w3, s.W.cell? ⟨w.heap.size, 33, none⟩ = some (.int .i64 turn) := fun s => ((HBX3.out.call s.h).at_ 33).trans E33.out
  have x34 : ∀ s : Later w3.heap.size w3, s.W.cell? ⟨w.heap.size, 34, none⟩ = some (.int .i64 actv) := fun s => ((HBX3.out.call s.h).at_ 34).trans E34.out
  have x35 : ∀ s : Later w3.heap.size w3, s.W.cell? ⟨w.heap.size, 35, none⟩ = some (.int .i64 phs) := fun s => ((HBX3.out.call s.h).at_ 35).trans E35.out
  have x36 : ∀ s : Later w3.heap.size w3, s.W.cell? ⟨w.heap.size, 36, none⟩ = some (.int .i64 hold) := fun s => ((HBX3.out.call s.h).at_ 36).trans E36.out
  have x37 : ∀ s : Later w3.heap.size w3, s.W.cell? ⟨w.heap.size, 37, none⟩ = some (.int .i64 pas) := fun s => ((HBX3.out.call s.h).at_ 37).trans E37.out
  have hbxl := HBX3.out.lt
  go_cut [4] (fun s W => ∃ gP : Nat, s = .pointer (some ⟨gP, 0, none⟩) ∧ ∃ (S Q A K : Sl) (ST QT : List Sl), Hid (OfS w b cs gP S Q A K ST QT [.slice S.A ns S.c, .slice Q.A nq Q.c, .slice A.A na A.c, .slice K.A nk K.c, .int .i64 turn, .int .i64 actv, .int .i64 phs, .int .i64 hold, .int .i64 pas] 0 zvs zvs W))
  case first =>
    refine wp_region_sched (fun w' => ∃ s : Later w3.heap.size w3, w' = s.W) [0,1,3,4,6,7,9,10,12,13,14,15,16,17,18,19,20,21] ((.two 2 [] (.two 5 [] (.two 8 [] (.two 11 [22] (.one 23 [] (.one 24 [] .done)) 23 [] (.one 11 [22] (.one 24 [] .done))) 23 [] (.one 8 [] (.one 11 [22] (.one 24 [] .done)))) 23 [] (.one 5 [] (.one 8 [] (.one 11 [22] (.one 24 [] .done))))) 23 [] (.one 2 [] (.one 5 [] (.one 8 [] (.one 11 [22] (.one 24 [] .done))))))) (by kernel_rfl) (by kernel_rfl) (fun d _ _ _ _ h => by cases d <;> exact h) ⟨⟨_, (Below.refl _ _).drew⟩, rfl⟩ ?_
    refine quiet_as (C' := (fun w' => ∃ s : Later w3.heap.size w3, w' = s.W)) rfl ?_
    simp only [opsAt, List.getElem?_toArray, List.getElem?_cons_succ, List.getElem?_cons_zero]
    repeat (go_big_quiet_step (fail))
    refine wpQuiet_nil ?_
    obtain ⟨w3_d, hwd⟩ : ∃ v, w3.drew = v := ⟨_, rfl⟩
    have HBR0 : Hid (Below w3.heap.size w3 w3_d) := Lib.hid (by rw [← hwd]; exact (Below.refl _ _).drew)
    rw [hwd]
    clear hwd
    refine ⟨?_, ?_⟩
    · refine eff_as (C' := (fun w' => ∃ s : Later w3.heap.size w3, w' = s.W)) rfl ?_
      (refine eff_lit rfl rfl (fun K hK => ?_))
      go_big_op
      refine (HIS.out w3_d HBR0.out).mono ?_
      rintro e w3_1 ⟨⟨A1, c1⟩, ST1, rfl, hx, hbw3_1⟩
      have HBR2 := Lib.hid (below_call HBR0.out hbw3_1 HBR0.out.size)
      have FS_2 := Lib.hid ((hx.more (Nat.le_trans HB3.out.size HBR0.out.size) : IsO _ w.heap.size ⟨A1, c1⟩ b.stk ST1))
      clear hbw3_1
      clear hx
      refine hK _ _ ⟨⟨_, HBR2.out⟩, rfl⟩ ?_
      clear hK K
      simp only [opsAt, List.getElem?_toArray, List.getElem?_cons_succ, List.getElem?_cons_zero]
      refine wpQuiet_nil ?_
      refine ⟨?_, ?_⟩
      · refine eff_as (C' := (fun w' => ∃ s : Later w3.heap.size w3, w' = s.W)) rfl ?_
        (refine eff_lit rfl rfl (fun K hK => ?_))
        go_big_op
        refine (HIQ.out w3_1 HBR2.out).mono ?_
        rintro e w3_3 ⟨⟨A2, c2⟩, QT1, rfl, hx, hbw3_3⟩
        have HBR4 := Lib.hid (below_call HBR2.out hbw3_3 HBR2.out.size)
        have FS_4 := Lib.hid (FS_2.out.below hbw3_3)
        have FQ_4 := Lib.hid ((hx.more (Nat.le_trans HB3.out.size HBR2.out.size) : IsO _ w.heap.size ⟨A2, c2⟩ b.que QT1))
        clear hbw3_3
        clear hx
        refine hK _ _ ⟨⟨_, HBR4.out⟩, rfl⟩ ?_
        clear hK K
        simp only [opsAt, List.getElem?_toArray, List.getElem?_cons_succ, List.getElem?_cons_zero]
        refine wpQuiet_nil ?_
        refine ⟨?_, ?_⟩
        · refine eff_as (C' := (fun w' => ∃ s : Later w3.heap.size w3, w' = s.W)) rfl ?_
          (refine eff_lit rfl rfl (fun K hK => ?_))
          go_big_op
          refine (HIA.out w3_3 HBR4.out).mono ?_
          rintro e w3_5 ⟨A3, c3, rfl, hx, hbw3_5⟩
          have HBR6 := Lib.hid (below_call HBR4.out hbw3_5 HBR4.out.size)
          have FS_6 := Lib.hid (FS_4.out.below hbw3_5)
          have FQ_6 := Lib.hid (FQ_4.out.below hbw3_5)
          have FA_6 := Lib.hid (hx.more (Nat.le_trans HB3.out.size HBR4.out.size))
          clear hbw3_5
          clear hx
          refine hK _ _ ⟨⟨_, HBR6.out⟩, rfl⟩ ?_
          clear hK K
          simp only [opsAt, List.getElem?_toArray, List.getElem?_cons_succ, List.getElem?_cons_zero]
          refine wpQuiet_nil ?_
          refine ⟨?_, ?_⟩
          · refine eff_as (C' := (fun w' => ∃ s : Later w3.heap.size w3, w' = s.W)) rfl ?_
            (refine eff_lit rfl rfl (fun K hK => ?_))
            go_big_op
            refine (HIK.out w3_5 HBR6.out).mono ?_
            rintro e w3_7 ⟨A4, c4, rfl, hx, hbw3_7⟩
            have HBR8 := Lib.hid (below_call HBR6.out hbw3_7 HBR6.out.size)
            have FS_8 := Lib.hid (FS_6.out.below hbw3_7)
            have FQ_8 := Lib.hid (FQ_6.out.below hbw3_7)
            have FA_8 := Lib.hid (FA_6.out.below hbw3_7)
            have FK_8 := Lib.hid (hx.more (Nat.le_trans HB3.out.size HBR6.out.size))
            clear hbw3_7
            clear hx
            refine hK _ _ ⟨⟨_, HBR8.out⟩, rfl⟩ ?_
            clear hK K
            simp only [opsAt, List.getElem?_toArray, List.getElem?_cons_succ, List.getElem?_cons_zero]
            repeat (go_big_quiet_step (fail))
            refine wpQuiet_nil ?_
            refine eff_as (C' := (fun w' => ∃ s : Later w3.heap.size w3, w' = s.W)) rfl ?_
            (refine eff_lit rfl rfl (fun K hK => ?_))
            go_big_op
            obtain ⟨w3_9, hvw3_9⟩ : ∃ v, (w3_7.alloc (.cells #[.int .i64 0, .int .i64 0, .int .i64 0, .int .i64 0, .int .i64 0, .int .i64 0, .int .i64 0, .slice none 0 0, .slice none 0 0, .bool false, .bool false, .bool false, .int .i64 0, .int .i64 0, .int .i64 0, .int .i64 0, .int .i64 0, .int .i64 0, .int .i64 0, .int .i64 0, .int .i64 0, .slice none 0 0, .slice none 0 0, .bool false, .bool false, .bool false, .int .i64 0, .int .i64 0, .slice none 0 0, .slice none 0 0, .slice none 0 0, .slice none 0 0, .int .i64 0, .int .i64 0, .int .i64 0, .int .i64 0, .int .i64 0] 59)) = v := ⟨_, rfl⟩
            have hbw3_9 : Below w3_7.heap.size w3_7 w3_9 := by rw [← hvw3_9]; exact (Below.refl _ _).alloc (Nat.le_refl _) _
            obtain ⟨gP, hggP⟩ : ∃ v, w3_7.heap.size = v := ⟨_, rfl⟩
            have hkw3_9 : Blk w3_9 gP 59 #[.int .i64 0, .int .i64 0, .int .i64 0, .int .i64 0, .int .i64 0, .int .i64 0, .int .i64 0, .slice none 0 0, .slice none 0 0, .bool false, .bool false, .bool false, .int .i64 0, .int .i64 0, .int .i64 0, .int .i64 0, .int .i64 0, .int .i64 0, .int .i64 0, .int .i64 0, .int .i64 0, .slice none 0 0, .slice none 0 0, .bool false, .bool false, .bool false, .int .i64 0, .int .i64 0, .slice none 0 0, .slice none 0 0, .slice none 0 0, .slice none 0 0, .int .i64 0, .int .i64 0, .int .i64 0, .int .i64 0, .int .i64 0] := by rw [← hvw3_9]; exact Blk.mk_ _ _ _ _ hggP
            have HNgP : Hid (w3.heap.size ≤ gP) := Lib.hid (by have := HBR8.out.size; rw [← hggP]; exact this)
            rw [hvw3_9, hggP]
            have HBR10 := Lib.hid (below_call HBR8.out hbw3_9 HBR8.out.size)
            have FS_10 := Lib.hid (FS_8.out.below hbw3_9)
            have FQ_10 := Lib.hid (FQ_8.out.below hbw3_9)
            have FA_10 := Lib.hid (FA_8.out.below hbw3_9)
            have FK_10 := Lib.hid (FK_8.out.below hbw3_9)
            have PB_10 := Lib.hid (hkw3_9)
            clear hbw3_9
            clear hkw3_9 hvw3_9 hggP
            refine hK _ _ ⟨⟨_, HBR10.out⟩, rfl⟩ ?_
            clear hK K
            simp only [opsAt, List.getElem?_toArray, List.getElem?_cons_succ, List.getElem?_cons_zero]
            refine wpQuiet_nil ?_
            refine eff_as (C' := (fun w' => ∃ s : Later w3.heap.size w3, w' = s.W)) rfl ?_
            (refine eff_lit rfl rfl (fun K hK => ?_))
            obtain ⟨w3_11, hrun, hk, hg⟩ := PB_10.out.storeAll (ty := 59) (zvs ++ zvs ++ [Value.slice A1 ns c1, .slice A2 nq c2, .slice A3 na c3, .slice A4 nk c4, .int .i64 turn, .int .i64 actv, .int .i64 phs, .int .i64 hold, .int .i64 pas]) rfl (by rw [size_public]; rfl) (by simp [zvs, Value.oneCell'])
            refine wp_store_by hrun rfl rfl rfl ?_
            simp only [Act.put, List.setIfInBounds_toArray, List.set_cons_succ, List.set_cons_zero]
            clear hrun
            have HBR12 := Lib.hid (HBR10.out.grown hg HBR10.out.size (fun q hq => by injection hq with hq; have := HNgP.out; omega))
            have FS_12 := Lib.hid (FS_10.out.blk PB_10.out hg (by decide) (by decide))
            have FQ_12 := Lib.hid (FQ_10.out.blk PB_10.out hg (by decide) (by decide))
            have FA_12 := Lib.hid (FA_10.out.blk_ PB_10.out hg (by decide))
            have FK_12 := Lib.hid (FK_10.out.blk_ PB_10.out hg (by decide))
            have PB_12 := Lib.hid hk
            clear hk hg
            refine hK _ _ ⟨⟨_, HBR12.out⟩, rfl⟩ ?_
            clear hK K
            simp only [opsAt, List.getElem?_toArray, List.getElem?_cons_succ, List.getElem?_cons_zero]
            refine wpQuiet_nil ?_
            refine effs_done ?_
            go_wp2_with fail
            go_meet
            refine ⟨gP, rfl, ⟨A1, c1⟩, ⟨A2, c2⟩, ⟨A3, c3⟩, ⟨A4, c4⟩, ST1, QT1, Lib.hid ⟨PB_12.out, rfl, rfl, fun h => absurd h (by omega), fun h => absurd h (by omega), FS_12.out, FQ_12.out, ?_, ?_, HBX3.out.call HBR12.out, HRS3.out.call HBR12.out, ?_, below_call HB3.out HBR12.out HB3.out.size⟩⟩
            · rw [HNS.out.2.2.1]; exact FA_12.out
            · rw [HNS.out.2.2.2]; exact FK_12.out
            · have h1 := HRS3.out.lt; have h2 := HNgP.out; omega
          · refine eff_as (C' := (fun w' => ∃ s : Later w3.heap.size w3, w' = s.W)) rfl ?_
            (refine eff_lit rfl rfl (fun K hK => ?_))
            go_big_op
            obtain ⟨w3_13, hvw3_13⟩ : ∃ v, (w3_5.alloc (.cells #[.int .i64 0, .int .i64 0, .int .i64 0, .int .i64 0, .int .i64 0, .int .i64 0, .int .i64 0, .slice none 0 0, .slice none 0 0, .bool false, .bool false, .bool false, .int .i64 0, .int .i64 0, .int .i64 0, .int .i64 0, .int .i64 0, .int .i64 0, .int .i64 0, .int .i64 0, .int .i64 0, .slice none 0 0, .slice none 0 0, .bool false, .bool false, .bool false, .int .i64 0, .int .i64 0, .slice none 0 0, .slice none 0 0, .slice none 0 0, .slice none 0 0, .int .i64 0, .int .i64 0, .int .i64 0, .int .i64 0, .int .i64 0] 59)) = v := ⟨_, rfl⟩
            have hbw3_13 : Below w3_5.heap.size w3_5 w3_13 := by rw [← hvw3_13]; exact (Below.refl _ _).alloc (Nat.le_refl _) _
            obtain ⟨gP, hggP⟩ : ∃ v, w3_5.heap.size = v := ⟨_, rfl⟩
            have hkw3_13 : Blk w3_13 gP 59 #[.int .i64 0, .int .i64 0, .int .i64 0, .int .i64 0, .int .i64 0, .int .i64 0, .int .i64 0, .slice none 0 0, .slice none 0 0, .bool false, .bool false, .bool false, .int .i64 0, .int .i64 0, .int .i64 0, .int .i64 0, .int .i64 0, .int .i64 0, .int .i64 0, .int .i64 0, .int .i64 0, .slice none 0 0, .slice none 0 0, .bool false, .bool false, .bool false, .int .i64 0, .int .i64 0, .slice none 0 0, .slice none 0 0, .slice none 0 0, .slice none 0 0, .int .i64 0, .int .i64 0, .int .i64 0, .int .i64 0, .int .i64 0] := by rw [← hvw3_13]; exact Blk.mk_ _ _ _ _ hggP
            have HNgP : Hid (w3.heap.size ≤ gP) := Lib.hid (by have := HBR6.out.size; rw [← hggP]; exact this)
            rw [hvw3_13, hggP]
            have HBR14 := Lib.hid (below_call HBR6.out hbw3_13 HBR6.out.size)
            have FS_14 := Lib.hid (FS_6.out.below hbw3_13)
            have FQ_14 := Lib.hid (FQ_6.out.below hbw3_13)
            have FA_14 := Lib.hid (FA_6.out.below hbw3_13)
            have PB_14 := Lib.hid (hkw3_13)
            clear hbw3_13
            clear hkw3_13 hvw3_13 hggP
            refine hK _ _ ⟨⟨_, HBR14.out⟩, rfl⟩ ?_
            clear hK K
            simp only [opsAt, List.getElem?_toArray, List.getElem?_cons_succ, List.getElem?_cons_zero]
            refine wpQuiet_nil ?_
            refine eff_as (C' := (fun w' => ∃ s : Later w3.heap.size w3, w' = s.W)) rfl ?_
            (refine eff_lit rfl rfl (fun K hK => ?_))
            go_big_op
            refine (HIK.out w3_13 HBR14.out).mono ?_
            rintro e w3_15 ⟨A4, c4, rfl, hx, hbw3_15⟩
            have HBR16 := Lib.hid (below_call HBR14.out hbw3_15 HBR14.out.size)
            have FS_16 := Lib.hid (FS_14.out.below hbw3_15)
            have FQ_16 := Lib.hid (FQ_14.out.below hbw3_15)
            have FA_16 := Lib.hid (FA_14.out.below hbw3_15)
            have PB_16 := Lib.hid (PB_14.out.call hbw3_15)
            have FK_16 := Lib.hid (hx.more (Nat.le_trans HB3.out.size HBR14.out.size))
            clear hbw3_15
            clear hx
            refine hK _ _ ⟨⟨_, HBR16.out⟩, rfl⟩ ?_
            clear hK K
            simp only [opsAt, List.getElem?_toArray, List.getElem?_cons_succ, List.getElem?_cons_zero]
            repeat (go_big_quiet_step (fail))
            refine wpQuiet_nil ?_
            refine eff_as (C' := (fun w' => ∃ s : Later w3.heap.size w3, w' = s.W)) rfl ?_
            (refine eff_lit rfl rfl (fun K hK => ?_))
            obtain ⟨w3_17, hrun, hk, hg⟩ := PB_16.out.storeAll (ty := 59) (zvs ++ zvs ++ [Value.slice A1 ns c1, .slice A2 nq c2, .slice A3 na c3, .slice A4 nk c4, .int .i64 turn, .int .i64 actv, .int .i64 phs, .int .i64 hold, .int .i64 pas]) rfl (by rw [size_public]; rfl) (by simp [zvs, Value.oneCell'])
            refine wp_store_by hrun rfl rfl rfl ?_
            simp only [Act.put, List.setIfInBounds_toArray, List.set_cons_succ, List.set_cons_zero]
            clear hrun
            have HBR18 := Lib.hid (HBR16.out.grown hg HBR16.out.size (fun q hq => by injection hq with hq; have := HNgP.out; omega))
            have FS_18 := Lib.hid (FS_16.out.blk PB_16.out hg (by decide) (by decide))
            have FQ_18 := Lib.hid (FQ_16.out.blk PB_16.out hg (by decide) (by decide))
            have FA_18 := Lib.hid (FA_16.out.blk_ PB_16.out hg (by decide))
            have FK_18 := Lib.hid (FK_16.out.blk_ PB_16.out hg (by decide))
            have PB_18 := Lib.hid hk
            clear hk hg
            refine hK _ _ ⟨⟨_, HBR18.out⟩, rfl⟩ ?_
            clear hK K
            simp only [opsAt, List.getElem?_toArray, List.getElem?_cons_succ, List.getElem?_cons_zero]
            refine wpQuiet_nil ?_
            refine effs_done ?_
            go_wp2_with fail
            go_meet
            refine ⟨gP, rfl, ⟨A1, c1⟩, ⟨A2, c2⟩, ⟨A3, c3⟩, ⟨A4, c4⟩, ST1, QT1, Lib.hid ⟨PB_18.out, rfl, rfl, fun h => absurd h (by omega), fun h => absurd h (by omega), FS_18.out, FQ_18.out, ?_, ?_, HBX3.out.call HBR18.out, HRS3.out.call HBR18.out, ?_, below_call HB3.out HBR18.out HB3.out.size⟩⟩
            · rw [HNS.out.2.2.1]; exact FA_18.out
            · rw [HNS.out.2.2.2]; exact FK_18.out
            · have h1 := HRS3.out.lt; have h2 := HNgP.out; omega
        · refine eff_as (C' := (fun w' => ∃ s : Later w3.heap.size w3, w' = s.W)) rfl ?_
          (refine eff_lit rfl rfl (fun K hK => ?_))
          go_big_op
          obtain ⟨w3_19, hvw3_19⟩ : ∃ v, (w3_3.alloc (.cells #[.int .i64 0, .int .i64 0, .int .i64 0, .int .i64 0, .int .i64 0, .int .i64 0, .int .i64 0, .slice none 0 0, .slice none 0 0, .bool false, .bool false, .bool false, .int .i64 0, .int .i64 0, .int .i64 0, .int .i64 0, .int .i64 0, .int .i64 0, .int .i64 0, .int .i64 0, .int .i64 0, .slice none 0 0, .slice none 0 0, .bool false, .bool false, .bool false, .int .i64 0, .int .i64 0, .slice none 0 0, .slice none 0 0, .slice none 0 0, .slice none 0 0, .int .i64 0, .int .i64 0, .int .i64 0, .int .i64 0, .int .i64 0] 59)) = v := ⟨_, rfl⟩
          have hbw3_19 : Below w3_3.heap.size w3_3 w3_19 := by rw [← hvw3_19]; exact (Below.refl _ _).alloc (Nat.le_refl _) _
          obtain ⟨gP, hggP⟩ : ∃ v, w3_3.heap.size = v := ⟨_, rfl⟩
          have hkw3_19 : Blk w3_19 gP 59 #[.int .i64 0, .int .i64 0, .int .i64 0, .int .i64 0, .int .i64 0, .int .i64 0, .int .i64 0, .slice none 0 0, .slice none 0 0, .bool false, .bool false, .bool false, .int .i64 0, .int .i64 0, .int .i64 0, .int .i64 0, .int .i64 0, .int .i64 0, .int .i64 0, .int .i64 0, .int .i64 0, .slice none 0 0, .slice none 0 0, .bool false, .bool false, .bool false, .int .i64 0, .int .i64 0, .slice none 0 0, .slice none 0 0, .slice none 0 0, .slice none 0 0, .int .i64 0, .int .i64 0, .int .i64 0, .int .i64 0, .int .i64 0] := by rw [← hvw3_19]; exact Blk.mk_ _ _ _ _ hggP
          have HNgP : Hid (w3.heap.size ≤ gP) := Lib.hid (by have := HBR4.out.size; rw [← hggP]; exact this)
          rw [hvw3_19, hggP]
          have HBR20 := Lib.hid (below_call HBR4.out hbw3_19 HBR4.out.size)
          have FS_20 := Lib.hid (FS_4.out.below hbw3_19)
          have FQ_20 := Lib.hid (FQ_4.out.below hbw3_19)
          have PB_20 := Lib.hid (hkw3_19)
          clear hbw3_19
          clear hkw3_19 hvw3_19 hggP
          refine hK _ _ ⟨⟨_, HBR20.out⟩, rfl⟩ ?_
          clear hK K
          simp only [opsAt, List.getElem?_toArray, List.getElem?_cons_succ, List.getElem?_cons_zero]
          refine wpQuiet_nil ?_
          refine eff_as (C' := (fun w' => ∃ s : Later w3.heap.size w3, w' = s.W)) rfl ?_
          (refine eff_lit rfl rfl (fun K hK => ?_))
          go_big_op
          refine (HIA.out w3_19 HBR20.out).mono ?_
          rintro e w3_21 ⟨A3, c3, rfl, hx, hbw3_21⟩
          have HBR22 := Lib.hid (below_call HBR20.out hbw3_21 HBR20.out.size)
          have FS_22 := Lib.hid (FS_20.out.below hbw3_21)
          have FQ_22 := Lib.hid (FQ_20.out.below hbw3_21)
          have PB_22 := Lib.hid (PB_20.out.call hbw3_21)
          have FA_22 := Lib.hid (hx.more (Nat.le_trans HB3.out.size HBR20.out.size))
          clear hbw3_21
          clear hx
          refine hK _ _ ⟨⟨_, HBR22.out⟩, rfl⟩ ?_
          clear hK K
          simp only [opsAt, List.getElem?_toArray, List.getElem?_cons_succ, List.getElem?_cons_zero]
          refine wpQuiet_nil ?_
          refine eff_as (C' := (fun w' => ∃ s : Later w3.heap.size w3, w' = s.W)) rfl ?_
          (refine eff_lit rfl rfl (fun K hK => ?_))
          go_big_op
          refine (HIK.out w3_21 HBR22.out).mono ?_
          rintro e w3_23 ⟨A4, c4, rfl, hx, hbw3_23⟩
          have HBR24 := Lib.hid (below_call HBR22.out hbw3_23 HBR22.out.size)
          have FS_24 := Lib.hid (FS_22.out.below hbw3_23)
          have FQ_24 := Lib.hid (FQ_22.out.below hbw3_23)
          have PB_24 := Lib.hid (PB_22.out.call hbw3_23)
          have FA_24 := Lib.hid (FA_22.out.below hbw3_23)
          have FK_24 := Lib.hid (hx.more (Nat.le_trans HB3.out.size HBR22.out.size))
          clear hbw3_23
          clear hx
          refine hK _ _ ⟨⟨_, HBR24.out⟩, rfl⟩ ?_
          clear hK K
          simp only [opsAt, List.getElem?_toArray, List.getElem?_cons_succ, List.getElem?_cons_zero]
          repeat (go_big_quiet_step (fail))
          refine wpQuiet_nil ?_
          refine eff_as (C' := (fun w' => ∃ s : Later w3.heap.size w3, w' = s.W)) rfl ?_
          (refine eff_lit rfl rfl (fun K hK => ?_))
          obtain ⟨w3_25, hrun, hk, hg⟩ := PB_24.out.storeAll (ty := 59) (zvs ++ zvs ++ [Value.slice A1 ns c1, .slice A2 nq c2, .slice A3 na c3, .slice A4 nk c4, .int .i64 turn, .int .i64 actv, .int .i64 phs, .int .i64 hold, .int .i64 pas]) rfl (by rw [size_public]; rfl) (by simp [zvs, Value.oneCell'])
          refine wp_store_by hrun rfl rfl rfl ?_
          simp only [Act.put, List.setIfInBounds_toArray, List.set_cons_succ, List.set_cons_zero]
          clear hrun
          have HBR26 := Lib.hid (HBR24.out.grown hg HBR24.out.size (fun q hq => by injection hq with hq; have := HNgP.out; omega))
          have FS_26 := Lib.hid (FS_24.out.blk PB_24.out hg (by decide) (by decide))
          have FQ_26 := Lib.hid (FQ_24.out.blk PB_24.out hg (by decide) (by decide))
          have FA_26 := Lib.hid (FA_24.out.blk_ PB_24.out hg (by decide))
          have FK_26 := Lib.hid (FK_24.out.blk_ PB_24.out hg (by decide))
          have PB_26 := Lib.hid hk
          clear hk hg
          refine hK _ _ ⟨⟨_, HBR26.out⟩, rfl⟩ ?_
          clear hK K
          simp only [opsAt, List.getElem?_toArray, List.getElem?_cons_succ, List.getElem?_cons_zero]
          refine wpQuiet_nil ?_
          refine effs_done ?_
          go_wp2_with fail
          go_meet
          refine ⟨gP, rfl, ⟨A1, c1⟩, ⟨A2, c2⟩, ⟨A3, c3⟩, ⟨A4, c4⟩, ST1, QT1, Lib.hid ⟨PB_26.out, rfl, rfl, fun h => absurd h (by omega), fun h => absurd h (by omega), FS_26.out, FQ_26.out, ?_, ?_, HBX3.out.call HBR26.out, HRS3.out.call HBR26.out, ?_, below_call HB3.out HBR26.out HB3.out.size⟩⟩
          · rw [HNS.out.2.2.1]; exact FA_26.out
          · rw [HNS.out.2.2.2]; exact FK_26.out
          · have h1 := HRS3.out.lt; have h2 := HNgP.out; omega
      · refine eff_as (C' := (fun w' => ∃ s : Later w3.heap.size w3, w' = s.W)) rfl ?_
        (refine eff_lit rfl rfl (fun K hK => ?_))
        go_big_op
        obtain ⟨w3_27, hvw3_27⟩ : ∃ v, (w3_1.alloc (.cells #[.int .i64 0, .int .i64 0, .int .i64 0, .int .i64 0, .int .i64 0, .int .i64 0, .int .i64 0, .slice none 0 0, .slice none 0 0, .bool false, .bool false, .bool false, .int .i64 0, .int .i64 0, .int .i64 0, .int .i64 0, .int .i64 0, .int .i64 0, .int .i64 0, .int .i64 0, .int .i64 0, .slice none 0 0, .slice none 0 0, .bool false, .bool false, .bool false, .int .i64 0, .int .i64 0, .slice none 0 0, .slice none 0 0, .slice none 0 0, .slice none 0 0, .int .i64 0, .int .i64 0, .int .i64 0, .int .i64 0, .int .i64 0] 59)) = v := ⟨_, rfl⟩
        have hbw3_27 : Below w3_1.heap.size w3_1 w3_27 := by rw [← hvw3_27]; exact (Below.refl _ _).alloc (Nat.le_refl _) _
        obtain ⟨gP, hggP⟩ : ∃ v, w3_1.heap.size = v := ⟨_, rfl⟩
        have hkw3_27 : Blk w3_27 gP 59 #[.int .i64 0, .int .i64 0, .int .i64 0, .int .i64 0, .int .i64 0, .int .i64 0, .int .i64 0, .slice none 0 0, .slice none 0 0, .bool false, .bool false, .bool false, .int .i64 0, .int .i64 0, .int .i64 0, .int .i64 0, .int .i64 0, .int .i64 0, .int .i64 0, .int .i64 0, .int .i64 0, .slice none 0 0, .slice none 0 0, .bool false, .bool false, .bool false, .int .i64 0, .int .i64 0, .slice none 0 0, .slice none 0 0, .slice none 0 0, .slice none 0 0, .int .i64 0, .int .i64 0, .int .i64 0, .int .i64 0, .int .i64 0] := by rw [← hvw3_27]; exact Blk.mk_ _ _ _ _ hggP
        have HNgP : Hid (w3.heap.size ≤ gP) := Lib.hid (by have := HBR2.out.size; rw [← hggP]; exact this)
        rw [hvw3_27, hggP]
        have HBR28 := Lib.hid (below_call HBR2.out hbw3_27 HBR2.out.size)
        have FS_28 := Lib.hid (FS_2.out.below hbw3_27)
        have PB_28 := Lib.hid (hkw3_27)
        clear hbw3_27
        clear hkw3_27 hvw3_27 hggP
        refine hK _ _ ⟨⟨_, HBR28.out⟩, rfl⟩ ?_
        clear hK K
        simp only [opsAt, List.getElem?_toArray, List.getElem?_cons_succ, List.getElem?_cons_zero]
        refine wpQuiet_nil ?_
        refine eff_as (C' := (fun w' => ∃ s : Later w3.heap.size w3, w' = s.W)) rfl ?_
        (refine eff_lit rfl rfl (fun K hK => ?_))
        go_big_op
        refine (HIQ.out w3_27 HBR28.out).mono ?_
        rintro e w3_29 ⟨⟨A2, c2⟩, QT1, rfl, hx, hbw3_29⟩
        have HBR30 := Lib.hid (below_call HBR28.out hbw3_29 HBR28.out.size)
        have FS_30 := Lib.hid (FS_28.out.below hbw3_29)
        have PB_30 := Lib.hid (PB_28.out.call hbw3_29)
        have FQ_30 := Lib.hid ((hx.more (Nat.le_trans HB3.out.size HBR28.out.size) : IsO _ w.heap.size ⟨A2, c2⟩ b.que QT1))
        clear hbw3_29
        clear hx
        refine hK _ _ ⟨⟨_, HBR30.out⟩, rfl⟩ ?_
        clear hK K
        simp only [opsAt, List.getElem?_toArray, List.getElem?_cons_succ, List.getElem?_cons_zero]
        refine wpQuiet_nil ?_
        refine eff_as (C' := (fun w' => ∃ s : Later w3.heap.size w3, w' = s.W)) rfl ?_
        (refine eff_lit rfl rfl (fun K hK => ?_))
        go_big_op
        refine (HIA.out w3_29 HBR30.out).mono ?_
        rintro e w3_31 ⟨A3, c3, rfl, hx, hbw3_31⟩
        have HBR32 := Lib.hid (below_call HBR30.out hbw3_31 HBR30.out.size)
        have FS_32 := Lib.hid (FS_30.out.below hbw3_31)
        have PB_32 := Lib.hid (PB_30.out.call hbw3_31)
        have FQ_32 := Lib.hid (FQ_30.out.below hbw3_31)
        have FA_32 := Lib.hid (hx.more (Nat.le_trans HB3.out.size HBR30.out.size))
        clear hbw3_31
        clear hx
        refine hK _ _ ⟨⟨_, HBR32.out⟩, rfl⟩ ?_
        clear hK K
        simp only [opsAt, List.getElem?_toArray, List.getElem?_cons_succ, List.getElem?_cons_zero]
        refine wpQuiet_nil ?_
        refine eff_as (C' := (fun w' => ∃ s : Later w3.heap.size w3, w' = s.W)) rfl ?_
        (refine eff_lit rfl rfl (fun K hK => ?_))
        go_big_op
        refine (HIK.out w3_31 HBR32.out).mono ?_
        rintro e w3_33 ⟨A4, c4, rfl, hx, hbw3_33⟩
        have HBR34 := Lib.hid (below_call HBR32.out hbw3_33 HBR32.out.size)
        have FS_34 := Lib.hid (FS_32.out.below hbw3_33)
        have PB_34 := Lib.hid (PB_32.out.call hbw3_33)
        have FQ_34 := Lib.hid (FQ_32.out.below hbw3_33)
        have FA_34 := Lib.hid (FA_32.out.below hbw3_33)
        have FK_34 := Lib.hid (hx.more (Nat.le_trans HB3.out.size HBR32.out.size))
        clear hbw3_33
        clear hx
        refine hK _ _ ⟨⟨_, HBR34.out⟩, rfl⟩ ?_
        clear hK K
        simp only [opsAt, List.getElem?_toArray, List.getElem?_cons_succ, List.getElem?_cons_zero]
        repeat (go_big_quiet_step (fail))
        refine wpQuiet_nil ?_
        refine eff_as (C' := (fun w' => ∃ s : Later w3.heap.size w3, w' = s.W)) rfl ?_
        (refine eff_lit rfl rfl (fun K hK => ?_))
        obtain ⟨w3_35, hrun, hk, hg⟩ := PB_34.out.storeAll (ty := 59) (zvs ++ zvs ++ [Value.slice A1 ns c1, .slice A2 nq c2, .slice A3 na c3, .slice A4 nk c4, .int .i64 turn, .int .i64 actv, .int .i64 phs, .int .i64 hold, .int .i64 pas]) rfl (by rw [size_public]; rfl) (by simp [zvs, Value.oneCell'])
        refine wp_store_by hrun rfl rfl rfl ?_
        simp only [Act.put, List.setIfInBounds_toArray, List.set_cons_succ, List.set_cons_zero]
        clear hrun
        have HBR36 := Lib.hid (HBR34.out.grown hg HBR34.out.size (fun q hq => by injection hq with hq; have := HNgP.out; omega))
        have FS_36 := Lib.hid (FS_34.out.blk PB_34.out hg (by decide) (by decide))
        have FQ_36 := Lib.hid (FQ_34.out.blk PB_34.out hg (by decide) (by decide))
        have FA_36 := Lib.hid (FA_34.out.blk_ PB_34.out hg (by decide))
        have FK_36 := Lib.hid (FK_34.out.blk_ PB_34.out hg (by decide))
        have PB_36 := Lib.hid hk
        clear hk hg
        refine hK _ _ ⟨⟨_, HBR36.out⟩, rfl⟩ ?_
        clear hK K
        simp only [opsAt, List.getElem?_toArray, List.getElem?_cons_succ, List.getElem?_cons_zero]
        refine wpQuiet_nil ?_
        refine effs_done ?_
        go_wp2_with fail
        go_meet
        refine ⟨gP, rfl, ⟨A1, c1⟩, ⟨A2, c2⟩, ⟨A3, c3⟩, ⟨A4, c4⟩, ST1, QT1, Lib.hid ⟨PB_36.out, rfl, rfl, fun h => absurd h (by omega), fun h => absurd h (by omega), FS_36.out, FQ_36.out, ?_, ?_, HBX3.out.call HBR36.out, HRS3.out.call HBR36.out, ?_, below_call HB3.out HBR36.out HB3.out.size⟩⟩
        · rw [HNS.out.2.2.1]; exact FA_36.out
        · rw [HNS.out.2.2.2]; exact FK_36.out
        · have h1 := HRS3.out.lt; have h2 := HNgP.out; omega
    · refine eff_as (C' := (fun w' => ∃ s : Later w3.heap.size w3, w' = s.W)) rfl ?_
      (refine eff_lit rfl rfl (fun K hK => ?_))
      go_big_op
      obtain ⟨w3_37, hvw3_37⟩ : ∃ v, (w3_d.alloc (.cells #[.int .i64 0, .int .i64 0, .int .i64 0, .int .i64 0, .int .i64 0, .int .i64 0, .int .i64 0, .slice none 0 0, .slice none 0 0, .bool false, .bool false, .bool false, .int .i64 0, .int .i64 0, .int .i64 0, .int .i64 0, .int .i64 0, .int .i64 0, .int .i64 0, .int .i64 0, .int .i64 0, .slice none 0 0, .slice none 0 0, .bool false, .bool false, .bool false, .int .i64 0, .int .i64 0, .slice none 0 0, .slice none 0 0, .slice none 0 0, .slice none 0 0, .int .i64 0, .int .i64 0, .int .i64 0, .int .i64 0, .int .i64 0] 59)) = v := ⟨_, rfl⟩
      have hbw3_37 : Below w3_d.heap.size w3_d w3_37 := by rw [← hvw3_37]; exact (Below.refl _ _).alloc (Nat.le_refl _) _
      obtain ⟨gP, hggP⟩ : ∃ v, w3_d.heap.size = v := ⟨_, rfl⟩
      have hkw3_37 : Blk w3_37 gP 59 #[.int .i64 0, .int .i64 0, .int .i64 0, .int .i64 0, .int .i64 0, .int .i64 0, .int .i64 0, .slice none 0 0, .slice none 0 0, .bool false, .bool false, .bool false, .int .i64 0, .int .i64 0, .int .i64 0, .int .i64 0, .int .i64 0, .int .i64 0, .int .i64 0, .int .i64 0, .int .i64 0, .slice none 0 0, .slice none 0 0, .bool false, .bool false, .bool false, .int .i64 0, .int .i64 0, .slice none 0 0, .slice none 0 0, .slice none 0 0, .slice none 0 0, .int .i64 0, .int .i64 0, .int .i64 0, .int .i64 0, .int .i64 0] := by rw [← hvw3_37]; exact Blk.mk_ _ _ _ _ hggP
      have HNgP : Hid (w3.heap.size ≤ gP) := Lib.hid (by have := HBR0.out.size; rw [← hggP]; exact this)
      rw [hvw3_37, hggP]
      have HBR38 := Lib.hid (below_call HBR0.out hbw3_37 HBR0.out.size)
      have PB_38 := Lib.hid (hkw3_37)
      clear hbw3_37
      clear hkw3_37 hvw3_37 hggP
      refine hK _ _ ⟨⟨_, HBR38.out⟩, rfl⟩ ?_
      clear hK K
      simp only [opsAt, List.getElem?_toArray, List.getElem?_cons_succ, List.getElem?_cons_zero]
      refine wpQuiet_nil ?_
      refine eff_as (C' := (fun w' => ∃ s : Later w3.heap.size w3, w' = s.W)) rfl ?_
      (refine eff_lit rfl rfl (fun K hK => ?_))
      go_big_op
      refine (HIS.out w3_37 HBR38.out).mono ?_
      rintro e w3_39 ⟨⟨A1, c1⟩, ST1, rfl, hx, hbw3_39⟩
      have HBR40 := Lib.hid (below_call HBR38.out hbw3_39 HBR38.out.size)
      have PB_40 := Lib.hid (PB_38.out.call hbw3_39)
      have FS_40 := Lib.hid ((hx.more (Nat.le_trans HB3.out.size HBR38.out.size) : IsO _ w.heap.size ⟨A1, c1⟩ b.stk ST1))
      clear hbw3_39
      clear hx
      refine hK _ _ ⟨⟨_, HBR40.out⟩, rfl⟩ ?_
      clear hK K
      simp only [opsAt, List.getElem?_toArray, List.getElem?_cons_succ, List.getElem?_cons_zero]
      refine wpQuiet_nil ?_
      refine eff_as (C' := (fun w' => ∃ s : Later w3.heap.size w3, w' = s.W)) rfl ?_
      (refine eff_lit rfl rfl (fun K hK => ?_))
      go_big_op
      refine (HIQ.out w3_39 HBR40.out).mono ?_
      rintro e w3_41 ⟨⟨A2, c2⟩, QT1, rfl, hx, hbw3_41⟩
      have HBR42 := Lib.hid (below_call HBR40.out hbw3_41 HBR40.out.size)
      have PB_42 := Lib.hid (PB_40.out.call hbw3_41)
      have FS_42 := Lib.hid (FS_40.out.below hbw3_41)
      have FQ_42 := Lib.hid ((hx.more (Nat.le_trans HB3.out.size HBR40.out.size) : IsO _ w.heap.size ⟨A2, c2⟩ b.que QT1))
      clear hbw3_41
      clear hx
      refine hK _ _ ⟨⟨_, HBR42.out⟩, rfl⟩ ?_
      clear hK K
      simp only [opsAt, List.getElem?_toArray, List.getElem?_cons_succ, List.getElem?_cons_zero]
      refine wpQuiet_nil ?_
      refine eff_as (C' := (fun w' => ∃ s : Later w3.heap.size w3, w' = s.W)) rfl ?_
      (refine eff_lit rfl rfl (fun K hK => ?_))
      go_big_op
      refine (HIA.out w3_41 HBR42.out).mono ?_
      rintro e w3_43 ⟨A3, c3, rfl, hx, hbw3_43⟩
      have HBR44 := Lib.hid (below_call HBR42.out hbw3_43 HBR42.out.size)
      have PB_44 := Lib.hid (PB_42.out.call hbw3_43)
      have FS_44 := Lib.hid (FS_42.out.below hbw3_43)
      have FQ_44 := Lib.hid (FQ_42.out.below hbw3_43)
      have FA_44 := Lib.hid (hx.more (Nat.le_trans HB3.out.size HBR42.out.size))
      clear hbw3_43
      clear hx
      refine hK _ _ ⟨⟨_, HBR44.out⟩, rfl⟩ ?_
      clear hK K
      simp only [opsAt, List.getElem?_toArray, List.getElem?_cons_succ, List.getElem?_cons_zero]
      refine wpQuiet_nil ?_
      refine eff_as (C' := (fun w' => ∃ s : Later w3.heap.size w3, w' = s.W)) rfl ?_
      (refine eff_lit rfl rfl (fun K hK => ?_))
      go_big_op
      refine (HIK.out w3_43 HBR44.out).mono ?_
      rintro e w3_45 ⟨A4, c4, rfl, hx, hbw3_45⟩
      have HBR46 := Lib.hid (below_call HBR44.out hbw3_45 HBR44.out.size)
      have PB_46 := Lib.hid (PB_44.out.call hbw3_45)
      have FS_46 := Lib.hid (FS_44.out.below hbw3_45)
      have FQ_46 := Lib.hid (FQ_44.out.below hbw3_45)
      have FA_46 := Lib.hid (FA_44.out.below hbw3_45)
      have FK_46 := Lib.hid (hx.more (Nat.le_trans HB3.out.size HBR44.out.size))
      clear hbw3_45
      clear hx
      refine hK _ _ ⟨⟨_, HBR46.out⟩, rfl⟩ ?_
      clear hK K
      simp only [opsAt, List.getElem?_toArray, List.getElem?_cons_succ, List.getElem?_cons_zero]
      repeat (go_big_quiet_step (fail))
      refine wpQuiet_nil ?_
      refine eff_as (C' := (fun w' => ∃ s : Later w3.heap.size w3, w' = s.W)) rfl ?_
      (refine eff_lit rfl rfl (fun K hK => ?_))
      obtain ⟨w3_47, hrun, hk, hg⟩ := PB_46.out.storeAll (ty := 59) (zvs ++ zvs ++ [Value.slice A1 ns c1, .slice A2 nq c2, .slice A3 na c3, .slice A4 nk c4, .int .i64 turn, .int .i64 actv, .int .i64 phs, .int .i64 hold, .int .i64 pas]) rfl (by rw [size_public]; rfl) (by simp [zvs, Value.oneCell'])
      refine wp_store_by hrun rfl rfl rfl ?_
      simp only [Act.put, List.setIfInBounds_toArray, List.set_cons_succ, List.set_cons_zero]
      clear hrun
      have HBR48 := Lib.hid (HBR46.out.grown hg HBR46.out.size (fun q hq => by injection hq with hq; have := HNgP.out; omega))
      have FS_48 := Lib.hid (FS_46.out.blk PB_46.out hg (by decide) (by decide))
      have FQ_48 := Lib.hid (FQ_46.out.blk PB_46.out hg (by decide) (by decide))
      have FA_48 := Lib.hid (FA_46.out.blk_ PB_46.out hg (by decide))
      have FK_48 := Lib.hid (FK_46.out.blk_ PB_46.out hg (by decide))
      have PB_48 := Lib.hid hk
      clear hk hg
      refine hK _ _ ⟨⟨_, HBR48.out⟩, rfl⟩ ?_
      clear hK K
      simp only [opsAt, List.getElem?_toArray, List.getElem?_cons_succ, List.getElem?_cons_zero]
      refine wpQuiet_nil ?_
      refine effs_done ?_
      go_wp2_with fail
      go_meet
      refine ⟨gP, rfl, ⟨A1, c1⟩, ⟨A2, c2⟩, ⟨A3, c3⟩, ⟨A4, c4⟩, ST1, QT1, Lib.hid ⟨PB_48.out, rfl, rfl, fun h => absurd h (by omega), fun h => absurd h (by omega), FS_48.out, FQ_48.out, ?_, ?_, HBX3.out.call HBR48.out, HRS3.out.call HBR48.out, ?_, below_call HB3.out HBR48.out HB3.out.size⟩⟩
      · rw [HNS.out.2.2.1]; exact FA_48.out
      · rw [HNS.out.2.2.2]; exact FK_48.out
      · have h1 := HRS3.out.lt; have h2 := HNgP.out; omega
  case rest =>
    clear HIS HIQ HIA HIK x29 x30 x31 x32 x33 x34 x35 x36 x37 HVC HL2 E29 E30 E31 E32 E33 E34 E35 E36 E37 HB2 HBX2 HRS2
    obtain ⟨gP, rfl, sS, sQ, sA, sK, ST, QT, HOF⟩ := hcut
    obtain ⟨tl, htl⟩ : ∃ tl : List Value, [Value.slice sS.A ns sS.c, .slice sQ.A nq sQ.c, .slice sA.A na sA.c, .slice sK.A nk sK.c, .int .i64 turn, .int .i64 actv, .int .i64 phs, .int .i64 hold, .int .i64 pas] = tl := ⟨_, rfl⟩
    have HT9 : Hid (tl.length = 9) := Lib.hid (by rw [← htl]; rfl)
    rw [htl] at HOF
    have HTL := Lib.hid htl
    obtain ⟨SV, hSV⟩ : ∃ v, (b.s0.cells m.m0 ++ b.s1.cells m.m1).toArray = v := ⟨_, rfl⟩
    have HL28 : Hid ((Instr.loadAt 28 (.pointer (some ⟨w.heap.size, 1, none⟩))).run Try.prog wc = .ok (.agg SV) wc) := Lib.hid (by
      rw [← hSV]
      refine HOF.out.box.mid _ _ (fun j v hj => ?_) Try.underlying28 rfl size_seats
      rw [← HCS.out]
      show ((_ :: (b.s0.cells m.m0 ++ b.s1.cells m.m1 ++ _) : List Value).toArray)[1 + j]? = _
      rw [List.getElem?_toArray, Nat.add_comm, List.getElem?_cons_succ, List.getElem?_append_left ((List.getElem?_eq_some_iff.1 hj).1)]
      exact hj)
    have HIX : Hid (∀ k : Nat, k < 2 → ∀ W, (Instr.index 28 (.agg SV) (.int .i64 k)).run Try.prog W = .ok (.agg ((seN b k).cells (smN m k)).toArray) W) := Lib.hid (fun k hk W => by
      rw [← hSV]
      refine Eq.trans (seats_idx b.s0 b.s1 m.m0 m.m1 hk W) ?_
      unfold seN smN
      split <;> rfl)
    clear htl hSV
    go_wp2_with (first | (refine wpList_load_by HL28.out rfl rfl rfl ?_; simp only [Act.put, List.setIfInBounds_toArray, List.set_cons_succ, List.set_cons_zero]) | fail)
    clear HL28
    go_loopw [36] (fun i W => ∃ (k : Nat) (c0 c1 : List Value), k ≤ 2 ∧ i = .int .i64 k ∧ Hid (OfS w b cs gP sS sQ sA sK ST QT tl k c0 c1 W)) (fun i _ => 2 - (intOf i).toNat)
    case atStart => exact ⟨0, zvs, zvs, by omega, rfl, HOF⟩
    case round =>
      obtain ⟨k, c0, c1, hk, rfl, HF⟩ := hrel
      by_cases hk2 : k < 2
      · have hk2' : (k : Int) < 2 := by omega
        have HKK := Lib.hid hk2
        have hix := HIX.out k hk2
        obtain ⟨SC, hSC⟩ : ∃ v, ((seN b k).cells (smN m k)).toArray = v := ⟨_, rfl⟩
        rw [hSC] at hix
        obtain ⟨gS, hgS⟩ : ∃ g, wr.heap.size = g := ⟨_, rfl⟩
        have hZ := Blk.mk_ wr 27 #[.int .i64 0, .int .i64 0, .int .i64 0, .int .i64 0, .int .i64 0, .slice none 0 0, .slice none 0 0, .slice none 0 0, .slice none 0 0, .bool false, .bool false, .bool false, .int .i64 0, .int .i64 0] gS hgS
        obtain ⟨W6, hst, hB6, hg6⟩ := hZ.storeAll (ty := 27) ((seN b k).cells (smN m k)) rfl (by rw [size_seat]; rfl) (one_se _ _)
        have hb6 : Below wr.heap.size wr W6 := ((Below.refl _ _).alloc (Nat.le_refl _) _).grown hg6 (by simp) (fun q hq => by injection hq with hq; omega)
        have HF6 := Lib.hid (HF.out.below hb6)
        have HNE : Hid (gS ≠ gP) := Lib.hid (by have := HF.out.P.lt; omega)
        rw [hSC] at hst hB6
        have HST := Lib.hid hst
        have HS6 : Hid (Blk W6 gS 27 ((seN b k).cells (smN m k)).toArray) := Lib.hid (by rw [hSC]; exact hB6)
        clear hst hB6 hg6 hb6 hZ HF hSC
        go_wp2_with (first | (refine wpList_store_by HST.out rfl rfl rfl rfl ?_; simp only [Act.put, List.setIfInBounds_toArray, List.set_cons_succ, List.set_cons_zero]) | fail)
        refine of_seat w W6 b m cs gP gS k sS sQ sA sK ST QT tl c0 c1 HKK.out HT9.out HCS.out HR.out HV.out.2.2.2.2.2.1 HSM.out HF6.out HNE.out HS6.out _ _ _ _ _ _ _ _ _ _ _ _ _ _ _ _ _ _ _ _ _ _ _ _ _ _ _ _ _ _ _ _ _ _ _ _ _ _ _ _ _ _ _ _ _ _ _ _ _ _ _ _ _ _ _ _ _ _ _ _ _ _ _ _ _ _ _ _ _ _ _ ?_ ?_
        · exact fun d _ _ _ _ h => by cases d <;> exact h
        intro v40 v41 v42 v43 v44 v45 v46 v47 v48 v49 v50 v51 v52 v53 v54 v55 v56 v57 v58 v59 v60 v61 v62 v63 v64 v65 v66 v67 v68 v69 v70 v71 c0' c1' W9 hof9
        have HF9 := Lib.hid hof9
        clear hof9 hgS
        go_wp2_with fail
        go_roundw
        case rel => exact ⟨k + 1, c0', c1', by omega, by go_num, HF9⟩
        case measure => simp [intOf]; omega
      · have hk2' : decide ((k : Int) < 2) = false := by simp; omega
        obtain ⟨m0, e0, hv0⟩ := HF.out.v0 (by omega)
        obtain ⟨m1, e1, hv1⟩ := HF.out.v1 (by omega)
        have hPC : c0 ++ c1 ++ tl = (puOf b).cells ⟨m0, m1, sS, sQ, ST, QT, sA, sK⟩ := by
          rw [e0, e1, ← HTL.out, ← HNS.out.1, ← HNS.out.2.1, ← HNS.out.2.2.1, ← HNS.out.2.2.2, ← HTAIL.out.1, ← HTAIL.out.2.1, ← HTAIL.out.2.2.1, ← HTAIL.out.2.2.2.1, ← HTAIL.out.2.2.2.2]
          rfl
        obtain ⟨PC, hPCe⟩ : ∃ l, (puOf b).cells ⟨m0, m1, sS, sQ, ST, QT, sA, sK⟩ = l := ⟨_, rfl⟩
        have hPB := HF.out.P
        rw [hPC, hPCe] at hPB
        have hlen : PC.length = 37 := by rw [← hPCe]; rfl
        have hone : ∀ u ∈ PC, u.oneCell' = true := by rw [← hPCe]; exact one_pu _ _
        have HLP : Hid ((Instr.loadAt 59 (.pointer (some ⟨gP, 0, none⟩))).run Try.prog wr = .ok (.agg PC.toArray) wr) := Lib.hid (hPB.mid PC _ (fun j v hj => by rw [Nat.zero_add]; simpa using hj) Try.underlying59 rfl (by rw [size_public, hlen]))
        obtain ⟨W8, hst, hB8, hg8⟩ := HF.out.res.storeAll (ty := 59) PC (by rw [hlen]; rfl) (by rw [size_public, hlen]) hone
        have HST := Lib.hid hst
        have HB8 := Lib.hid hB8
        have HEND : Hid (PuO W8 w.heap.size (puOf b) ⟨m0, m1, sS, sQ, ST, QT, sA, sK⟩ ∧ Below w.heap.size w W8) := Lib.hid ⟨⟨hv0.blk HF.out.res hg8 (by unfold offT; decide), hv1.blk HF.out.res hg8 (by unfold offT; decide), HF.out.S.blk HF.out.res hg8 (by decide) (by decide), HF.out.Q.blk HF.out.res hg8 (by decide) (by decide), HF.out.A.blk_ HF.out.res hg8 (by decide), HF.out.K.blk_ HF.out.res hg8 (by decide)⟩, HF.out.bel.grown hg8 HF.out.bel.size (fun q hq => by injection hq with hq; omega)⟩
        have HPE := Lib.hid hPCe
        have HLEN := Lib.hid hlen
        clear e0 hv0 e1 hv1 hPC hPCe hPB hlen hone hst hB8 hg8 HF hk
        go_wp2_with (first | (refine wpList_load_by HLP.out rfl rfl rfl ?_; simp only [Act.put, List.setIfInBounds_toArray, List.set_cons_succ, List.set_cons_zero]) | (refine wpList_store_by HST.out rfl rfl rfl rfl ?_; simp only [Act.put, List.setIfInBounds_toArray, List.set_cons_succ, List.set_cons_zero]) | fail)
        refine bodyPost_ret (v := .tuple #[.agg PC.toArray, .int .i64 0]) ((ret_cell2 (fn := Try.f38) (p := 2) (q := 3) rfl rfl HB8.out Try.underlying59 rfl (by rw [size_public]; simp [HLEN.out])).trans rfl) rfl ?_
        exact ⟨_, by rw [HPE.out], HEND.out.1, HEND.out.2⟩
end Go.Proofs.Ytagpphelgghbpaa
