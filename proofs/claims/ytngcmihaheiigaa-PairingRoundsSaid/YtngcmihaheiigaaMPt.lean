/-
  The model's points.
-/
import Derived.Test.YtngcmihaheiigaaCan
set_option linter.unusedSimpArgs false
set_option linter.unusedVariables false
namespace Go.Proofs.Ytngcmihaheiigaa
open Go.RowKit

set_option maxRecDepth 100000 in
set_option maxHeartbeats 1600000 in
theorem mpoints_any (B p : Nat) (st : TS) (x : MC) (w : World) (h : Mn w B p st x) : Calls Try.prog 29 #[.pointer (some ⟨p, 0, none⟩)] w fun e w' => ∃ g, e = .returned (.slice (some ⟨g, 0, none⟩) st.n st.n) ∧ XOwns w' w.heap.size 3 1 (some ⟨g, 0, none⟩) st.n st.n (ics (ptsS st.n st.rounds st.scores)) ∧ Below w.heap.size w w' := by
  obtain ⟨RA, rc, rs, SA, sq, sts⟩ := x
  have HT : Hid (∀ W, Below w.heap.size w W → Mn W B p st ⟨RA, rc, rs, SA, sq, sts⟩) := Lib.hid fun W hb => h.below hb
  have HT0 := Lib.hid h
  have x0 : w.cell? ⟨p, 0, none⟩ = some (.int .i64 st.n) := (h.blk.at_ 0).trans rfl
  have hn := h.ok.n0
  have hcnt := h.ok.cnt
  have HRL : Hid (rs.length = st.rounds.length) := Lib.hid h.rs_len
  have HSL : Hid (sts.length = st.rounds.length) := Lib.hid h.ss_len
  have HOK := Lib.hid h.ok
  have hplt := h.blk.lt
  clear h
  obtain ⟨hn1, hn2⟩ := hn
  go_enter Try.func29, Try.ntmps29
  go_wp2_with (first
    | (at_make; refine make_x _ rfl (.tmp 11) (.tmp 11) 37 rfl w.heap.size 3 (.int .i64 0) 8 Try.info3 Try.underlying37 rfl .i64 .i64 _ _ st.n rfl rfl rfl rfl ?_ ?_ ?_ ?_; omega; omega; exact Nat.le_refl _; intro w1 ho1 hb1)
    | fail)
  have HO1 : Hid (XOwns w1 w.heap.size 3 1 (some ⟨w.heap.size, 0, none⟩) st.n st.n (ics (ptsK st.n st.rounds st.scores 0))) := Lib.hid (by
    rw [show ics (ptsK st.n st.rounds st.scores 0) = List.replicate st.n (.int .i64 0) by simp [ptsK, ics]]
    exact ho1)
  have HP1 : Hid (PtB st.n (80 * (0 : Nat)) (ptsK st.n st.rounds st.scores 0)) := Lib.hid (PtB.zero st.n)
  clear ho1 x0
  go_loopw [4] (fun i W => ∃ k : Nat, k ≤ st.rounds.length ∧ i = .int .i64 k ∧ XOwns W w.heap.size 3 1 (some ⟨w.heap.size, 0, none⟩) st.n st.n (ics (ptsK st.n st.rounds st.scores k)) ∧ Hid (PtB st.n (80 * k) (ptsK st.n st.rounds st.scores k)) ∧ Below w.heap.size w W) (fun i _ => st.rounds.length - (intOf i).toNat)
  case atStart => exact ⟨0, Nat.zero_le _, rfl, HO1.out, HP1, hb1⟩
  case round =>
    obtain ⟨k, hk, rfl, hO, HP, hB⟩ := hrel
    generalize wr = wz at *
    have HO := Lib.hid hO
    have hz := hB.size
    have z1 : wz.cell? ⟨p, 1, none⟩ = some (.slice RA st.rounds.length rc) := ((HT.out _ hB).blk.at_ 1).trans rfl
    clear hO
    by_cases hlt : k < st.rounds.length
    · have hlt' : (k : Int) < st.rounds.length := by omega
      obtain ⟨l, hl⟩ : ∃ l, st.rounds[k]? = some l := ⟨_, List.getElem?_eq_getElem hlt⟩
      obtain ⟨ss, hss⟩ : ∃ ss, st.scores[k]? = some ss := ⟨_, List.getElem?_eq_getElem (by rw [HOK.out.len]; exact hlt)⟩
      obtain ⟨s, hs⟩ : ∃ s, rs[k]? = some s := ⟨_, List.getElem?_eq_getElem (by rw [HRL.out]; exact hlt)⟩
      obtain ⟨t, ht⟩ : ∃ s, sts[k]? = some s := ⟨_, List.getElem?_eq_getElem (by rw [HSL.out]; exact hlt)⟩
      obtain ⟨g, hg, _, hglt, hc, _⟩ := (HT.out _ hB).rds.cell (j := k) (u := s.v) (by simp [svs, hs])
      obtain ⟨g2, hg2, _, hg2lt, hc2, _⟩ := (HT.out _ hB).scs.cell (j := k) (u := t.v) (by simp [svs, ht])
      have HI : Hid (∀ W, Below w.heap.size w W → XOwns W B 33 2 s.A s.n s.c (dcells l)) := Lib.hid fun W hb => (HT.out _ hb).ird k s l hs hl
      have HJ : Hid (∀ W, Below w.heap.size w W → XOwns W B 34 1 t.A t.n t.c (ics ss)) := Lib.hid fun W hb => (HT.out _ hb).isc k t ss ht hss
      have hsn : s.n = l.length := by have := (HI.out _ hB).len; rw [dcells_len] at this; omega
      have hro := HOK.out.rnd l (List.mem_of_getElem? hl)
      have hrl := round_len hro
      obtain ⟨hsl, hsb⟩ := HOK.out.sco k l ss hl hss
      have htn : t.n = l.length := by have := ilen (HJ.out _ hB).reads; omega
      have HLL := Lib.hid hl
      have HSS := Lib.hid hss
      have HRO := Lib.hid hro
      have HSB := Lib.hid hsb
      have HSLN := Lib.hid hsl
      have HTT := Lib.hid ht
      have HSS0 := Lib.hid hs
      have HPK := Lib.hid (ptsK_succ (n := st.n) hl hss)
      obtain ⟨sA, sn, sc⟩ := s
      obtain ⟨tA, tn, tc⟩ := t
      simp only [Sl.v] at hc hc2 hsn htn HI HJ HTT HSS0
      subst hsn htn
      dsimp only at hg hg2
      subst hg hg2
      clear hl hss hs ht hro hsb hsl
      go_wp2
      go_loopw [5] (fun i W => ∃ j : Nat, j ≤ l.length ∧ i = .int .i64 j ∧ XOwns W w.heap.size 3 1 (some ⟨w.heap.size, 0, none⟩) st.n st.n (ics (ptRj (ptsK st.n st.rounds st.scores k) l ss j)) ∧ Hid (PtB st.n (80 * k + 4 * j) (ptRj (ptsK st.n st.rounds st.scores k) l ss j)) ∧ Below w.heap.size w W) (fun i _ => l.length - (intOf i).toNat)
      case atStart => exact ⟨0, Nat.zero_le _, rfl, HO.out, Lib.hid (by have := HP.out; simpa [ptRj] using this), hB⟩
      case round =>
        obtain ⟨j, hj, rfl, hO2, HP2, hB2⟩ := hrel
        generalize hacc : ptRj (ptsK st.n st.rounds st.scores k) l ss j = acc at *
        have HACC := Lib.hid hacc
        have HO2 := Lib.hid hO2
        have hz2 := hB2.size
        have hac := HP2.out.1
        have y1 : wr.cell? ⟨p, 1, none⟩ = some (.slice (some ⟨g, 0, none⟩) st.rounds.length rc) := ((HT.out _ hB2).blk.at_ 1).trans rfl
        have yc : wr.cell? ⟨g, k, none⟩ = some (.slice sA l.length sc) := XOwns.cellAt (HT.out _ hB2).rds (j := k) (u := Sl.v ⟨sA, l.length, sc⟩) (by simp only [svs, List.getElem?_map]; rw [HSS0.out]; rfl)
        clear hO2 HO hacc hc hc2 z1
        by_cases hlj : j < l.length
        · have hlj' : (j : Int) < l.length := by omega
          obtain ⟨ad, hsA, had, c0, c1⟩ := duel_at (HI.out _ hB2).reads hlj
          subst hsA
          obtain ⟨td, htA, _, htd, e0, _⟩ := (HJ.out _ hB2).cell (j := j) (u := .int .i64 (ith ss j)) (by rw [ics, List.getElem?_map, ith_get (by rw [HSLN.out]; exact hlj)]; rfl)
          subst htA
          have HDG := Lib.hid (dth_get hlj)
          have HSG := Lib.hid (ith_get (show j < ss.length by rw [HSLN.out]; exact hlj))
          have HSUC := Lib.hid (ptRj_succ (acc := ptsK st.n st.rounds st.scores k) HDG.out HSG.out)
          have hd := HRO.out.1 _ (List.mem_of_getElem? HDG.out)
          have hsb := HSB.out _ (List.mem_of_getElem? HSG.out)
          have x2 : wr.cell? ⟨p, 2, none⟩ = some (.slice (some ⟨g2, 0, none⟩) st.rounds.length sq) := ((HT.out _ hB2).blk.at_ 2).trans rfl
          have c2 : wr.cell? ⟨g2, k, none⟩ = some (.slice (some ⟨td, 0, none⟩) l.length tc) := XOwns.cellAt (HT.out _ hB2).scs (j := k) (u := Sl.v ⟨some ⟨td, 0, none⟩, l.length, tc⟩) (by simp only [svs, List.getElem?_map]; rw [HTT.out]; rfl)
          have hpw : p < wr.heap.size := by omega
          have hg2w : g2 < wr.heap.size := (HT.out _ hB2).scs.lt g2 rfl |>.2
          have hgw : g < wr.heap.size := (HT.out _ hB2).rds.lt g rfl |>.2
          have hgow : w.heap.size < wr.heap.size := HO2.out.lt w.heap.size rfl |>.2
          generalize hdd : dth l j = d at *
          generalize hse : ith ss j = s at *
          obtain ⟨da, db⟩ := d
          have hda := hd.1
          have hda2 := hd.2.1
          have hdb := hd.2.2
          simp only at hda hda2 hdb c0 c1
          obtain ⟨a, rfl⟩ : ∃ a : Nat, da = a := ⟨da.toNat, by omega⟩
          have han : a < st.n := by omega
          have han' : (a : Int) < st.n := by omega
          obtain ⟨o0, f0⟩ := HO2.out.icell han
          have hb0 := HP2.out.2 a han
          clear hdd hse hd
          have l1 : ∀ s : Later wr.heap.size wr, s.W.cell? ⟨p, 1, none⟩ = some (.slice (some ⟨g, 0, none⟩) st.rounds.length rc) := fun q => (q.h.cell (p := ⟨p, 1, none⟩) hpw).trans y1
          have lc : ∀ s : Later wr.heap.size wr, s.W.cell? ⟨g, k, none⟩ = some (.slice (some ad) l.length sc) := fun q => (q.h.cell (p := ⟨g, k, none⟩) hgw).trans yc
          have l2 : ∀ s : Later wr.heap.size wr, s.W.cell? ⟨p, 2, none⟩ = some (.slice (some ⟨g2, 0, none⟩) st.rounds.length sq) := fun q => (q.h.cell (p := ⟨p, 2, none⟩) hpw).trans x2
          have l3 : ∀ s : Later wr.heap.size wr, s.W.cell? ⟨g2, k, none⟩ = some (.slice (some ⟨td, 0, none⟩) l.length tc) := fun q => (q.h.cell (p := ⟨g2, k, none⟩) hg2w).trans c2
          have l4 : ∀ q : Later wr.heap.size wr, q.W.cell? ⟨td, j, none⟩ = some (.int .i64 s) := fun q => (q.h.cell (p := ⟨td, j, none⟩) htd).trans e0
          have l5 : ∀ s : Later wr.heap.size wr, s.W.cell? (ad.add (j * 2)) = some (.int .i64 a) := fun q => (q.h.cell (by rw [block_of_add]; exact had)).trans c0
          have l6 : ∀ s : Later wr.heap.size wr, s.W.cell? ⟨(ad.add (j * 2)).block, (ad.add (j * 2)).off + 1, none⟩ = some (.int .i64 db) := fun q => (q.h.cell (p := ⟨(ad.add (j * 2)).block, (ad.add (j * 2)).off + 1, none⟩) (by show (ad.add (j * 2)).block < _; rw [block_of_add]; exact had)).trans c1
          go_wp2
          refine wp_region_sched (fun w' => ∃ s : Later wr.heap.size wr, w' = s.W) [0,1,2,3,4,5,6,7,8,9,10,11,12,13,14,15,16,17,18,19] (.one 20 [] (.one 21 [22] .done)) (by kernel_rfl) (by kernel_rfl) (fun d _ _ _ _ h => by cases d <;> exact h) ⟨⟨_, (Below.refl _ _).drew⟩, rfl⟩ ?_
          refine quiet_as (C' := (fun w' => ∃ s : Later wr.heap.size wr, w' = s.W)) rfl ?_
          simp only [opsAt, List.getElem?_toArray, List.getElem?_cons_succ, List.getElem?_cons_zero]
          repeat (go_big_quiet_step (fail))
          refine wpQuiet_nil ?_
          refine eff_as (C' := (fun w' => ∃ s : Later wr.heap.size wr, w' = s.W)) rfl ?_
          (refine eff_lit rfl rfl (fun K hK => ?_))
          go_big_op
          refine hK _ _ ⟨⟨_, ((Below.refl _ _).alloc (Nat.le_refl _) (.cells #[.int .i64 0, .int .i64 0] 33)).drew⟩, rfl⟩ ?_
          clear hK K
          simp only [opsAt, List.getElem?_toArray, List.getElem?_cons_succ, List.getElem?_cons_zero]
          refine wpQuiet_nil ?_
          refine eff_as (C' := (fun w' => ∃ s : Later wr.heap.size wr, w' = s.W)) rfl ?_
          (refine eff_lit rfl rfl (fun K hK => ?_))
          go_big_op
          refine hK _ _ ⟨⟨_, ((Below.refl _ _).alloc (Nat.le_refl _) _).drew⟩, rfl⟩ ?_
          clear hK K l1 lc l2 l3 l4 l5 l6
          simp only [opsAt, List.getElem?_toArray, List.getElem?_cons_succ, List.getElem?_cons_zero]
          repeat (go_big_quiet_step (fail))
          refine wpQuiet_nil ?_
          refine effs_done ?_
          have hb33 : Below wr.heap.size wr (wr.alloc (.cells #[.int .i64 a, .int .i64 db] 33)).drew := ((Below.refl _ _).alloc (Nat.le_refl _) _).drew
          have HX0 : Blk (wr.alloc (.cells #[.int .i64 a, .int .i64 db] 33)).drew wr.heap.size 33 #[.int .i64 a, .int .i64 db] := (Blk.mk_ wr 33 _ _ rfl).drew
          have HY0 := HO2.out.below hb33
          have hBY := below_call hB2 hb33 hz2
          generalize hwy : (wr.alloc (.cells #[.int .i64 a, .int .i64 db] 33)).drew = wy at *
          have HX := Lib.hid HX0
          have HY := Lib.hid HY0
          have hzy := hb33.size
          have hgoy : w.heap.size < wy.heap.size := by omega
          obtain ⟨oy, fy⟩ := HY0.icell han
          have hgow2 : w.heap.size ≠ wr.heap.size := by omega
          clear HX0 HY0 hwy o0 f0 c0 c1 e0 y1 yc x2 c2 hb33
          by_cases hs1 : s = -1
          · have HQ : Hid (ptRj (ptsK st.n st.rounds st.scores k) l ss (j + 1) = acc) := Lib.hid (by rw [HSUC.out, HACC.out]; unfold ptD; rw [if_pos hs1])
            subst hs1
            go_wp2
            go_roundw
            case rel => exact ⟨j + 1, by omega, by go_num, by rw [HQ.out]; exact HY.out, Lib.hid (by rw [HQ.out]; exact HP2.out.more (by omega)), hBY⟩
            case measure => simp [intOf]; omega
          · have hs1' : (s == -1) = false := by rw [beq_eq_false_iff_ne]; exact hs1
            have hss : 0 ≤ s ∧ s ≤ 2 := by omega
            have hw1 : IntKind.i64.wrap (ith acc a + s) = ith acc a + s := IntWalk.i64_in _ (by omega)
            have HS1 := Lib.hid hs1
            clear hs1
            by_cases hbn : db = -1
            · have HQ : Hid (ptRj (ptsK st.n st.rounds st.scores k) l ss (j + 1) = acc.set a (ith acc a + s)) := Lib.hid (by rw [HSUC.out, HACC.out]; unfold ptD; rw [if_neg HS1.out, if_pos (by show db < 0; omega)]; rfl)
              subst hbn
              go_wp2
              have y0 : ∀ s : Later wy.heap.size wy, s.W.cell? ⟨wr.heap.size, 0, none⟩ = some (.int .i64 a) := fun s => ((HX.out.below s.h HX.out.lt).at_ 0).trans rfl
              have y1 : ∀ s : Later wy.heap.size wy, s.W.cell? ⟨wr.heap.size, 1, none⟩ = some (.int .i64 (-1)) := fun s => ((HX.out.below s.h HX.out.lt).at_ 1).trans rfl
              have y2 : ∀ s : Later wy.heap.size wy, s.W.cell? ⟨w.heap.size, a, none⟩ = some (.int .i64 (ith acc a)) := fun s => (s.h.cell (p := ⟨w.heap.size, a, none⟩) hgoy).trans oy
              refine wp_region_late (Ph (fun w' => ∃ s : Later wy.heap.size wy, w' = s.W) (fun _ => True)) [11] [0,1,2,3,4,5,6,7,8,9,10] (.one 11 [] .done) (by kernel_rfl) (by kernel_rfl) (fun d _ _ _ _ h => by cases d <;> exact h) ⟨⟨_, (Below.refl _ _).drew⟩, rfl⟩ ?_
              refine quiet_as (C' := (fun w' => ∃ s : Later wy.heap.size wy, w' = s.W)) rfl ?_
              simp only [opsAt, List.getElem?_toArray, List.getElem?_cons_succ, List.getElem?_cons_zero]
              repeat (go_big_quiet_step (fail))
              refine wpQuiet_nil ?_
              refine eff_as (C' := fun _ => True) rfl ?_
              (refine eff_lit rfl rfl (fun K hK => ?_))
              go_big_op
              refine hK _ _ trivial ?_
              clear hK K y0 y1 y2
              simp only [opsAt, List.getElem?_toArray, List.getElem?_cons_succ, List.getElem?_cons_zero]
              refine wpQuiet_nil ?_
              refine effs_done ?_
              have HV0 := (HY.out.store a (ith acc a + s)).below (Below.refl _ _).drew
              have hBV := (hBY.setCell (p := ⟨w.heap.size, a, none⟩) (Nat.le_refl _) (.int .i64 (ith acc a + s))).drew
              have HXV0 := (HX.out.far (p := ⟨w.heap.size, a, none⟩) (Ne.symm hgow2) (.int .i64 (ith acc a + s))).drew
              generalize hwv : (wy.setCell ⟨w.heap.size, a, none⟩ (.int .i64 (ith acc a + s))).drew = wv at *
              have hx1 : wv.cell? ⟨wr.heap.size, 1, none⟩ = some (.int .i64 (-1)) := (HXV0.at_ 1).trans rfl
              have HV := Lib.hid HV0
              clear oy fy HXV0 hwv HV0
              go_wp2
              go_roundw
              case rel => exact ⟨j + 1, by omega, by go_num, by rw [HQ.out]; exact HV.out, Lib.hid (by rw [HQ.out]; exact (HP2.out.more (by omega)).put han (by omega) (Int.le_refl _)), hBV⟩
              case measure => simp [intOf]; omega
            · obtain ⟨b, rfl⟩ : ∃ b : Nat, db = b := ⟨db.toNat, by omega⟩
              have hbn2 : b < st.n := by omega
              have hbn' : (b : Int) < st.n := by omega
              have hbp : (0 : Int) ≤ b := by omega
              have habn : a ≠ b := by omega
              have hbne : ((b : Int) == -1) = false := by rw [beq_eq_false_iff_ne]; exact hbn
              have HQ : Hid (ptRj (ptsK st.n st.rounds st.scores k) l ss (j + 1) = (acc.set a (ith acc a + s)).set b (ith acc b + (2 - s))) := Lib.hid (by rw [HSUC.out, HACC.out]; unfold ptD; rw [if_neg HS1.out, if_neg (by simp)]; rfl)
              clear hbn
              go_wp2
              have y0 : ∀ s : Later wy.heap.size wy, s.W.cell? ⟨wr.heap.size, 0, none⟩ = some (.int .i64 a) := fun s => ((HX.out.below s.h HX.out.lt).at_ 0).trans rfl
              have y1 : ∀ s : Later wy.heap.size wy, s.W.cell? ⟨wr.heap.size, 1, none⟩ = some (.int .i64 b) := fun s => ((HX.out.below s.h HX.out.lt).at_ 1).trans rfl
              have y2 : ∀ s : Later wy.heap.size wy, s.W.cell? ⟨w.heap.size, a, none⟩ = some (.int .i64 (ith acc a)) := fun s => (s.h.cell (p := ⟨w.heap.size, a, none⟩) hgoy).trans oy
              refine wp_region_late (Ph (fun w' => ∃ s : Later wy.heap.size wy, w' = s.W) (fun _ => True)) [11] [0,1,2,3,4,5,6,7,8,9,10] (.one 11 [] .done) (by kernel_rfl) (by kernel_rfl) (fun d _ _ _ _ h => by cases d <;> exact h) ⟨⟨_, (Below.refl _ _).drew⟩, rfl⟩ ?_
              refine quiet_as (C' := (fun w' => ∃ s : Later wy.heap.size wy, w' = s.W)) rfl ?_
              simp only [opsAt, List.getElem?_toArray, List.getElem?_cons_succ, List.getElem?_cons_zero]
              repeat (go_big_quiet_step (fail))
              refine wpQuiet_nil ?_
              refine eff_as (C' := fun _ => True) rfl ?_
              (refine eff_lit rfl rfl (fun K hK => ?_))
              go_big_op
              refine hK _ _ trivial ?_
              clear hK K y0 y1 y2
              simp only [opsAt, List.getElem?_toArray, List.getElem?_cons_succ, List.getElem?_cons_zero]
              refine wpQuiet_nil ?_
              refine effs_done ?_
              have HV0 := (HY.out.store a (ith acc a + s)).below (Below.refl _ _).drew
              have hBV := (hBY.setCell (p := ⟨w.heap.size, a, none⟩) (Nat.le_refl _) (.int .i64 (ith acc a + s))).drew
              have HXV0 := (HX.out.far (p := ⟨w.heap.size, a, none⟩) (Ne.symm hgow2) (.int .i64 (ith acc a + s))).drew
              have hsv : (wy.setCell ⟨w.heap.size, a, none⟩ (.int .i64 (ith acc a + s))).drew.heap.size = wy.heap.size := by simp [World.setCell, World.drew]
              generalize hwv : (wy.setCell ⟨w.heap.size, a, none⟩ (.int .i64 (ith acc a + s))).drew = wv at *
              have HXV := Lib.hid HXV0
              have HV := Lib.hid HV0
              have hgov : w.heap.size < wv.heap.size := by omega
              obtain ⟨ov0, fv⟩ := HV0.icell hbn2
              have ov : wv.cell? ⟨w.heap.size, b, none⟩ = some (.int .i64 (ith acc b)) := by rw [ov0, ith_set (by omega), if_neg (by omega)]
              have hb1 := HP2.out.2 b hbn2
              have hw2 : IntKind.i64.wrap (ith acc b + 2) = ith acc b + 2 := IntWalk.i64_in _ (by omega)
              have hw3 : IntKind.i64.wrap (ith acc b + 2 - s) = ith acc b + 2 - s := IntWalk.i64_in _ (by omega)
              have hx1 : wv.cell? ⟨wr.heap.size, 1, none⟩ = some (.int .i64 b) := (HXV0.at_ 1).trans rfl
              clear HXV0 HV0 hwv ov0 oy fy hsv
              go_wp2
              have y0 : ∀ s : Later wv.heap.size wv, s.W.cell? ⟨wr.heap.size, 0, none⟩ = some (.int .i64 a) := fun s => ((HXV.out.below s.h HXV.out.lt).at_ 0).trans rfl
              have y1 : ∀ s : Later wv.heap.size wv, s.W.cell? ⟨wr.heap.size, 1, none⟩ = some (.int .i64 b) := fun s => ((HXV.out.below s.h HXV.out.lt).at_ 1).trans rfl
              have y2 : ∀ s : Later wv.heap.size wv, s.W.cell? ⟨w.heap.size, b, none⟩ = some (.int .i64 (ith acc b)) := fun s => (s.h.cell (p := ⟨w.heap.size, b, none⟩) hgov).trans ov
              refine wp_region_late (Ph (fun w' => ∃ s : Later wv.heap.size wv, w' = s.W) (fun _ => True)) [12] [0,1,2,3,4,5,6,7,8,9,10,11] (.one 12 [] .done) (by kernel_rfl) (by kernel_rfl) (fun d _ _ _ _ h => by cases d <;> exact h) ⟨⟨_, (Below.refl _ _).drew⟩, rfl⟩ ?_
              refine quiet_as (C' := (fun w' => ∃ s : Later wv.heap.size wv, w' = s.W)) rfl ?_
              simp only [opsAt, List.getElem?_toArray, List.getElem?_cons_succ, List.getElem?_cons_zero]
              repeat (go_big_quiet_step (fail))
              refine wpQuiet_nil ?_
              refine eff_as (C' := fun _ => True) rfl ?_
              (refine eff_lit rfl rfl (fun K hK => ?_))
              go_big_op
              refine hK _ _ trivial ?_
              clear hK K y0 y1 y2
              simp only [opsAt, List.getElem?_toArray, List.getElem?_cons_succ, List.getElem?_cons_zero]
              refine wpQuiet_nil ?_
              refine effs_done ?_
              have HE0 := (HV.out.store b (ith acc b + 2 - s)).below (Below.refl _ _).drew
              have hBE := (hBV.setCell (p := ⟨w.heap.size, b, none⟩) (Nat.le_refl _) (.int .i64 (ith acc b + 2 - s))).drew
              have HEV : Hid (ith acc b + 2 - s = ith acc b + (2 - s)) := Lib.hid (by omega)
              go_wp2
              go_roundw
              case rel => exact ⟨j + 1, by omega, by go_num, by rw [HQ.out, ← HEV.out]; exact HE0, Lib.hid (by rw [HQ.out]; exact ((HP2.out.more (show (80 * (k : Int) + 4 * j) ≤ 80 * k + 4 * ((j + 1 : Nat) : Int) by omega)).put han (by omega) (Int.le_refl _)).put hbn2 (by omega) (Int.le_refl _)), hBE⟩
              case measure => simp [intOf]; omega
        · obtain rfl : j = l.length := by omega
          have HALL := Lib.hid (ptRj_all (acc := ptsK st.n st.rounds st.scores k) (l := l) (ss := ss) (Nat.le_refl _))
          go_wp2
          go_roundw
          case rel => exact ⟨k + 1, by omega, by go_num, by rw [HPK.out, ← HALL.out, HACC.out]; exact HO2.out, Lib.hid (by rw [HPK.out, ← HALL.out, HACC.out]; exact HP2.out.more (by omega)), hB2⟩
          case measure => simp [intOf]; omega
    · obtain rfl : k = st.rounds.length := by omega
      have HPA := Lib.hid (ptsK_all (n := st.n) (rs := st.rounds) (sss := st.scores) (Nat.le_refl _))
      go_wp2
      go_ret
      exact ⟨w.heap.size, rfl, by rw [← HPA.out]; exact HO.out, hB⟩
end Go.Proofs.Ytngcmihaheiigaa
