/-
  Copy.
-/
import Derived.Test.YtngcmihaheiigaaRep
set_option linter.unusedSimpArgs false
set_option linter.unusedVariables false
namespace Go.Proofs.Ytngcmihaheiigaa
open Go.RowKit

theorem svs_one (l : List Sl) : ∀ u ∈ svs l, u.oneCell' = true := by
  intro u hu
  obtain ⟨x, _, rfl⟩ := List.mem_map.1 hu
  rfl
theorem mcs_one (l : List Nat) : ∀ u ∈ mcs l, u.oneCell' = true := by
  intro u hu
  obtain ⟨x, _, rfl⟩ := List.mem_map.1 hu
  rfl
/-- What Copy hands back. -/
def CopyEnd (B p : Nat) (st : TS) (x : TC) (w : World) (e : Ending) (w' : World) : Prop :=
  ∃ g x', e = .returned (.pointer (some ⟨g, 0, none⟩)) ∧ Tn w' B g st x' ∧ Below w.heap.size w w' ∧ (∀ i, MutT g x' i → w.heap.size ≤ i) ∧ ∀ i, FootT g x' i → FootT p x i ∨ w.heap.size ≤ i

/-- Midway in Copy. -/
structure CpT (w : World) (g n : Nat) (A1 : Option Addr) (c1 : Nat) (ms : List Nat) (A2 : Option Addr) (rn c2 : Nat) (rs : List Sl) (op : Bool) (scores : List (List Int)) (SA : Option Addr) (j sc : Nat) (ss : List Sl) (W : World) : Prop where
  P : Blk W g 57 #[.slice A1 n c1, .slice A2 rn c2, .slice SA j sc, .bool op]
  gb : w.heap.size ≤ g
  M : XOwns W w.heap.size 67 1 A1 n c1 (mcs ms)
  Rr : XOwns W w.heap.size 29 1 A2 rn c2 (svs rs)
  S : XOwns W w.heap.size 66 1 SA j sc (svs ss)
  I : ∀ (k : Nat) (s : Sl) (l : List Int), ss[k]? = some s → scores[k]? = some l → XOwns W w.heap.size 34 1 s.A s.n s.c (ics l)
  sep : ∀ (j k : Nat) (s t : Sl), j < k → ss[j]? = some s → ss[k]? = some t → blkOf t.A = none ∨ blkOf s.A ≠ blkOf t.A
  Bl : Below w.heap.size w W
section
variable {w W W' : World} {g n c1 rn c2 j sc : Nat} {A1 A2 SA : Option Addr} {ms : List Nat} {rs ss : List Sl} {op : Bool} {scores : List (List Int)}
theorem CpT.below (h : CpT w g n A1 c1 ms A2 rn c2 rs op scores SA j sc ss W) (hb : Below W.heap.size W W') : CpT w g n A1 c1 ms A2 rn c2 rs op scores SA j sc ss W' :=
  ⟨h.P.call hb, h.gb, h.M.below hb, h.Rr.below hb, h.S.below hb, fun k s l h1 h2 => (h.I k s l h1 h2).below hb, h.sep, below_call h.Bl hb h.Bl.size⟩
theorem CpT.len (h : CpT w g n A1 c1 ms A2 rn c2 rs op scores SA j sc ss W) : ss.length = j := by have := h.S.len; simpa [svs] using this
/-- One list of scores more: the outer slice has grown, the cell is stored. -/
theorem CpT.more {gS' sc' tn tc : Nat} {tA : Option Addr} {l : List Int} (h : CpT w g n A1 c1 ms A2 rn c2 rs op scores SA j sc ss W) (hj : j < scores.length) (hl : scores[j]? = some l) (ht : XOwns W w.heap.size 34 1 tA tn tc (ics l)) (hfresh : ∀ (k : Nat) (s : Sl), ss[k]? = some s → blkOf tA = none ∨ blkOf s.A ≠ blkOf tA)
    (hg : W.grownBy W' (blkOf SA)) (hS : XOwns W' w.heap.size 66 1 (some ⟨gS', 0, none⟩) (j + 1) sc' (svs ss ++ [.slice tA tn tc])) :
    CpT w g n A1 c1 ms A2 rn c2 rs op scores (some ⟨gS', 0, none⟩) (j + 1) sc' (ss ++ [⟨tA, tn, tc⟩]) (W'.setCell ⟨g, 2, none⟩ (.slice (some ⟨gS', 0, none⟩) (j + 1) sc')) := by
  have hP := h.P.grown hg (Ne.symm (h.S.apart_blk h.P (by decide)))
  have hM := h.M.grown hg (h.M.apart h.S (by decide))
  have hR := h.Rr.grown hg (h.Rr.apart h.S (by decide))
  have hT := ht.grown hg (ht.apart h.S (by decide))
  have hb : Below w.heap.size w W' := h.Bl.trans (grown_below hg h.Bl.size (fun i hi => (h.S.lt i hi).1))
  refine ⟨hP.put 2 _, h.gb, hM.put (hM.apart_blk hP (by decide)), hR.put (hR.apart_blk hP (by decide)), ?_, fun k s l' g1 g2 => ?_, fun a b s t hab g1 g2 => ?_, hb.setCell (p := ⟨g, 2, none⟩) h.gb _⟩
  · have := hS.put (i := 2) (u := .slice (some ⟨gS', 0, none⟩) (j + 1) sc') (hS.apart_blk hP (by decide))
    rw [show svs (ss ++ [⟨tA, tn, tc⟩]) = svs ss ++ [.slice tA tn tc] by simp [svs, Sl.v]]
    exact this
  · rcases append_get g1 with h1 | ⟨hk, h1⟩
    · have hi := (h.I k s l' h1 g2).grown hg ((h.I k s l' h1 g2).apart h.S (by decide))
      exact hi.put (hi.apart_blk hP (by decide))
    · have hk' : k = j := by rw [hk, h.len]
      subst hk'
      rw [hl] at g2
      injection g2 with g2
      subst g2 h1
      exact hT.put (hT.apart_blk hP (by decide))
  · rcases append_get g2 with h2 | ⟨hk, h2⟩
    · rcases append_get g1 with h1 | ⟨hk1, _⟩
      · exact h.sep a b s t hab h1 h2
      · have := (List.getElem?_eq_some_iff.1 h2).1
        omega
    · subst h2
      rcases append_get g1 with h1 | ⟨hk1, _⟩
      · exact hfresh a s h1
      · omega
end

set_option maxRecDepth 100000 in
set_option maxHeartbeats 1600000 in
theorem copy_any (B p : Nat) (st : TS) (x : TC) (w : World) (h : Tn w B p st x) : Calls Try.prog 23 #[.pointer (some ⟨p, 0, none⟩)] w (CopyEnd B p st x w) := by
  obtain ⟨mA, mc, ms, RA, rc, rs, SA, sq, sts⟩ := x
  have HT := Lib.hid h
  have HTL : Hid (∀ W, Below w.heap.size w W → Tn W B p st ⟨mA, mc, ms, RA, rc, rs, SA, sq, sts⟩) := Lib.hid fun W hb => h.below hb
  have x0 : ∀ s : Later w.heap.size w, s.W.cell? ⟨p, 0, none⟩ = some (.slice mA st.n mc) := fun s => ((HTL.out _ s.h).blk.at_ 0).trans rfl
  have x1 : ∀ s : Later w.heap.size w, s.W.cell? ⟨p, 1, none⟩ = some (.slice RA st.rounds.length rc) := fun s => ((HTL.out _ s.h).blk.at_ 1).trans rfl
  have x3 : ∀ s : Later w.heap.size w, s.W.cell? ⟨p, 3, none⟩ = some (.bool st.open_) := fun s => ((HTL.out _ s.h).blk.at_ 3).trans rfl
  have hn := h.ok.n0
  have hcnt := h.ok.cnt
  have hp := h.blk.lt
  have hbase := h.base
  clear h
  go_enter Try.func23, Try.ntmps23
  go_wp2_with (go_at_call 25; refine (none_f B p st _ _ HT.out).mono ?_; rintro e w1 ⟨rfl, rfl⟩)
  refine wp_region_sched (fun w' => ∃ s : Later w.heap.size w, w' = s.W) [0,1,2,3,5,6,7,8,10,11,12,13] (.one 4 [] (.one 9 [14] (.one 15 [16] .done))) (by kernel_rfl) (by kernel_rfl) (fun d _ _ _ _ h => by cases d <;> exact h) ⟨⟨_, (Below.refl _ _).drew⟩, rfl⟩ ?_
  simp only [opsAt, List.getElem?_toArray, List.getElem?_cons_succ, List.getElem?_cons_zero]
  repeat (go_big_quiet_step (fail))
  refine wpQuiet_nil ?_
  (refine eff_lit rfl rfl (fun K hK => ?_))
  go_big_op
  refine (clone36 mA st.n mc (mcs ms) _ (HTL.out _ (Below.refl _ _).drew).met.reads (mcs_one _) HT.out.met.2 (by omega)).mono ?_
  rintro e w1 ⟨A1, c1, rfl, ho1, hb1⟩
  have hB1 : Below w.heap.size w w1 := (Below.refl _ _).drew.trans hb1
  have hz1 := hB1.size
  have HO1 : Hid (XOwns w1 w.heap.size 67 1 A1 st.n c1 (mcs ms)) := Lib.hid ho1
  refine hK _ _ ⟨⟨_, hB1⟩, rfl⟩ ?_
  clear hK K ho1
  simp only [opsAt, List.getElem?_toArray, List.getElem?_cons_succ, List.getElem?_cons_zero]
  repeat (go_big_quiet_step (fail))
  refine wpQuiet_nil ?_
  (refine eff_lit rfl rfl (fun K hK => ?_))
  go_big_op
  refine (clone37 RA st.rounds.length rc (svs rs) _ (HTL.out _ hB1).rds.reads (svs_one _) HT.out.rds.2 (by omega)).mono ?_
  rintro e w2 ⟨A2, c2, rfl, ho2, hb2⟩
  have hB2 := below_call hB1 hb2 hz1
  have hz2 := hB2.size
  have HO2 := Lib.hid ho2
  have HO1 := Lib.hid (HO1.out.below hb2)
  refine hK _ _ ⟨⟨_, hB2⟩, rfl⟩ ?_
  clear hK K ho2
  simp only [opsAt, List.getElem?_toArray, List.getElem?_cons_succ, List.getElem?_cons_zero]
  repeat (go_big_quiet_step (fail))
  refine wpQuiet_nil ?_
  (refine eff_lit rfl rfl (fun K hK => ?_))
  go_big_op
  have hal : Below w2.heap.size w2 (w2.alloc (.cells #[.slice A1 st.n c1, .slice A2 st.rounds.length c2, .slice none 0 0, .bool st.open_] 57)) := (Below.refl _ _).alloc (Nat.le_refl _) _
  have HC : Hid (CpT w w2.heap.size st.n A1 c1 ms A2 st.rounds.length c2 rs st.open_ st.scores none 0 0 [] (w2.alloc (.cells #[.slice A1 st.n c1, .slice A2 st.rounds.length c2, .slice none 0 0, .bool st.open_] 57))) := Lib.hid ⟨Blk.mk_ _ _ _ _ rfl, hz2, HO1.out.below hal, (HO2.out.below hal).more hz1, XOwns.nil_ _ _ _ _, (fun k s l h => by simp at h), (fun j k s t _ h => by simp at h), below_call hB2 hal hz2⟩
  refine hK _ _ ⟨⟨_, HC.out.Bl⟩, rfl⟩ ?_
  clear hK K x0 x1 x3
  simp only [opsAt, List.getElem?_toArray, List.getElem?_cons_succ, List.getElem?_cons_zero]
  repeat (go_big_quiet_step (fail))
  refine wpQuiet_nil ?_
  refine effs_done ?_
  have y2 : (w2.alloc (.cells #[.slice A1 st.n c1, .slice A2 st.rounds.length c2, .slice none 0 0, .bool st.open_] 57)).cell? ⟨p, 2, none⟩ = some (.slice SA st.rounds.length sq) := ((HTL.out _ HC.out.Bl).blk.at_ 2).trans rfl
  have hpw := (HTL.out _ HC.out.Bl).blk.lt
  generalize w2.alloc (.cells #[.slice A1 st.n c1, .slice A2 st.rounds.length c2, .slice none 0 0, .bool st.open_] 57) = w3 at *
  generalize hgg : w2.heap.size = g at *
  clear hal HO1 HO2
  go_wp2
  go_loopw [29] (fun i W => ∃ (j : Nat) (SA' : Option Addr) (sc' : Nat) (ss' : List Sl), j ≤ st.rounds.length ∧ i = .int .i64 j ∧ CpT w g st.n A1 c1 ms A2 st.rounds.length c2 rs st.open_ st.scores SA' j sc' ss' W) (fun i _ => st.rounds.length - (intOf i).toNat)
  case atStart => exact ⟨0, none, 0, [], Nat.zero_le _, rfl, HC.out⟩
  case round =>
    obtain ⟨j, SA', sc', ss', hj, rfl, hC⟩ := hrel
    have HCC := Lib.hid hC
    have hzr := hC.Bl.size
    clear hC HC y2
    by_cases hlt : j < st.rounds.length
    · have hlt' : (j : Int) < st.rounds.length := by omega
      have hsl : j < st.scores.length := by rw [HT.out.ok.len]; exact hlt
      obtain ⟨l, hl⟩ : ∃ l, st.scores[j]? = some l := ⟨_, List.getElem?_eq_getElem hsl⟩
      obtain ⟨rl, hrl⟩ : ∃ l, st.rounds[j]? = some l := ⟨_, List.getElem?_eq_getElem hlt⟩
      obtain ⟨t, ht⟩ : ∃ t, sts[j]? = some t := ⟨_, List.getElem?_eq_getElem (by have := HT.out.ss_len; simp only at this; omega)⟩
      have hTr := HTL.out _ HCC.out.Bl
      obtain ⟨gS, hgS, _, hgSlt, hcS, _⟩ := hTr.scs.cell (j := j) (u := t.v) (by simp only [svs, List.getElem?_map]; rw [ht]; rfl)
      have hi := hTr.isc j t l ht hl
      have HL := Lib.hid hl
      have hll := (HT.out.ok.sco j rl l hrl hl).1
      have hrn := round_len (HT.out.ok.rnd _ (List.mem_of_getElem? hrl))
      obtain ⟨tA, tn, tc⟩ := t
      simp only [Sl.v] at hcS hi
      dsimp only at hgS
      subst hgS
      have htn : tn ≤ 100000 := by have h1 : l.length = tn := ilen hi.reads; omega
      have HI := Lib.hid hi
      have hNE : Nonempty (In (fun W => Blk W g 57 #[.slice A1 st.n c1, .slice A2 st.rounds.length c2, .slice SA' j sc', .bool st.open_])) := ⟨⟨_, HCC.out.P⟩⟩
      have z2 : ∀ s : In (fun W => Blk W g 57 #[.slice A1 st.n c1, .slice A2 st.rounds.length c2, .slice SA' j sc', .bool st.open_]), s.W.cell? ⟨g, 2, none⟩ = some (.slice SA' j sc') := fun s => (s.h.at_ 2).trans rfl
      clear hl hrl ht hTr hi
      go_wp2
      refine wp_region_late (Ph (fun w' => ∃ s : In (fun W => Blk W g 57 #[.slice A1 st.n c1, .slice A2 st.rounds.length c2, .slice SA' j sc', .bool st.open_]), w' = s.W) (fun _ => True)) [11] [0,1,2,3,4,5] (.one 6 [] (.one 7 [] (.one 8 [9,10] (.one 11 [] .done)))) (by kernel_rfl) (by kernel_rfl) (fun d _ _ _ _ h => by cases d <;> exact h) ⟨⟨_, HCC.out.P.drew⟩, rfl⟩ ?_
      refine quiet_as (C' := (fun w' => ∃ s : In (fun W => Blk W g 57 #[.slice A1 st.n c1, .slice A2 st.rounds.length c2, .slice SA' j sc', .bool st.open_]), w' = s.W)) rfl ?_
      simp only [opsAt, List.getElem?_toArray, List.getElem?_cons_succ, List.getElem?_cons_zero]
      repeat (go_big_quiet_step (fail))
      refine wpQuiet_nil ?_
      refine eff_as (C' := (fun w' => ∃ s : In (fun W => Blk W g 57 #[.slice A1 st.n c1, .slice A2 st.rounds.length c2, .slice SA' j sc', .bool st.open_]), w' = s.W)) rfl ?_
      (refine eff_lit rfl rfl (fun K hK => ?_))
      go_big_op
      refine (clone38 tA tn tc (ics l) _ (HI.out.below (Below.refl _ _).drew).reads (ics_one _) HI.out.2 htn).mono ?_
      rintro e w5 ⟨A5, c5, rfl, ho5, hb5⟩
      have hb5' : Below wr.heap.size wr w5 := (Below.refl _ _).drew.trans hb5
      have HC5 := Lib.hid (HCC.out.below hb5')
      have HO5 := Lib.hid ho5
      have hz5 := hb5'.size
      refine hK _ _ ⟨⟨_, HC5.out.P⟩, rfl⟩ ?_
      clear hK K ho5
      simp only [opsAt, List.getElem?_toArray, List.getElem?_cons_succ, List.getElem?_cons_zero]
      refine wpQuiet_nil ?_
      refine eff_as (C' := (fun w' => ∃ s : In (fun W => Blk W g 57 #[.slice A1 st.n c1, .slice A2 st.rounds.length c2, .slice SA' j sc', .bool st.open_]), w' = s.W)) rfl ?_
      (refine eff_lit rfl rfl (fun K hK => ?_))
      go_big_op
      have hal6 : Below w5.heap.size w5 (w5.alloc (.cells #[.slice A5 tn c5] 66)) := (Below.refl _ _).alloc (Nat.le_refl _) _
      have HC6 := Lib.hid (HC5.out.below hal6)
      have HB6 := Lib.hid (Blk.mk_ w5 66 #[.slice A5 tn c5] _ rfl)
      refine hK _ _ ⟨⟨_, HC6.out.P⟩, rfl⟩ ?_
      clear hK K
      simp only [opsAt, List.getElem?_toArray, List.getElem?_cons_succ, List.getElem?_cons_zero]
      refine wpQuiet_nil ?_
      refine eff_as (C' := (fun w' => ∃ s : In (fun W => Blk W g 57 #[.slice A1 st.n c1, .slice A2 st.rounds.length c2, .slice SA' j sc', .bool st.open_]), w' = s.W)) rfl ?_
      (refine eff_lit rfl rfl (fun K hK => ?_))
      refine append_x_op (w := (w5.alloc (.cells #[.slice A5 tn c5] 66))) (.tmp 37) (.tmp 40) 43 rfl w.heap.size 66 (.slice none 0 0) 1 24 Try.info66 Try.underlying43 rfl (by decide) SA' j sc' (svs ss') rfl HC6.out.S (some ⟨w5.heap.size, 0, none⟩) 1 1 [.slice A5 tn c5] rfl (reads_block HB6.out 1 1 rfl) (by simp [Value.oneCell']) (by decide) (by omega) (by omega) (by have := HC6.out.Bl.size; omega) _ rfl ?_
      intro gS' cS' w7 hoS hgS hiS hltS
      simp only [Act.put, List.setIfInBounds_toArray, List.set_cons_succ, List.set_cons_zero]
      have HS7 := Lib.hid hoS
      have HG7 := Lib.hid hgS
      have hP7 : Blk w7 g 57 #[.slice A1 st.n c1, .slice A2 st.rounds.length c2, .slice SA' j sc', .bool st.open_] := HC6.out.P.grown hgS (Ne.symm (HC6.out.S.apart_blk HC6.out.P (by decide)))
      have HP7 := Lib.hid hP7
      have HMO := Lib.hid (HC6.out.more hsl HL.out ((HO5.out.more (show w.heap.size ≤ wr.drew.heap.size by simpa using hzr)).below hal6) (fun k s hs => by
        rcases HO5.out.blk with h0 | ⟨g0, _, h0, h1, _⟩
        · exact .inl h0
        · refine .inr fun e => ?_
          have hk : k < st.scores.length := by have := (List.getElem?_eq_some_iff.1 hs).1; have := HCC.out.len; omega
          have h2 := ((HCC.out.I k s _ hs (List.getElem?_eq_getElem hk)).lt g0 (by rw [e]; exact h0)).2
          simp at h1
          omega) HG7.out HS7.out)
      have e2 := (HP7.out.at_ 2).trans rfl
      have f2 := HP7.out.free 2
      have hp7 := HP7.out.lt
      refine hK _ _ ⟨⟨_, HP7.out⟩, rfl⟩ ?_
      clear hK K hoS hgS hP7
      simp only [opsAt, List.getElem?_toArray, List.getElem?_cons_succ, List.getElem?_cons_zero]
      repeat (go_big_quiet_step (fail))
      refine wpQuiet_nil ?_
      refine eff_as (C' := fun _ => True) rfl ?_
      (refine eff_lit rfl rfl (fun K hK => ?_))
      go_big_op
      refine hK _ _ trivial ?_
      clear hK K z2 e2 f2 hp7 hNE
      simp only [opsAt, List.getElem?_toArray, List.getElem?_cons_succ, List.getElem?_cons_zero]
      refine wpQuiet_nil ?_
      refine effs_done ?_
      go_wp2
      go_roundw
      case rel => exact ⟨j + 1, _, _, _, by omega, by go_num, HMO.out⟩
      case measure => simp [intOf]; omega
    · obtain rfl : j = st.rounds.length := by omega
      go_wp2
      go_ret
      have hC := HCC.out
      refine ⟨g, ⟨A1, c1, ms, A2, c2, rs, SA', sc', ss'⟩, rfl, ⟨hC.P, by have := hC.gb; omega, hC.M.more (by omega), hC.Rr.more (by omega), hC.S.more (by omega), fun k s l h1 h2 => (HTL.out _ hC.Bl).ird k s l h1 h2, fun k s l h1 h2 => (hC.I k s l h1 h2).more (by omega), hC.sep, HT.out.mok, HT.out.ok⟩, hC.Bl, ?_, ?_⟩
      · rintro i (rfl | hi | hi | hi | ⟨k, s, hk, hi⟩)
        · exact hC.gb
        · exact (hC.M.lt i hi).1
        · exact (hC.Rr.lt i hi).1
        · exact (hC.S.lt i hi).1
        · have hk2 : k < st.scores.length := by have h3 : k < ss'.length := (List.getElem?_eq_some_iff.1 hk).1; have := hC.len; have := HT.out.ok.len; omega
          exact ((hC.I k s _ hk (List.getElem?_eq_getElem hk2)).lt i hi).1
      · rintro i ((rfl | hi | hi | hi | ⟨k, s, hk, hi⟩) | ⟨k, s, hk, hi⟩)
        · exact .inr hC.gb
        · exact .inr (hC.M.lt i hi).1
        · exact .inr (hC.Rr.lt i hi).1
        · exact .inr (hC.S.lt i hi).1
        · have hk2 : k < st.scores.length := by have h3 : k < ss'.length := (List.getElem?_eq_some_iff.1 hk).1; have := hC.len; have := HT.out.ok.len; omega
          exact .inr ((hC.I k s _ hk (List.getElem?_eq_getElem hk2)).lt i hi).1
        · exact .inl (.inr ⟨k, s, hk, hi⟩)
end Go.Proofs.Ytngcmihaheiigaa
