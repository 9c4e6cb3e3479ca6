/-
  The stage's theorem: the walk.
-/
import Derived.Test.YtngcmihaheiigaaHldM
import Derived.Test.YtngcmihaheiigaaKnown
import Derived.Deep.DeepCutAuto
set_option linter.unusedSimpArgs false
set_option linter.unusedVariables false
namespace Go.Proofs.Ytngcmihaheiigaa
open Go.RowKit

theorem Try.info4 : (Try.prog.info? 4).map (fun i => (i.zero, i.size, i.bytes)) = some (some (.bool false), 1, 1) := by kernel_rfl

set_option maxRecDepth 100000 in
set_option maxHeartbeats 3200000 in
theorem holds_ok (n r : Nat) (A : Option Addr) (len cap : Nat) (xs : List Int) (w : World) (hn : 2 ≤ n ∧ n ≤ 14) (hr : r ≤ 13) (hx : BReads w A len xs) (hlen : len ≤ 100) :
    Calls Try.prog 3 #[.int .i64 n, .int .i64 r, .slice A len cap] w fun e w' => e = .returned (.bool true) ∧ Below w.heap.size w w' := by
  have HX := Lib.hid hx
  have HN := Lib.hid hn
  obtain ⟨hn1, hn2⟩ := hn
  have t1 : ¬ (n : Int) < 2 := by omega
  have t2 : ¬ (14 : Int) < n := by omega
  have t3 : ¬ (r : Int) < 0 := by omega
  have t4 : ¬ (13 : Int) < r := by omega
  have t5 : ¬ (100 : Int) < len := by omega
  obtain ⟨N2, hN2⟩ : ∃ N2, n * n = N2 := ⟨_, rfl⟩
  have HN2 := Lib.hid hN2
  have e0 : (n : Int) * n = (N2 : Int) := by rw [← hN2]; simp
  have b0 : N2 ≤ 196 := by rw [← hN2]; exact Nat.mul_le_mul hn2 hn2
  clear hx hN2
  go_enter Try.func3, Try.ntmps3
  go_wp2_with (first
    | (go_at_call 9; refine (new_ok n _ HN.out).mono ?_; rintro e w1 ⟨gP, x1, rfl, hT1, hB1⟩; have HT1 := Lib.hid hT1; have hz1 := hB1.size; clear hT1)
    | (at_make; refine make_x _ rfl (.tmp 56) (.tmp 56) 28 rfl w.heap.size 4 (.bool false) 1 Try.info4 Try.underlying28 rfl .i64 .i64 _ _ N2 rfl rfl rfl rfl ?_ ?_ ?_ ?_; omega; omega; exact hz1; intro w2 ho2 hb2)
    | fail)
  have HH : Hid (HHead w gP w1.heap.size n N2 0 (ts0 n) x1 (List.replicate N2 false) 0 w2) := Lib.hid ⟨HT1.out.below hb2, (by have := ho2; rwa [show bls (List.replicate N2 false) = List.replicate N2 (.bool false) by simp [bls]]), hB1.trans (hb2.mono hz1), rfl, rfl, rfl, (by rw [← HN2.out]; exact MtOk.init n), (by simp [ts0, ptsS])⟩
  have hgm : w.heap.size ≤ w1.heap.size := hz1
  have hgmlt : w1.heap.size < w2.heap.size := (ho2.lt _ rfl).2
  clear ho2 HT1
  generalize w1.heap.size = gm at *
  clear hb2 hB1 hz1
  go_loopw [10, 11, 12] (fun mn us i W => ∃ (k u : Nat) (sm : Int) (st : TS) (x : TC) (mt : List Bool), mn = .int .i64 sm ∧ us = .int .i64 u ∧ i = .int .i64 k ∧ k ≤ r ∧ u ≤ 7 * k ∧ 0 ≤ sm ∧ sm ≤ 14 * k ∧ gm < W.heap.size ∧ Hid (HHead w gP gm n N2 k st x mt sm W)) (fun _ _ i _ => r - (intOf i).toNat)
  case atStart => exact ⟨0, 0, 0, _, _, _, rfl, rfl, rfl, Nat.zero_le _, Nat.le_refl _, Int.le_refl _, by decide, hgmlt, HH⟩
  case round =>
    obtain ⟨k, u, sm, st, x, mt, rfl, rfl, rfl, hk, hu, hs0, hs1, hgw, H⟩ := hrel
    generalize wr = wz at *
    by_cases hlt : k < r
    · have hlt' : (k : Int) < r := by omega
      cases hw : st.whole with
      | none =>
        have HE : Hid (st.sErr = 9) := Lib.hid (start_no H.out.so (by rw [H.out.sk]; omega) hw)
        clear hw
        go_wp2_with (first
          | (go_at_call 10; refine (start_any w.heap.size gP st x _ H.out.T).mono ?_; rintro e w3 ⟨x3, A3, c3, rfl, ho3, ht3, hf3, -, -⟩; have hB3 : Below w.heap.size w w3 := H.out.Bl.trans (hf3.below H.out.Bl.size (fun i hi => (H.out.T.foot i (.inl hi)).1)); rw [HE.out]; clear ho3 ht3 hf3)
          | (go_at_call 8; refine (known_any _).mono ?_; rintro e w4 ⟨rfl, hb4⟩)
          | fail)
        go_ret
        exact ⟨rfl, below_call hB3 hb4 hB3.size⟩
      | some m =>
        obtain ⟨he0, hl0, hs0⟩ := start_mid H.out.so (by rw [H.out.sk]; omega) hw
        have HE := Lib.hid he0
        have HLm := Lib.hid hl0
        have HSm := Lib.hid hs0
        have HW := Lib.hid hw
        have hml := (TS.whole_ok' H.out.T.ok hw).len
        rw [(TS.ord_mem H.out.T.ok).2.2, H.out.sn] at hml
        have hL7 : m.length ≤ 7 := by omega
        have hq : ((n : Int) + 1) / 2 = (m.length : Int) := by omega
        clear hw he0 hl0 hs0 hml
        go_wp2_with (first
          | (go_at_call 10; refine (start_any w.heap.size gP st x _ H.out.T).mono ?_; rintro e w3 ⟨x3, A3, c3, rfl, ho3, ht3, hf3, -, -⟩; rw [HE.out, HLm.out]; rw [HLm.out] at ho3; rw [HSm.out] at ht3; have hB3 : Below w.heap.size w w3 := H.out.Bl.trans (hf3.below H.out.Bl.size (fun i hi => (H.out.T.foot i (.inl hi)).1)); have HO3 := Lib.hid ho3; have HT3 := Lib.hid ht3; have HM3 := Lib.hid (H.out.G.onlyF hf3 (fun i hi hm => H.out.T.apart H.out.G (by decide) (by decide) (by decide) (by decide) (by decide) i hm hi)); have hz3 := hf3.size; clear ho3 ht3 hf3)
          | (at_make; refine make_x _ rfl (.tmp 70) (.tmp 70) 28 rfl w3.heap.size 4 (.bool false) 1 Try.info4 Try.underlying28 rfl .i64 .i64 _ _ n rfl rfl rfl rfl ?_ ?_ ?_ ?_; omega; omega; exact Nat.le_refl _; intro w4 ho4 hb4)
          | fail)
        have HI0 : Hid (HIn w w3 gP gm w3.heap.size n N2 c3 A3 st m 0 (initS m) x3 (List.replicate n false) mt w4) := Lib.hid (HIn.init (HT3.out.below hb4) (HM3.out.below hb4) (by have := ho4; rwa [show bls (List.replicate n false) = List.replicate n (.bool false) by simp [bls]]) ((own_lower HO3.out H.out.Bl.size).below hb4) (hB3.trans (hb4.mono hB3.size)) H.out.mt_)
        have HST : Hid (st.n = n) := Lib.hid H.out.sn
        have HSK : Hid (st.rounds.length = k) := Lib.hid H.out.sk
        have HWF := Lib.hid H.out.T.ok
        have HSUM := Lib.hid H.out.sum
        have hgs : w3.heap.size < w4.heap.size := (ho4.lt _ rfl).2
        have hgm3 : gm < w3.heap.size := by omega
        have hgs0 : w.heap.size ≤ w3.heap.size := hB3.size
        clear ho4 hb4 hq hB3 hz3 HO3 HT3 HM3 H HE HLm HSm hgw
        obtain ⟨gs, hgse⟩ : ∃ gs, w3.heap.size = gs := ⟨_, rfl⟩
        rw [hgse] at HI0 hgs hgm3 hgs0 ⊢
        have HGS := Lib.hid hgse
        clear hgse
        go_loopw [11, 16] (fun us kk W => ∃ (q v : Nat) (sc : List Int) (x : TC) (sn mt : List Bool), us = .int .i64 v ∧ kk = .int .i64 q ∧ q ≤ m.length ∧ v ≤ 7 * k + q ∧ gs < W.heap.size ∧ Hid (HIn w w3 gP gm gs n N2 c3 A3 st m q sc x sn mt W)) (fun _ kk _ => m.length - (intOf kk).toNat)
        case atStart => exact ⟨0, u, _, _, _, _, rfl, rfl, Nat.zero_le _, by omega, hgs, HI0⟩
        case round =>
          obtain ⟨q, v, sc, x5, sn, mt5, rfl, rfl, hq, hv, hgw, H5⟩ := hrel
          by_cases hqm : q < m.length
          · have hqm' : (q : Int) < m.length := by omega
            have hmem : dth m q ∈ m := List.mem_of_getElem? (dth_get hqm)
            have hdk := (TS.round_ok HWF.out HW.out).1 _ hmem
            obtain ⟨a, ha⟩ : ∃ a : Nat, (dth m q).a = a := ⟨(dth m q).a.toNat, by have := hdk.1; omega⟩
            obtain ⟨b, hb⟩ : ∃ b : Nat, (dth m q).c = b := ⟨(dth m q).c.toNat, by have := (D.c_ok hdk).1; omega⟩
            obtain ⟨ad, rfl, -, c0, c1⟩ := duel_at H5.out.mid.R.reads hqm
            obtain ⟨f1, f2, f3⟩ := H5.out.next HW.out HWF.out HST.out hqm ha hb
            have han : a < n := by have := hdk.2.1; have := HST.out; omega
            have hbn : b < n := by have := (D.c_ok hdk).2; have := HST.out; omega
            obtain ⟨P, hP⟩ : ∃ P, a * n = P := ⟨_, rfl⟩
            obtain ⟨Q, hQ⟩ : ∃ Q, b * n = Q := ⟨_, rfl⟩
            have eP : (a : Int) * n = (P : Int) := by rw [← hP]; simp
            have eQ : (b : Int) * n = (Q : Int) := by rw [← hQ]; simp
            have hPb : P + b < N2 := by rw [← hP, ← HN2.out]; exact idx_lt han hbn
            have hQa : Q + a < N2 := by rw [← hQ, ← HN2.out]; exact idx_lt hbn han
            obtain ⟨s1, s1f⟩ := H5.out.mid.S.bcell han
            obtain ⟨s2, s2f⟩ := H5.out.mid.S.bcell hbn
            obtain ⟨s3, s3f⟩ := H5.out.mid.M.bcell hPb
            obtain ⟨s4, s4f⟩ := H5.out.mid.M.bcell hQa
            rw [f1] at s1
            rw [f2] at s2
            rw [hP] at f3
            rw [f3] at s3
            have HD := Lib.hid hdk
            have HA := Lib.hid ha
            have HP := Lib.hid hP
            have hgms : gm ≠ gs := by omega
            have han' : (a : Int) < n := by omega
            have hgmW : gm < wr.heap.size := by omega
            by_cases hby : (dth m q).b < 0
            · have hb1 : (dth m q).b = -1 := by rcases hdk.2.2 with h | h <;> omega
              have hba : b = a := by unfold D.c at hb; rw [if_pos hby, ha] at hb; omega
              have hodd : ((n : Int) % 2 == 1) = true := by rw [beq_iff_eq]; have := bye_odd HWF.out HW.out hmem hby; rw [HST.out] at this; omega
              rw [ha] at c0
              rw [hb1] at c1
              have HBY := Lib.hid hby
              subst hba
              obtain rfl : P = Q := by rw [← hP, ← hQ]
              clear hdk ha hb hP hQ f1 f2 f3 hb1 hby hmem s2 s2f s4 s4f eQ hQa
              go_wp2
              go_quiet (fail)
              go_wp2
              go_roundw
              case rel => exact ⟨q + 1, v, sc, x5, _, _, rfl, by go_num, by omega, by omega, by (focus (first | omega | (simp only [World.size_alloc]; done) | (simp only [World.size_alloc]; omega) | (simp; done) | (simp; omega))), Lib.hid ((H5.out.below (below_drew_ (Below.refl _ _) nq)).bye hqm (by rw [← HST.out]; exact HD.out) HA.out HBY.out (by rw [HP.out]) hgms (by omega) hgs0)⟩
              case measure => simp [intOf]; omega
            · have hdb : (dth m q).b = b := by unfold D.c at hb; rw [if_neg hby] at hb; exact hb
              have hne : a ≠ b := by rcases hdk.2.2 with h | h <;> omega
              have hPQ : P + b ≠ Q + a := by
                intro h
                rw [← hP, ← hQ] at h
                exact hne (idx_inj hbn han h).1
              have hpq' : (P + b = Q + a) = False := eq_false hPQ
              have hpq2 : (Q + a = P + b) = False := eq_false (Ne.symm hPQ)
              rw [ha] at c0
              rw [hdb] at c1
              have HBY := Lib.hid hby
              have HB := Lib.hid hb
              have HQ := Lib.hid hQ
              have hne1 : ((a : Int) = b) = False := eq_false (by omega)
              have hne2 : (a = b) = False := eq_false hne
              have hbn' : (b : Int) < n := by omega
              have hbm : ((b : Int) == -1) = false := by rw [beq_eq_false_iff_ne]; omega
              clear hdk ha hb hdb hP hQ f1 f2 f3 hby hmem
              go_wp2
              go_quiet (fail)
              have HSTO := Lib.hid ((H5.out.below (below_drew_ (Below.refl _ _) nq)).stored (i := P + b) (j := Q + a) hqm (by rw [← HST.out]; exact HD.out) HA.out HB.out (by rw [HP.out]) (by rw [HQ.out]) hgms (by omega) hgs0)
              go_upto_if 182 with fail
              go_cut [11, 19] (fun us s W => ∃ (v2 : Nat) (y : Int), us = .int .i64 v2 ∧ s = .int .i64 y ∧ v2 ≤ 7 * k + q + 1 ∧ 0 ≤ y ∧ y ≤ 2 ∧ Hid (HMid w w3 gP gm gs n N2 m.length c3 (some ad) st m sc x5 ((sn.set a true).set b true) ((mt5.set (P + b) true).set (Q + a) true) W) ∧ Hid (wr.heap.size ≤ W.heap.size))
              case first =>
                have HSM := Lib.hid HSTO.out.1
                have HSZ0 : Hid (wr.heap.size ≤ ((((((wr.drewN nq).setCell ⟨gs, a, none⟩ (.bool true)).setCell ⟨gs, b, none⟩ (.bool true)).setCell ⟨gm, P + b, none⟩ (.bool true)).setCell ⟨gm, Q + a, none⟩ (.bool true)).heap.size)) := Lib.hid (by simp [World.setCell])
                clear s1 s1f s2 s2f s3 s3f s4 s4f c0 c1 hpq' hpq2 hne2 eP eQ hPb hQa hbm han' hbn' hPQ
                by_cases hlen0 : len = 0
                · subst hlen0
                  go_wp2
                  go_meet
                  case rel => exact ⟨v, 0, rfl, rfl, Nat.le_succ_of_le hv, by decide, by decide, HSM, HSZ0⟩
                · have hlp : (0 : Int) < len := by omega
                  have hvl : v % len < len := Nat.mod_lt _ (by omega)
                  obtain ⟨z, hz⟩ : ∃ z, v % len = z := ⟨_, rfl⟩
                  have hz' : ((v : Int) % len) = (z : Int) := by rw [← hz]; simp
                  rw [hz] at hvl
                  obtain ⟨ax, hax, hcx, hx0, hx1⟩ := (HX.out.below HSM.out.Bl).at_ hvl
                  subst hax
                  generalize nth xs z = y at *
                  have hvl' : (z : Int) < len := by omega
                  clear hlen0 hz
                  go_wp2
                  go_meet
                  case rel => exact ⟨v + 1, y % 3, by go_num, rfl, Nat.succ_le_succ hv, Int.emod_nonneg _ (by decide), Int.le_of_lt_add_one (Int.emod_lt_of_pos _ (by decide)), HSM, HSZ0⟩
              case rest =>
                obtain ⟨v2, y, rfl, rfl, hv2, hy0, hy2, HSM, HSZ⟩ := hcut
                generalize wc = wk at *
                clear s1 s1f s2 s2f s3 s3f s4 s4f c0 c1 hpq' hpq2 hne2 eP eQ hPb hQa hbm han' hbn' hPQ
                have HRE := Lib.hid (mid_rep (m := m) (sc := sc) HWF.out.len hqm (by have := HBY.out; omega) (⟨hy0, hy2⟩ : 0 ≤ y ∧ y ≤ 2))
                go_wp2_with (first
                  | (go_at_call 11; refine (report_any w.heap.size gP (midT st m sc) x5 q y _ HSM.out.T).mono ?_; rw [HRE.out.1, HRE.out.2]; rintro e w6 ⟨rfl, ht6, hf6⟩; have HT6 := Lib.hid ht6; have HF6 := Lib.hid hf6; clear ht6 hf6)
                  | fail)
                go_roundw
                case rel => exact ⟨q + 1, v2, _, x5, _, _, rfl, by go_num, by omega, by omega, by have := HF6.out.size; have := HSZ.out; omega, Lib.hid (HIn.rep HSM.out H5.out.sc_ HSTO.out.2.1 HSTO.out.2.2 (by exact hqm) (by have := HBY.out; omega) ⟨hy0, hy2⟩ HT6.out HF6.out)⟩
                case measure => simp [intOf]; omega
          · obtain rfl : q = m.length := by omega
            have HCL := Lib.hid (mid_close (m := m) (sc := sc) HWF.out.len H5.out.sc_.full.1)
            have hkr : k < r := by omega
            go_wp2_with (first
              | (go_at_call 12; refine (close_any w.heap.size gP (midT st m sc) x5 _ H5.out.mid.T).mono ?_; rw [HCL.out.1, HCL.out.2]; rintro e w6 ⟨rfl, ht6, hf6⟩; have HH6 := Lib.hid (H5.out.next_head HWF.out HW.out HST.out HSK.out HSUM.out ht6 hf6); have hz6 := hf6.size; clear ht6 hf6)
              | (go_at_call 13; refine (points_any w.heap.size gP (endT st m sc) x5 _ HH6.out.T).mono ?_; rw [show (endT st m sc).n = n from HST.out]; rintro e w7 ⟨g7, rfl, ho7, hb7⟩; have HO7 := Lib.hid ho7; have HH7 := Lib.hid (HH6.out.below hb7); have hz7 := hb7.size; clear ho7)
              | fail)
            have HPB : Hid (PtB n 26 (ptsS n (endT st m sc).rounds (endT st m sc).scores)) := Lib.hid (by
              have h1 := pts_bd HH7.out.T.ok
              rw [show (endT st m sc).n = n from HST.out] at h1
              exact h1.more (by rw [HH7.out.sk]; omega))
            have HPS : Hid ((ptsS n (endT st m sc).rounds (endT st m sc).scores).sum = sm + 2 * (m.length : Int)) := Lib.hid (by
              have h1 := HH7.out.sum
              rw [show (endT st m sc).n = n from HST.out] at h1
              exact h1.symm)
            generalize ptsS n (endT st m sc).rounds (endT st m sc).scores = pl at *
            clear hb7 HCL HH6
            go_loop [20, 22] (fun s j => ∃ jj : Nat, jj ≤ n ∧ s = .int .i64 (pl.take jj).sum ∧ j = .int .i64 jj) (fun _ j => n - (intOf j).toNat)
            case atStart => exact ⟨0, Nat.zero_le _, rfl, rfl⟩
            case round =>
              obtain ⟨jj, hjn, rfl, rfl⟩ := hrel
              by_cases hjl : jj < n
              · have hjl' : (jj : Int) < n := by omega
                obtain ⟨c7, f7⟩ := HO7.out.icell hjl
                have hb1 := take_bd HPB.out (by decide) jj hjn
                have hb2 := HPB.out.2 jj hjl
                have HTS := Lib.hid (take_sum (l := pl) (j := jj) (by rw [HPB.out.1]; exact hjl))
                generalize (pl.take jj).sum = s0 at *
                generalize ith pl jj = y0 at *
                have hb3 : s0 ≤ 400 := by omega
                have hb4 : 0 ≤ s0 := hb1.1
                have hb5 : 0 ≤ y0 := hb2.1
                have hb6 : y0 ≤ 26 := hb2.2
                clear hb1 hb2
                go_wp2
                go_round
                case rel => exact ⟨jj + 1, hjl, by rw [HTS.out], by go_num⟩
                case measure => simp [intOf]; omega
              · obtain rfl : jj = n := by omega
                have hfs : (pl.take jj).sum = sm + 2 * (m.length : Int) := by rw [List.take_of_length_le (by rw [HPB.out.1]; exact Nat.le_refl _)]; exact HPS.out
                rw [hfs]
                clear hfs
                go_wp2
                go_roundw
                case rel => exact ⟨k + 1, v, sm + 2 * (m.length : Int), endT st m sc, x5, mt5, rfl, rfl, by go_num, by omega, by omega, by omega, by omega, by omega, HH7⟩
                case measure => simp [intOf]; omega
    · obtain rfl : k = r := by omega
      go_wp2_with (go_at_call 8; refine (known_any _).mono ?_; rintro e w4 ⟨rfl, hb4⟩)
      go_ret
      exact ⟨rfl, below_call H.out.Bl hb4 H.out.Bl.size⟩
end Go.Proofs.Ytngcmihaheiigaa
