/-
  Texts: Roe, Weq.
-/
import Derived.Test.YtagpphelgghbpaaGreatAk31
import Derived.Test.YtagpphelgghbpaaGreatAk30
set_option linter.unusedSimpArgs false
set_option linter.unusedVariables false
namespace Go.Proofs.YtagpphelgghbpaaGreat
open Go.RowKit

theorem vseat_load {W : World} {g : Nat} {who : Int} {v : Pu} {pm : PuM} {h : Value} {tl : List Value} (hk : Blk W g 98 (vwc who (v.v0.cells pm.m0) (v.v1.cells pm.m1) h tl).toArray) {p : Nat} (hp : p < 2) : (Instr.loadAt 95 (.pointer (some ⟨g, 1 + p * 14, none⟩))).run Tryz.prog W = .ok (.agg ((seV v p).cells (smV pm p)).toArray) W := by
  refine hk.mid ((seV v p).cells (smV pm p)) _ (fun j v' hj => ?_) Tryz.underlying95 rfl (by rw [size_vseat]; rfl)
  have hj14 : j < 14 := (List.getElem?_eq_some_iff.1 hj).1
  rw [← hj, List.getElem?_toArray]
  rcases (show p = 0 ∨ p = 1 by omega) with rfl | rfl
  · rcases (show j = 0 ∨ j = 1 ∨ j = 2 ∨ j = 3 ∨ j = 4 ∨ j = 5 ∨ j = 6 ∨ j = 7 ∨ j = 8 ∨ j = 9 ∨ j = 10 ∨ j = 11 ∨ j = 12 ∨ j = 13 by omega) with rfl | rfl | rfl | rfl | rfl | rfl | rfl | rfl | rfl | rfl | rfl | rfl | rfl | rfl <;> rfl
  · rcases (show j = 0 ∨ j = 1 ∨ j = 2 ∨ j = 3 ∨ j = 4 ∨ j = 5 ∨ j = 6 ∨ j = 7 ∨ j = 8 ∨ j = 9 ∨ j = 10 ∨ j = 11 ∨ j = 12 ∨ j = 13 by omega) with rfl | rfl | rfl | rfl | rfl | rfl | rfl | rfl | rfl | rfl | rfl | rfl | rfl | rfl <;> rfl
theorem XOwns.qlen {W : World} {B q c : Nat} {A : Option Addr} {l : List Int} (h : XOwns W B 3 1 A q c (ics l)) : l.length = q := by
  have := h.len
  simpa [ics] using this
theorem vsR_n {w : World} {v : Pu} {pm : PuM} (h : PuR w v pm) {j : Nat} : OsR w (smV pm j).F (seV v j).fld ∧ OsR w (smV pm j).G (seV v j).grv := by
  unfold smV seV
  split
  · exact ⟨h.v0.F, h.v0.G⟩
  · exact ⟨h.v1.F, h.v1.G⟩
theorem vsF_n {who : Int} {v : Pu} {hd : List Ob} (h : VwF who v hd) {j : Nat} : VsF (seV v j) := by
  unfold seV
  split
  · exact h.s0
  · exact h.s1
set_option maxRecDepth 100000 in
set_option maxHeartbeats 12800000 in
theorem rflat_any (w : World) (who : Int) (v : Pu) (hd : List Ob) (pm : PuM) (HA : Option Addr) (Hc : Nat) (hT : PuR w v pm) (hH : Reads w 12 HA hd.length (ocs hd)) (hF : VwF who v hd) :
    Calls Tryz.prog 74 #[.agg (vwc who (v.v0.cells pm.m0) (v.v1.cells pm.m1) (.slice HA hd.length Hc) (v.tail pm)).toArray] w (NumEnd (vwN who v hd) w) := by
  have HF0 := Lib.hid hF
  obtain ⟨gX, hgX⟩ : ∃ x, w.heap.size = x := ⟨_, rfl⟩
  obtain ⟨VC, hVC⟩ : ∃ x, (vwc who (v.v0.cells pm.m0) (v.v1.cells pm.m1) (.slice HA hd.length Hc) (v.tail pm)).toArray = x := ⟨_, rfl⟩
  have HVC := Lib.hid hVC
  obtain ⟨w1, hw1⟩ : ∃ x, w.alloc (.cells VC 98) = x := ⟨_, rfl⟩
  have hb1 : Below w.heap.size w w1 := by rw [← hw1]; exact (Below.refl _ _).alloc (Nat.le_refl _) _
  have HB1 := Lib.hid hb1
  have HK1 : Hid (Blk w1 gX 98 VC) := Lib.hid (by rw [← hw1]; exact Blk.mk_ _ _ _ _ hgX)
  have HT1 := Lib.hid (hT.below hb1)
  have HH1 := Lib.hid (hH.below hb1)
  have HGX := Lib.hid hgX
  obtain ⟨w2, hw2⟩ : ∃ x, w1.alloc (.cells #[.int .i64 who] 3) = x := ⟨_, rfl⟩
  have HI0 : Hid (XOwns w2 w1.heap.size 3 1 (some ⟨w1.heap.size, 0, none⟩) 1 1 (ics (nsJ who v 0)) ∧ Below w1.heap.size w1 w2) := Lib.hid (by rw [← hw2]; exact ⟨own_lit w1 [who] (Nat.le_refl _) (by simp), (Below.refl _ _).alloc (Nat.le_refl _) _⟩)
  have c0 : w1.cell? ⟨gX, 0, none⟩ = some (.int .i64 who) := (HK1.out.at_ 0).trans (by rw [← HVC.out]; rfl)
  rw [hVC]
  clear hT hH hF hVC hb1
  go_enter Tryz.func74, Tryz.ntmps74
  go_wp2_with fail
  clear c0 hw2
  go_loopw [3, 4] (fun a i W => ∃ (j q g c : Nat), j ≤ 2 ∧ i = .int .i64 j ∧ a = .slice (some ⟨g, 0, none⟩) q c ∧ Hid (XOwns W w1.heap.size 3 1 (some ⟨g, 0, none⟩) q c (ics (nsJ who v j)) ∧ Below w1.heap.size w1 W)) (fun _ i _ => 2 - (intOf i).toNat)
  case atStart => exact ⟨0, 1, _, 1, by omega, rfl, rfl, HI0⟩
  case round =>
    obtain ⟨j, q, g, c, hj, rfl, rfl, HI⟩ := hrel
    clear HI0
    by_cases hj2 : j < 2
    · have hj2' : (j : Int) < 2 := by omega
      have hj0 : decide ((j : Int) < 0) = false := decide_eq_false (by omega)
      have HJ := Lib.hid hj2
      have HST9 : Hid (nsJ who v (j + 1) = nsJ who v j ++ vsN (seV v j)) := Lib.hid (nsJ_step who v hj2)
      have HQ1 : Hid (q ≤ 24029) := Lib.hid (by have := HI.out.1.qlen; have := nsJ_len HF0.out hj; omega)
      have HSF := Lib.hid (vsF_n HF0.out (j := j))
      have HSR := Lib.hid (vsR_n HT1.out (j := j))
      have HLS : Hid ((Instr.loadAt 95 (.pointer (some ⟨gX, 1 + j * 14, none⟩))).run Tryz.prog wr = .ok (.agg ((seV v j).cells (smV pm j)).toArray) wr) := Lib.hid (by
        have h := HK1.out.below HI.out.2 HK1.out.lt
        rw [← HVC.out] at h
        exact vseat_load h hj2)
      obtain ⟨s, hs⟩ : ∃ x, seV v j = x := ⟨_, rfl⟩
      obtain ⟨sm, hsm⟩ : ∃ x, smV pm j = x := ⟨_, rfl⟩
      rw [hs, hsm] at HLS HSR
      rw [hs] at HST9 HSF
      obtain ⟨ns, hns⟩ : ∃ x, nsJ who v j = x := ⟨_, rfl⟩
      rw [hns] at HI HST9
      obtain ⟨SC, hSC⟩ : ∃ x, (s.cells sm).toArray = x := ⟨_, rfl⟩
      rw [hSC] at HLS
      obtain ⟨gS, hgS⟩ : ∃ x, wr.heap.size = x := ⟨_, rfl⟩
      have hZ := Blk.mk_ wr 95 #[.int .i64 0, .int .i64 0, .int .i64 0, .int .i64 0, .int .i64 0, .int .i64 0, .int .i64 0, .slice none 0 0, .slice none 0 0, .bool false, .bool false, .bool false, .int .i64 0, .int .i64 0] gS hgS
      obtain ⟨u0, hst, hB6, hg6⟩ := hZ.storeAll (ty := 95) (s.cells sm) rfl (by rw [size_vseat]; rfl) (one_vs2 _ _)
      have hb6 : Below wr.heap.size wr u0 := ((Below.refl _ _).alloc (Nat.le_refl _) _).grown hg6 (by simp) (fun q hq => by injection hq with hq; omega)
      obtain ⟨u1, hu1⟩ : ∃ x, u0.alloc (.cells #[.int .i64 s.life, .int .i64 s.p0, .int .i64 s.p1, .int .i64 s.p2, .int .i64 s.p3, .int .i64 s.lib, .int .i64 s.hand] 3) = x := ⟨_, rfl⟩
      have hb1 : Below u0.heap.size u0 u1 := by rw [← hu1]; exact (Below.refl _ _).alloc (Nat.le_refl _) _
      have HL1 : Hid (Blk u1 u0.heap.size 3 #[.int .i64 s.life, .int .i64 s.p0, .int .i64 s.p1, .int .i64 s.p2, .int .i64 s.p3, .int .i64 s.lib, .int .i64 s.hand]) := Lib.hid (by rw [← hu1]; exact Blk.mk_ _ _ _ _ rfl)
      have HX1 := Lib.hid ((HI.out.1.below hb6).below hb1)
      have HF1 := Lib.hid (below_call (below_call HI.out.2 hb6 HI.out.2.size) hb1 (below_call HI.out.2 hb6 HI.out.2.size).size)
      have HG1 := Lib.hid (hB6.call hb1)
      have e0 : u0.cell? ⟨gS, 0, none⟩ = some (.int .i64 s.life) := (hB6.at_ 0).trans rfl
      have e1 : u0.cell? ⟨gS, 1, none⟩ = some (.int .i64 s.p0) := (hB6.at_ 1).trans rfl
      have e2 : u0.cell? ⟨gS, 2, none⟩ = some (.int .i64 s.p1) := (hB6.at_ 2).trans rfl
      have e3 : u0.cell? ⟨gS, 3, none⟩ = some (.int .i64 s.p2) := (hB6.at_ 3).trans rfl
      have e4 : u0.cell? ⟨gS, 4, none⟩ = some (.int .i64 s.p3) := (hB6.at_ 4).trans rfl
      have e5 : u0.cell? ⟨gS, 5, none⟩ = some (.int .i64 s.lib) := (hB6.at_ 5).trans rfl
      have e6 : u0.cell? ⟨gS, 6, none⟩ = some (.int .i64 s.hand) := (hB6.at_ 6).trans rfl
      rw [hSC] at hst
      have HST := Lib.hid hst
      clear hst hB6 hg6 hb6 hZ HI hSC hs hsm hns hb1 hj hj2
      go_wp2_with (first
        | (refine wpList_load_by HLS.out rfl rfl rfl ?_; simp only [Act.put, List.setIfInBounds_toArray, List.set_cons_succ, List.set_cons_zero])
        | (refine wpList_store_by HST.out rfl rfl rfl rfl ?_; simp only [Act.put, List.setIfInBounds_toArray, List.set_cons_succ, List.set_cons_zero])
        | (at_builtin; refine append_i (w := u1) rfl (.tmp 19) (.tmp 38) rfl w1.heap.size (some ⟨g, 0, none⟩) q c ns rfl HX1.out (some ⟨u0.heap.size, 0, none⟩) 7 7 [s.life, s.p0, s.p1, s.p2, s.p3, s.lib, s.hand] rfl (reads_block HL1.out 1 7 rfl) (by decide) (by have := HQ1.out; omega) HF1.out.size ?_; intro g2 c2 u2 ho2 hg2 hb2; simp only [Act.put, List.setIfInBounds_toArray, List.set_cons_succ, List.set_cons_zero])
        | fail)
      have HX2 := Lib.hid ho2
      have HF2 := Lib.hid (HF1.out.trans hb2)
      have HG2 := Lib.hid (HG1.out.over HX1.out hg2 (by decide))
      clear ho2 hg2 hb2 hu1 e0 e1 e2 e3 e4 e5 e6 HST HLS
      refine rfl_r7 w1 u2 g2 (q + 7) c2 _ HX2.out HF2.out (by have := HQ1.out; omega) gS s sm HG2.out HSR.out.1 HSR.out.2 HSF.out.lF HSF.out.lG _ _ _ _ _ _ _ _ _ _ _ _ _ _ _ _ _ _ _ _ _ _ _ _ _ _ _ _ _ _ _ _ _ _ _ _ _ _ _ _ _ _ _ _ _ _ _ _ _ _ _ _ _ _ _ _ _ _ _ _ _ _ _ _ _ _ _ _ _ _ _ _ _ _ _ _ _ _ _ _ _ _ _ _ _ _ _ _ _ _ _ _ _ _ _ _ _ _ _ _ _ _ _ _ _ _ _ _ _ _ _ _ _ _ _ _ _ _ _ _ _ _ _ _ _ _ _ _ _ _ _ _ _ _ _ _ _ _ _ _ _ _ _ _ _ _ _ _ _ _ _ _ _ _ _ _ _ _ _ _ _ ?_ ?_
      · exact fun d _ _ _ _ h => by cases d <;> exact h
      intro v40 v41 v42 v43 v44 v45 v46 v47 v48 g3 q3 c3 u3 h3
      have HX3 := Lib.hid h3
      have HQ3 : Hid (q3 ≤ 800000) := Lib.hid (by
        have h1 := h3.1.qlen
        have h2 := HX1.out.qlen
        have h4 := HSF.out.lF
        have h5 := HSF.out.lG
        have h6 := HQ1.out
        simp only [List.length_append, obsN_len, List.length_cons, List.length_nil] at h1
        omega)
      clear h3
      go_wp2_with fail
      refine rfl_r8 w1 u3 g3 q3 c3 _ HX3.out.1 HX3.out.2.1 HQ3.out gS s sm HX3.out.2.2 _ _ _ _ _ _ _ _ _ _ _ _ _ _ _ _ _ _ _ _ _ _ _ _ _ _ _ _ _ _ _ _ _ _ _ _ _ _ _ _ _ _ _ _ _ _ _ _ _ _ _ _ _ _ _ _ _ _ _ _ _ _ _ _ _ _ _ _ _ _ _ _ _ _ _ _ _ _ _ _ _ _ _ _ _ _ _ _ _ _ _ _ _ _ _ _ _ _ _ _ _ _ _ _ _ _ _ _ _ _ _ _ _ _ _ _ _ _ _ _ _ _ _ _ _ _ _ _ _ _ _ _ _ _ _ _ _ _ _ _ _ _ _ _ _ _ _ _ _ _ _ _ _ _ _ _ _ _ _ _ _ ?_ ?_
      · exact fun d _ _ _ _ h => by cases d <;> exact h
      intro v49 v50 v51 v52 v53 v54 v55 v56 v57 v58 v59 v60 v61 v62 v63 v64 g4 q4 c4 u4 h4
      have HI4 : Hid (XOwns u4 w1.heap.size 3 1 (some ⟨g4, 0, none⟩) q4 c4 (ics (nsJ who v (j + 1))) ∧ Below w1.heap.size w1 u4) := Lib.hid ⟨by
        have h := h4.1
        rw [HST9.out, show ns ++ vsN s = ((ns ++ [s.life, s.p0, s.p1, s.p2, s.p3, s.lib, s.hand] ++ obsN s.fld) ++ obsN s.grv) ++ [tf s.emp, tf s.ply, tf s.kpt, s.mul, s.act] by simp only [vsN, List.append_assoc]]
        exact h, h4.2⟩
      clear h4 hgS
      go_wp2_with fail
      go_roundw
      case rel => exact ⟨j + 1, q4, g4, c4, by have := HJ.out; omega, by go_num, rfl, HI4⟩
      case measure => simp [intOf]; have := HJ.out; omega
    · have HJ2 : Hid (j = 2) := Lib.hid (by omega)
      have hjd : decide ((j : Int) < 2) = false := decide_eq_false (by omega)
      have HX4 : Hid (XOwns wr w1.heap.size 3 1 (some ⟨g, 0, none⟩) q c (ics (nsJ who v 2)) ∧ Below w1.heap.size w1 wr) := Lib.hid (by rw [← HJ2.out]; exact HI.out)
      have HQ4 : Hid (q ≤ 24029) := Lib.hid (by have := HX4.out.1.qlen; have := nsJ_len HF0.out (Nat.le_refl 2); omega)
      obtain ⟨ns, hns⟩ : ∃ x, nsJ who v 2 = x := ⟨_, rfl⟩
      have HNS := Lib.hid hns
      rw [hns] at HX4
      have c29 : wr.cell? ⟨gX, 29, none⟩ = some (.slice HA hd.length Hc) := ((HK1.out.below HX4.out.2 HK1.out.lt).at_ 29).trans (by rw [← HVC.out]; rfl)
      have HCA := Lib.hid (rfobjs_any wr hd hd.length Hc HA (HH1.out.below HX4.out.2) rfl HF0.out.lH)
      clear hns HI hj hj2
      go_wp2_with fail
      refine HCA.out.mono ?_
      rintro e w5 ⟨gA, cA, rfl, hx5, hb5⟩
      have HX5 := Lib.hid (HX4.out.1.below hb5)
      have HF5 := Lib.hid (below_call HX4.out.2 hb5 HX4.out.2.size)
      have HA5 := Lib.hid hx5.reads
      have HLH : Hid ((obsN hd).length ≤ 6001 ∧ 0 < (obsN hd).length) := Lib.hid (by rw [obsN_len]; have := HF0.out.lH; omega)
      clear hx5 hb5 c29 HCA
      go_wp2_with (first
        | (at_builtin; refine append_i (w := w5) rfl (.tmp 65) (.tmp 68) rfl w1.heap.size (some ⟨g, 0, none⟩) q c ns rfl HX5.out (some ⟨gA, 0, none⟩) (obsN hd).length cA (obsN hd) rfl HA5.out HLH.out.2 (by have := HQ4.out; have := HLH.out.1; omega) HF5.out.size ?_; intro g6 c6 w6 ho6 hg6 hb6; simp only [Act.put, List.setIfInBounds_toArray, List.set_cons_succ, List.set_cons_zero])
        | fail)
      have HX6 := Lib.hid ho6
      have HF6 := Lib.hid (HF5.out.trans hb6)
      have HK6 : Hid (∀ (k : Nat) (x : Value), (vwc who (v.v0.cells pm.m0) (v.v1.cells pm.m1) (.slice HA hd.length Hc) (v.tail pm)).toArray[k]? = some x → VC[k]? = some x) := Lib.hid (fun k x h => by rw [← HVC.out]; exact h)
      clear ho6 hg6 hb6
      refine rfl_r10 w1 w6 g6 (q + (obsN hd).length) c6 _ HX6.out HF6.out (by have := HQ4.out; have := HLH.out.1; omega) gX VC HK1.out v pm HT1.out.S HT1.out.Q HF0.out.S4 HF0.out.Q4 HF0.out.lS HF0.out.lQ (HK6.out _ _ rfl) (HK6.out _ _ rfl) _ _ _ _ _ _ _ _ _ _ _ _ _ _ _ _ _ _ _ _ _ _ _ _ _ _ _ _ _ _ _ _ _ _ _ _ _ _ _ _ _ _ _ _ _ _ _ _ _ _ _ _ _ _ _ _ _ _ _ _ _ _ _ _ _ _ _ _ _ _ _ _ _ _ _ _ _ _ _ _ _ _ _ _ _ _ _ _ _ _ _ _ _ _ _ _ _ _ _ _ _ _ _ _ _ _ _ _ _ _ _ _ _ _ _ _ _ _ _ _ _ _ _ _ _ _ _ _ _ _ _ _ _ _ _ _ _ _ _ _ _ _ _ _ _ _ _ _ _ _ _ _ _ _ _ _ _ _ _ _ _ ?_ ?_
      · exact fun d _ _ _ _ h => by cases d <;> exact h
      intro v70 v71 v72 v73 v74 v75 v76 v77 v78 g7 q7 c7 w7 h7
      have HX7 := Lib.hid h7
      have HQ7 : Hid (q7 ≤ 40000) := Lib.hid (by
        have h1 := h7.1.qlen
        have h2 := HX6.out.qlen
        have h3 := itsN_len' HF0.out.S4
        have h4 := itsN_len' HF0.out.Q4
        have h5 := HF0.out.lS
        have h6 := HF0.out.lQ
        have h8 := HQ4.out
        have h9 := HLH.out.1
        rw [List.length_append, List.length_append, h2] at h1
        omega)
      clear h7
      go_wp2_with fail
      refine rfl_r11 w1 w7 g7 q7 c7 _ HX7.out.1 HX7.out.2 (by have := HQ7.out; omega) gX VC HK1.out v pm HT1.out.AT HF0.out.lA (HK6.out _ _ rfl) (HK6.out _ _ rfl) _ _ _ _ _ _ _ _ _ _ _ _ _ _ _ _ _ _ _ _ _ _ _ _ _ _ _ _ _ _ _ _ _ _ _ _ _ _ _ _ _ _ _ _ _ _ _ _ _ _ _ _ _ _ _ _ _ _ _ _ _ _ _ _ _ _ _ _ _ _ _ _ _ _ _ _ _ _ _ _ _ _ _ _ _ _ _ _ _ _ _ _ _ _ _ _ _ _ _ _ _ _ _ _ _ _ _ _ _ _ _ _ _ _ _ _ _ _ _ _ _ _ _ _ _ _ _ _ _ _ _ _ _ _ _ _ _ _ _ _ _ _ _ _ _ _ _ _ _ _ _ _ _ _ _ _ _ _ _ _ _ ?_ ?_
      · exact fun d _ _ _ _ h => by cases d <;> exact h
      intro v79 v80 v81 v82 v83 v84 v85 v86 v87 v88 g8 q8 c8 w8 h8
      obtain ⟨nb, hnb⟩ : ∃ x, v.blk.length = x := ⟨_, rfl⟩
      have HNB := Lib.hid hnb
      have HNK : Hid (nb ≤ 500) := Lib.hid (by rw [← hnb]; exact HF0.out.lK)
      obtain ⟨⟨KA, Kc⟩, hK⟩ : ∃ x, pm.BK = x := ⟨_, rfl⟩
      have HC33 : Hid (VC[33]? = some (.slice KA nb Kc)) := Lib.hid (by have h := HK6.out 33 (.slice pm.BK.A v.blk.length pm.BK.c) rfl; rw [hK, hnb] at h; exact h)
      have HKR : Hid (Reads w1 2 KA nb (bcs v.blk)) := Lib.hid (by have h := HT1.out.BK.row; rw [hK, hnb] at h; exact h)
      obtain ⟨l8, hl8⟩ : ∃ x, (ns ++ obsN hd ++ itsN v.stk ++ itsN v.que) ++ intsN v.att ++ [(v.blk.length : Int)] = x := ⟨_, rfl⟩
      have HL8 := Lib.hid hl8
      rw [hl8] at h8
      have HF8 : Hid (q8 ≤ 41000 + 2 * 0 ∧ XOwns w8 w1.heap.size 3 1 (some ⟨g8, 0, none⟩) q8 c8 (ics (l8 ++ (v.blk.take 0).flatMap bkN)) ∧ Below w1.heap.size w1 w8) := Lib.hid ⟨by
        have h1 := h8.1.qlen
        have h2 := HX7.out.1.qlen
        have h3 := HF0.out.lA
        have h4 := HQ7.out
        rw [← hl8, List.length_append, List.length_append, h2] at h1
        simp only [intsN, List.length_cons, List.length_nil] at h1
        omega, by rw [List.take_zero, List.flatMap_nil, List.append_nil]; exact h8.1, h8.2⟩
      clear h8 hnb hK hl8
      go_wp2_with fail
      go_loopw [3, 6] (fun a i W => ∃ (k q g c : Nat), k ≤ nb ∧ i = .int .i64 k ∧ a = .slice (some ⟨g, 0, none⟩) q c ∧ Hid (q ≤ 41000 + 2 * k ∧ XOwns W w1.heap.size 3 1 (some ⟨g, 0, none⟩) q c (ics (l8 ++ (v.blk.take k).flatMap bkN)) ∧ Below w1.heap.size w1 W)) (fun _ i _ => nb - (intOf i).toNat)
      case atStart => exact ⟨0, q8, g8, c8, Nat.zero_le _, rfl, rfl, HF8⟩
      case round =>
        obtain ⟨k, q, g, c, hk, rfl, rfl, HJ⟩ := hrel
        clear HF8
        have d33 : wr.cell? ⟨gX, 33, none⟩ = some (.slice KA nb Kc) := ((HK1.out.below HJ.out.2.2 HK1.out.lt).at_ 33).trans HC33.out
        by_cases hkn : k < nb
        · have hkn' : (k : Int) < nb := by omega
          have HKN := Lib.hid hkn
          have hnb5 := HNK.out
          obtain ⟨x, hx⟩ := get_of (l := v.blk) (k := k) (by rw [HNB.out]; exact hkn)
          obtain ⟨ad, hA, hadl, e0, e1⟩ := blk_at HKR.out hx hkn
          subst hA
          have HSJ := Lib.hid (show l8 ++ (v.blk.take (k + 1)).flatMap bkN = (l8 ++ (v.blk.take k).flatMap bkN) ++ bkN x by rw [flatMap_snoc hx, List.append_assoc])
          have HC := Lib.hid (And.intro hadl (And.intro e0 e1))
          clear hx hadl e0 e1 hkn hk
          go_wp2_with fail
          refine rfl_r15 w1 wr g q c _ HJ.out.2.1 HJ.out.2.2 (by have := HJ.out.1; have := HNK.out; have := HKN.out; omega) gX VC HK1.out nb Kc k ad x HC33.out HC.out.1 HC.out.2.1 HC.out.2.2 hkn' _ _ _ _ _ _ _ _ _ _ _ _ _ _ _ _ _ _ _ _ _ _ _ _ _ _ _ _ _ _ _ _ _ _ _ _ _ _ _ _ _ _ _ _ _ _ _ _ _ _ _ _ _ _ _ _ _ _ _ _ _ _ _ _ _ _ _ _ _ _ _ _ _ _ _ _ _ _ _ _ _ _ _ _ _ _ _ _ _ _ _ _ _ _ _ _ _ _ _ _ _ _ _ _ _ _ _ _ _ _ _ _ _ _ _ _ _ _ _ _ _ _ _ _ _ _ _ _ _ _ _ _ _ _ _ _ _ _ _ _ _ _ _ _ _ _ _ _ _ _ _ _ _ _ _ _ _ _ _ _ ?_ ?_
          · exact fun d _ _ _ _ h => by cases d <;> exact h
          intro v96 v97 v98 v99 v100 v101 v102 v103 v104 v105 v106 v107 v108 v109 v110 g9 q9 c9 w9 h9
          have HI9 : Hid (q9 ≤ 41000 + 2 * (k + 1) ∧ XOwns w9 w1.heap.size 3 1 (some ⟨g9, 0, none⟩) q9 c9 (ics (l8 ++ (v.blk.take (k + 1)).flatMap bkN)) ∧ Below w1.heap.size w1 w9) := Lib.hid ⟨by
            have h1 := h9.1.qlen
            have h2 := HJ.out.2.1.qlen
            have h3 := HJ.out.1
            rw [List.length_append, h2] at h1
            simp only [bkN, List.length_cons, List.length_nil] at h1
            omega, by rw [HSJ.out]; exact h9.1, h9.2⟩
          clear h9 d33
          go_wp2_with fail
          go_roundw
          case rel => exact ⟨k + 1, q9, g9, c9, HKN.out, by go_num, rfl, HI9⟩
          case measure => simp [intOf]; have := HKN.out; omega
        · have HKE : Hid (k = nb) := Lib.hid (by omega)
          have hkd : decide ((k : Int) < nb) = false := decide_eq_false (by omega)
          have HX9 : Hid (q ≤ 42000 ∧ XOwns wr w1.heap.size 3 1 (some ⟨g, 0, none⟩) q c (ics (l8 ++ v.blk.flatMap bkN)) ∧ Below w1.heap.size w1 wr) := Lib.hid ⟨by have := HJ.out.1; have := HNK.out; have := HKE.out; omega, by
            have h := HJ.out.2.1
            rw [List.take_of_length_le (by rw [HNB.out, HKE.out]; exact Nat.le_refl _)] at h
            exact h, HJ.out.2.2⟩
          have HK9 : Hid (Blk wr gX 98 VC) := Lib.hid (HK1.out.below HJ.out.2.2 HK1.out.lt)
          obtain ⟨u1, hu1⟩ : ∃ x, wr.alloc (.cells #[.int .i64 v.turn, .int .i64 v.actv, .int .i64 v.phs, .int .i64 v.hold, .int .i64 v.pas, .int .i64 (-1), .int .i64 0, .int .i64 0, .int .i64 0] 3) = x := ⟨_, rfl⟩
          have hb1 : Below wr.heap.size wr u1 := by rw [← hu1]; exact (Below.refl _ _).alloc (Nat.le_refl _) _
          have HL1 : Hid (Blk u1 wr.heap.size 3 #[.int .i64 v.turn, .int .i64 v.actv, .int .i64 v.phs, .int .i64 v.hold, .int .i64 v.pas, .int .i64 (-1), .int .i64 0, .int .i64 0, .int .i64 0]) := Lib.hid (by rw [← hu1]; exact Blk.mk_ _ _ _ _ rfl)
          have HX1 := Lib.hid (HX9.out.2.1.below hb1)
          have HF1 := Lib.hid (below_call HX9.out.2.2 hb1 HX9.out.2.2.size)
          have HK10 := Lib.hid (HK9.out.call hb1)
          have d34 : wr.cell? ⟨gX, 34, none⟩ = some (.int .i64 v.turn) := (HK9.out.at_ 34).trans (HK6.out _ _ rfl)
          have d35 : wr.cell? ⟨gX, 35, none⟩ = some (.int .i64 v.actv) := (HK9.out.at_ 35).trans (HK6.out _ _ rfl)
          have d36 : wr.cell? ⟨gX, 36, none⟩ = some (.int .i64 v.phs) := (HK9.out.at_ 36).trans (HK6.out _ _ rfl)
          have d37 : wr.cell? ⟨gX, 37, none⟩ = some (.int .i64 v.hold) := (HK9.out.at_ 37).trans (HK6.out _ _ rfl)
          have d38 : wr.cell? ⟨gX, 38, none⟩ = some (.int .i64 v.pas) := (HK9.out.at_ 38).trans (HK6.out _ _ rfl)
          have d39 : wr.cell? ⟨gX, 39, none⟩ = some (.int .i64 (-1)) := (HK9.out.at_ 39).trans (HK6.out _ _ rfl)
          have d40 : wr.cell? ⟨gX, 40, none⟩ = some (.int .i64 0) := (HK9.out.at_ 40).trans (HK6.out _ _ rfl)
          have d41 : wr.cell? ⟨gX, 41, none⟩ = some (.int .i64 0) := (HK9.out.at_ 41).trans (HK6.out _ _ rfl)
          have d42 : wr.cell? ⟨gX, 42, none⟩ = some (.slice none 0 0) := (HK9.out.at_ 42).trans (HK6.out _ _ rfl)
          clear hb1 HJ hk
          go_wp2_with (first
            | (at_builtin; refine append_i (w := u1) rfl (.tmp 111) (.tmp 131) rfl w1.heap.size (some ⟨g, 0, none⟩) q c (l8 ++ v.blk.flatMap bkN) rfl HX1.out (some ⟨wr.heap.size, 0, none⟩) 9 9 [v.turn, v.actv, v.phs, v.hold, v.pas, -1, 0, 0, 0] rfl (reads_block HL1.out 1 9 rfl) (by decide) (by have := HX9.out.1; omega) HF1.out.size ?_; intro g2 c2 u2 ho2 hg2 hb2; simp only [Act.put, List.setIfInBounds_toArray, List.set_cons_succ, List.set_cons_zero])
            | fail)
          have HX2 := Lib.hid ho2
          have HF2 := Lib.hid (HF1.out.trans hb2)
          have HK2 := Lib.hid (HK10.out.over HX1.out hg2 (by decide))
          clear ho2 hg2 hb2 hu1 d34 d35 d36 d37 d38 d39 d40 d41 d42
          go_wp2_with fail
          go_loopw [3, 7] (fun a i W => a = .slice (some ⟨g2, 0, none⟩) (q + 9) c2 ∧ i = .int .i64 0 ∧ W = u2) (fun _ _ _ => 0)
          case atStart => exact ⟨rfl, rfl, rfl⟩
          case round =>
            obtain ⟨rfl, rfl, rfl⟩ := hrel
            have d42 : wr.cell? ⟨gX, 42, none⟩ = some (.slice none 0 0) := (HK2.out.at_ 42).trans (HK6.out _ _ rfl)
            go_wp2_with fail
            go_ret
            unfold NumEnd
            have hfin : vwN who v hd = (l8 ++ v.blk.flatMap bkN) ++ [v.turn, v.actv, v.phs, v.hold, v.pas, -1, 0, 0, 0] := by
              rw [← HL8.out, ← HNS.out]
              simp only [vwN, nsJ, intsN, List.append_assoc, List.cons_append, List.nil_append, List.singleton_append]
            rw [hfin, HX2.out.qlen]
            exact ⟨g2, c2, rfl, HX2.out.more HB1.out.size, HB1.out.trans (HF2.out.mono HB1.out.size)⟩

theorem bequal_any (A B : Option Addr) (n c n' c' : Nat) (xs ys : List Int) (w : World) (hx : BReads w A n xs) (hy : BReads w B n' ys) :
    Calls Tryz.prog 105 #[.slice A n c, .slice B n' c'] w fun e w' => e = .returned (.bool (xs == ys)) ∧ w = w' := by
  have h1 := convert_bytes (P := Tryz.prog) hx c 161 5 Tryz.underlying161 Tryz.underlying5 9 Tryz.underlying9
  have h2 := convert_bytes (P := Tryz.prog) hy c' 161 5 Tryz.underlying161 Tryz.underlying5 9 Tryz.underlying9
  have h3 := Lib.hid (str_inj hx.2 hy.2)
  go_enter Tryz.func105, Tryz.ntmps105
  go_wp2
  go_ret
  exact ⟨by rw [← h3.out]; rfl, rfl⟩
theorem vsN_wf {s : Vs} (h : VsF s) : ∀ z ∈ vsN s, wfI z := by
  intro z hz
  unfold vsN at hz
  rcases List.mem_append.1 hz with hz | hz
  · exact h.n z (by simp only [List.mem_cons, List.not_mem_nil, or_false] at hz ⊢; rcases hz with h | h | h | h | h | h | h <;> simp [h])
  rcases List.mem_append.1 hz with hz | hz
  · exact obsN_wf h.F h.lF z hz
  rcases List.mem_append.1 hz with hz | hz
  · exact obsN_wf h.G h.lG z hz
  simp only [List.mem_cons, List.not_mem_nil, or_false] at hz
  rcases hz with e | e | e | e | e
  · rw [e]; exact tf_wf _
  · rw [e]; exact tf_wf _
  · rw [e]; exact tf_wf _
  · exact h.n z (by simp [e])
  · exact h.n z (by simp [e])
theorem vwN_wf {who : Int} {v : Pu} {hd : List Ob} (h : VwF who v hd) : ∀ z ∈ vwN who v hd, wfI z := by
  intro z hz
  unfold vwN at hz
  rcases List.mem_cons.1 hz with hz | hz
  · rw [hz]; exact h.who
  rcases List.mem_append.1 hz with hz | hz
  · exact vsN_wf h.s0 z hz
  rcases List.mem_append.1 hz with hz | hz
  · exact vsN_wf h.s1 z hz
  rcases List.mem_append.1 hz with hz | hz
  · exact obsN_wf h.H h.lH z hz
  rcases List.mem_append.1 hz with hz | hz
  · exact itsN_wf h.S h.lS z hz
  rcases List.mem_append.1 hz with hz | hz
  · exact itsN_wf h.Q h.lQ z hz
  rcases List.mem_cons.1 hz with hz | hz
  · rw [hz]; exact wf_nat (by have := h.lA; omega)
  rcases List.mem_append.1 hz with hz | hz
  · exact h.A z hz
  rcases List.mem_cons.1 hz with hz | hz
  · rw [hz]; exact wf_nat (by have := h.lK; omega)
  rcases List.mem_append.1 hz with hz | hz
  · obtain ⟨x, hx, hz⟩ := List.mem_flatMap.1 hz
    exact h.K x hx z hz
  simp only [List.mem_cons, List.not_mem_nil, or_false] at hz
  rcases hz with e | e | e | e | e | e | e | e | e <;> first | (rw [e]; unfold wfI; decide) | (rw [e]; exact h.t _ (by simp))
theorem vis_eq {a b : List Int} (ha : ∀ z ∈ a, wfI z) (hb : ∀ z ∈ b, wfI z) : (vis a == vis b) = decide (a = b) := by
  by_cases h : a = b
  · subst h
    simp
  · rw [decide_eq_false h]
    rw [beq_eq_false_iff_ne]
    exact fun e => h (vis_inj ha hb e)
set_option maxRecDepth 100000 in
set_option maxHeartbeats 3200000 in
theorem vequal_any (w : World) (who who' : Int) (v v' : Pu) (hd hd' : List Ob) (pm pm' : PuM) (HA HA' : Option Addr) (Hc Hc' : Nat) (hF : VwF who v hd) (hF' : VwF who' v' hd') (hT : VwT w v hd pm HA) (hT' : VwT w v' hd' pm' HA') :
    Calls Tryz.prog 73 #[.agg (vwc who (v.v0.cells pm.m0) (v.v1.cells pm.m1) (.slice HA hd.length Hc) (v.tail pm)).toArray, .agg (vwc who' (v'.v0.cells pm'.m0) (v'.v1.cells pm'.m1) (.slice HA' hd'.length Hc') (v'.tail pm')).toArray] w fun e w' => e = .returned (.bool (decide (vwN who v hd = vwN who' v' hd'))) ∧ Below w.heap.size w w' := by
  have HE := Lib.hid (vis_eq (vwN_wf hF) (vwN_wf hF'))
  obtain ⟨gX, hgX⟩ : ∃ x, w.heap.size = x := ⟨_, rfl⟩
  have hl1 : (vwc who (v.v0.cells pm.m0) (v.v1.cells pm.m1) (.slice HA hd.length Hc) (v.tail pm)).length = 43 := rfl
  have hl2 : (vwc who' (v'.v0.cells pm'.m0) (v'.v1.cells pm'.m1) (.slice HA' hd'.length Hc') (v'.tail pm')).length = 43 := rfl
  obtain ⟨VA, hVA⟩ : ∃ x, vwc who (v.v0.cells pm.m0) (v.v1.cells pm.m1) (.slice HA hd.length Hc) (v.tail pm) = x := ⟨_, rfl⟩
  obtain ⟨VB, hVB⟩ : ∃ x, vwc who' (v'.v0.cells pm'.m0) (v'.v1.cells pm'.m1) (.slice HA' hd'.length Hc') (v'.tail pm') = x := ⟨_, rfl⟩
  rw [hVA] at hl1 ⊢
  rw [hVB] at hl2 ⊢
  obtain ⟨w4, hw4⟩ : ∃ x, (((w.alloc (.cells VA.toArray 98)).alloc (.cells VB.toArray 98)).alloc (.cells #[.slice none 0 0, .bool false] 163)).alloc (.cells #[.slice none 0 0, .bool false] 163) = x := ⟨_, rfl⟩
  have hb4 : Below w.heap.size w w4 := by rw [← hw4]; exact ((((Below.refl _ _).alloc (Nat.le_refl _) _).alloc (by simp) _).alloc (by simp; omega) _).alloc (by simp; omega) _
  have HKA : Hid (Blk w4 gX 98 VA.toArray) := Lib.hid (by rw [← hw4]; exact (((Blk.mk_ w _ _ _ hgX).alloc _).alloc _).alloc _)
  have HKB : Hid (Blk w4 (gX + 1) 98 VB.toArray) := Lib.hid (by rw [← hw4]; exact ((Blk.mk_ _ _ _ _ (by simp [hgX])).alloc _).alloc _)
  have HPX : Hid (Blk w4 (gX + 2) 163 #[.slice none 0 0, .bool false]) := Lib.hid (by rw [← hw4]; exact (Blk.mk_ _ _ _ _ (by simp [hgX])).alloc _)
  have HPY : Hid (Blk w4 (gX + 3) 163 #[.slice none 0 0, .bool false]) := Lib.hid (by rw [← hw4]; exact Blk.mk_ _ _ _ _ (by simp [hgX]))
  have HNEW : Hid (∀ (W : World) (p : Nat), Blk W p 163 #[.slice none 0 0, .bool false] → WrK W p [] ∧ ∀ j, ¬ OwnB W p j) := Lib.hid (fun W p h => ⟨⟨⟨_, _, _, _, h, BOwns.nil _ _ _⟩, fun x hx => by cases hx⟩, fun j hj => by
    obtain ⟨ad, n, c, h1, _⟩ := hj
    have h2 : W.cell? ⟨p, 0, none⟩ = some (.slice none 0 0) := (h.at_ 0).trans rfl
    rw [h2] at h1
    cases h1⟩)
  have HLD : Hid (∀ (W : World) (g : Nat) (L : List Value), L.length = 43 → Blk W g 98 L.toArray → (Instr.loadAt 98 (.pointer (some ⟨g, 0, none⟩))).run Tryz.prog W = .ok (.agg L.toArray) W) := Lib.hid (fun W g L hl h => h.mid L _ (fun j v hj => by rw [Nat.zero_add]; simpa using hj) Tryz.underlying98 rfl (by rw [size_view, hl]))
  have HLA := Lib.hid (HLD.out w4 gX VA hl1 HKA.out)
  have HCA : Hid (Calls Tryz.prog 104 #[.pointer (some ⟨gX + 2, 0, none⟩), .agg VA.toArray] w4 (WrEnd (gX + 2) (vwN who v hd) w4)) := Lib.hid (by rw [← hVA]; exact wview_any w4 (gX + 2) who v hd pm HA Hc (HNEW.out _ _ HPX.out).1 hF (hT.call hb4))
  have HTB := Lib.hid (hT'.call hb4)
  have HFB := Lib.hid hF'
  have HVB := Lib.hid hVB
  have HL2 := Lib.hid hl2
  have HB4 := Lib.hid hb4
  have HGX := Lib.hid hgX
  clear hF hF' hT hT' hb4 hVA hVB hl1 hl2
  go_enter Tryz.func73, Tryz.ntmps73
  go_wp2_with (first
    | (refine wpList_load_by HLA.out rfl rfl rfl ?_; simp only [Act.put, List.setIfInBounds_toArray, List.set_cons_succ, List.set_cons_zero])
    | (go_at_call 104; fail)
    | fail)
  refine HCA.out.mono ?_
  rintro e w5 ⟨rfl, hx5, hf5⟩
  have HX5 := Lib.hid hx5
  have hkx := (HNEW.out _ _ HPX.out).1
  have hno := (HNEW.out _ _ HPX.out).2
  have HKB5 := Lib.hid (HKB.out.wfk hf5 hkx (by decide))
  have HPY5 := Lib.hid (HPY.out.onlyF hf5.o (by
    rintro (h | h)
    · omega
    · exact hno _ h))
  have HTB5 := Lib.hid (HTB.out.wfk hf5 hkx)
  have HB5 := Lib.hid (HB4.out.trans (hf5.o.below HB4.out.size (fun i hi => by
    rcases hi with h | h
    · have := HGX.out; omega
    · exact absurd h (hno i))))
  have HLB := Lib.hid (HLD.out w5 (gX + 1) VB HL2.out HKB5.out)
  have HCB : Hid (Calls Tryz.prog 104 #[.pointer (some ⟨gX + 3, 0, none⟩), .agg VB.toArray] w5 (WrEnd (gX + 3) (vwN who' v' hd') w5)) := Lib.hid (by rw [← HVB.out]; exact wview_any w5 (gX + 3) who' v' hd' pm' HA' Hc' (HNEW.out _ _ HPY5.out).1 HFB.out HTB5.out)
  clear hx5 hf5 hkx hno HCA HLA hw4
  go_wp2_with (first
    | (refine wpList_load_by HLB.out rfl rfl rfl ?_; simp only [Act.put, List.setIfInBounds_toArray, List.set_cons_succ, List.set_cons_zero])
    | fail)
  refine HCB.out.mono ?_
  rintro e w6 ⟨rfl, hy6, hf6⟩
  have hno := (HNEW.out _ _ HPY5.out).2
  obtain ⟨A1, n1, c1, b1, hp1, ho1⟩ := HX5.out
  obtain ⟨A2, n2, c2, b2, hp2, ho2⟩ := hy6
  have hnF : ∀ i, i ≠ gX + 3 → ¬ (i = gX + 3 ∨ OwnB w5 (gX + 3) i) := fun i h1 h2 => by
    rcases h2 with h2 | h2
    · exact h1 h2
    · exact hno i h2
  have hp1' := hp1.onlyF hf6.o (hnF _ (by omega))
  have ho1' : BOwns w6 0 5 A1 n1 c1 (vis (vwN who v hd)) := (ho1.x.onlyF hf6.o (fun i hi => hnF i (fun e => by
    subst e
    exact ho1.x.apart_blk HPY5.out (by decide) hi))).b ho1.2.1
  have HB6 := Lib.hid (HB5.out.trans (hf6.o.below HB5.out.size (fun i hi => by
    rcases hi with h | h
    · have := HGX.out; omega
    · exact absurd h (hno i))))
  have c1x : w6.cell? ⟨gX + 2, 0, none⟩ = some (.slice A1 n1 c1) := (hp1'.at_ 0).trans rfl
  have c2x : w6.cell? ⟨gX + 3, 0, none⟩ = some (.slice A2 n2 c2) := (hp2.at_ 0).trans rfl
  have HBQ := Lib.hid (bequal_any A1 A2 n1 c1 n2 c2 _ _ w6 ho1'.reads ho2.reads)
  clear hp1 hp2 ho1 ho2 hp1' ho1' hf6 hno hnF HCB HLB
  go_wp2_with (first
    | (go_at_call 105; refine HBQ.out.mono ?_; rintro e w_ ⟨rfl, rfl⟩)
    | fail)
  go_ret
  exact ⟨by rw [← HE.out]; rfl, HB6.out⟩
end Go.Proofs.YtagpphelgghbpaaGreat
