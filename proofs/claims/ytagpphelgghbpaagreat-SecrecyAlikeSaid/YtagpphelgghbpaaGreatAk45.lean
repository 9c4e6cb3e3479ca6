/-
  Texts: Rog.
-/
import Derived.Test.YtagpphelgghbpaaGreatAk44
set_option linter.unusedSimpArgs false
set_option linter.unusedVariables false
namespace Go.Proofs.YtagpphelgghbpaaGreat
open Go.RowKit

theorem built_rof (SA QA AA KA : Option Addr) (ns Sc nq Qc na Ac nk Kc : Nat) (k turn actv phs hold pas : Int) : Tryz.prog.built 98 [(0, Value.int .i64 k), (3, .slice SA ns Sc), (4, .slice QA nq Qc), (5, .slice AA na Ac), (6, .slice KA nk Kc), (7, .int .i64 turn), (8, .int .i64 actv), (9, .int .i64 phs), (10, .int .i64 hold), (11, .int .i64 pas), (12, .int .i64 (-1))] = some (vwc k zvs zvs (.slice none 0 0) [Value.slice SA ns Sc, .slice QA nq Qc, .slice AA na Ac, .slice KA nk Kc, .int .i64 turn, .int .i64 actv, .int .i64 phs, .int .i64 hold, .int .i64 pas]).toArray := by kernel_rfl
theorem one_rof (SA QA AA KA : Option Addr) (ns Sc nq Qc na Ac nk Kc : Nat) (k turn actv phs hold pas : Int) : ∀ u ∈ vwc k zvs zvs (.slice none 0 0) [Value.slice SA ns Sc, .slice QA nq Qc, .slice AA na Ac, .slice KA nk Kc, .int .i64 turn, .int .i64 actv, .int .i64 phs, .int .i64 hold, .int .i64 pas], u.oneCell' = true := by
  intro u hu
  simp only [vwc, zvs, List.mem_cons, List.mem_append, List.not_mem_nil, or_false] at hu
  rcases hu with rfl | ((rfl | rfl | rfl | rfl | rfl | rfl | rfl | rfl | rfl | rfl | rfl | rfl | rfl | rfl) | ((rfl | rfl | rfl | rfl | rfl | rfl | rfl | rfl | rfl | rfl | rfl | rfl | rfl | rfl) | (rfl | ((rfl | rfl | rfl | rfl | rfl | rfl | rfl | rfl | rfl) | (rfl | rfl | rfl | rfl))))) <;> rfl
def RofEnd (b : Bd) (k : Nat) (w : World) (e : Ending) (w' : World) : Prop := ∃ (pm : PuM) (HA : Option Addr) (Hc : Nat), e = .returned (.agg (vwf b k pm.m0 pm.m1 (.slice HA (seN b k).hand.length Hc) ((puOf b).tail pm)).toArray) ∧ PuR w' (puOf b) pm ∧ Reads w' 12 HA (seN b k).hand.length (ocs ((seN b k).hand.map (obI b.objs))) ∧ Below w.heap.size w w'
theorem VsO.r {W : World} {B : Nat} {v : Vs} {m : VsM} (h : VsO W B v m) : VsR W v m := ⟨⟨h.1.reads, h.1.okS⟩, ⟨h.2.reads, h.2.okS⟩⟩
structure RoS (w : World) (b : Bd) (cs : Array Value) (g : Nat) (who : Int) (hv : Value) (tl : List Value) (j : Nat) (c0 c1 : List Value) (W : World) : Prop where
  C : RoC w cs W
  G : Blk W g 98 (vwc who c0 c1 hv tl).toArray
  l0 : c0.length = 14
  l1 : c1.length = 14
  v0 : 1 ≤ j → ∃ x0, c0 = (puOf b).v0.cells x0 ∧ VsO W w.heap.size (puOf b).v0 x0
  v1 : 2 ≤ j → ∃ x1, c1 = (puOf b).v1.cells x1 ∧ VsO W w.heap.size (puOf b).v1 x1
  N : w.heap.size + 2 < g
theorem RoS.below {w : World} {b : Bd} {cs : Array Value} {g : Nat} {who : Int} {hv : Value} {tl : List Value} {j : Nat} {c0 c1 : List Value} {W W' : World} (h : RoS w b cs g who hv tl j c0 c1 W) (hb : Below W.heap.size W W') : RoS w b cs g who hv tl j c0 c1 W' :=
  ⟨h.C.below hb, h.G.call hb, h.l0, h.l1, fun h1 => (h.v0 h1).imp fun _ h => ⟨h.1, h.2.below hb⟩, fun h1 => (h.v1 h1).imp fun _ h => ⟨h.1, h.2.below hb⟩, h.N⟩
set_option maxRecDepth 100000 in
set_option maxHeartbeats 3200000 in
theorem rof_any (b : Bd) (m : BdM) (w : World) (k : Nat) (hk : k < 2) (h : BdR w b m) (hv : b.Valid) :
    Calls Tryz.prog 41 #[.agg (b.cells m).toArray, .agg #[.int .i64 0, .int .i64 0, .slice none 0 0], .int .i64 k] w (RofEnd b k w) := by
  have HSM := Lib.hid (bd_sm hv)
  have HPL := Lib.hid hv.2.2.2.2.2.1
  have HR := Lib.hid h
  have HKK := Lib.hid hk
  obtain ⟨cs, hcs⟩ : ∃ cs, (b.cells m).toArray = cs := ⟨_, rfl⟩
  have HCS := Lib.hid hcs
  rw [hcs]
  obtain ⟨⟨SA, Sc⟩, hmS⟩ : ∃ x, m.S = x := ⟨_, rfl⟩
  obtain ⟨ns, hns⟩ : ∃ x, b.stk.length = x := ⟨_, rfl⟩
  obtain ⟨⟨QA, Qc⟩, hmQ⟩ : ∃ x, m.Q = x := ⟨_, rfl⟩
  obtain ⟨nq, hnq⟩ : ∃ x, b.que.length = x := ⟨_, rfl⟩
  obtain ⟨⟨AA, Ac⟩, hmA⟩ : ∃ x, m.AT = x := ⟨_, rfl⟩
  obtain ⟨na, hna⟩ : ∃ x, b.att.length = x := ⟨_, rfl⟩
  obtain ⟨⟨KA, Kc⟩, hmK⟩ : ∃ x, m.BK = x := ⟨_, rfl⟩
  obtain ⟨nk, hnk⟩ : ∃ x, b.blk.length = x := ⟨_, rfl⟩
  obtain ⟨turn, hturn⟩ : ∃ x, b.turn = x := ⟨_, rfl⟩
  obtain ⟨actv, hactv⟩ : ∃ x, b.actv = x := ⟨_, rfl⟩
  obtain ⟨phs, hphs⟩ : ∃ x, b.phs = x := ⟨_, rfl⟩
  obtain ⟨hold, hhold⟩ : ∃ x, b.hold = x := ⟨_, rfl⟩
  obtain ⟨pas, hpas⟩ : ∃ x, b.pas = x := ⟨_, rfl⟩
  have HTL : Hid ([m.S.v b.stk.length, m.Q.v b.que.length, m.AT.v b.att.length, m.BK.v b.blk.length, .int .i64 b.turn, .int .i64 b.actv, .int .i64 b.phs, .int .i64 b.hold, .int .i64 b.pas] = [Value.slice SA ns Sc, .slice QA nq Qc, .slice AA na Ac, .slice KA nk Kc, .int .i64 turn, .int .i64 actv, .int .i64 phs, .int .i64 hold, .int .i64 pas]) := Lib.hid (by rw [hmS, hmQ, hmA, hmK, hns, hnq, hna, hnk, hturn, hactv, hphs, hhold, hpas]; rfl)
  have E29 : Hid (cs[29]? = some (.slice SA ns Sc)) := Lib.hid (by rw [← hcs]; show some (m.S.v b.stk.length) = _; rw [hmS, hns]; rfl)
  have E30 : Hid (cs[30]? = some (.slice QA nq Qc)) := Lib.hid (by rw [← hcs]; show some (m.Q.v b.que.length) = _; rw [hmQ, hnq]; rfl)
  have E31 : Hid (cs[31]? = some (.slice AA na Ac)) := Lib.hid (by rw [← hcs]; show some (m.AT.v b.att.length) = _; rw [hmA, hna]; rfl)
  have E32 : Hid (cs[32]? = some (.slice KA nk Kc)) := Lib.hid (by rw [← hcs]; show some (m.BK.v b.blk.length) = _; rw [hmK, hnk]; rfl)
  have E33 : Hid (cs[33]? = some (.int .i64 turn)) := Lib.hid (by rw [← hcs, ← hturn]; rfl)
  have E34 : Hid (cs[34]? = some (.int .i64 actv)) := Lib.hid (by rw [← hcs, ← hactv]; rfl)
  have E35 : Hid (cs[35]? = some (.int .i64 phs)) := Lib.hid (by rw [← hcs, ← hphs]; rfl)
  have E36 : Hid (cs[36]? = some (.int .i64 hold)) := Lib.hid (by rw [← hcs, ← hhold]; rfl)
  have E37 : Hid (cs[37]? = some (.int .i64 pas)) := Lib.hid (by rw [← hcs, ← hpas]; rfl)
  obtain ⟨w2, hw2⟩ : ∃ w2, ((w.alloc (.cells cs 33)).alloc (.cells #[.int .i64 0, .int .i64 0, .slice none 0 0] 92)).alloc (.cells zvw 98) = w2 := ⟨_, rfl⟩
  have HC2 : Hid (RoC w cs w2) := Lib.hid ⟨by rw [← hw2]; exact ((Blk.mk_ w _ _ _ rfl).alloc _).alloc _, by rw [← hw2]; exact (Blk.mk_ _ _ _ _ (by simp)).alloc _, by rw [← hw2]; exact Blk.mk_ _ _ _ _ (by simp), by rw [← hw2]; exact (((Below.refl _ _).alloc (Nat.le_refl _) _).alloc (by simp) _).alloc (by simp; omega) _⟩
  have d29 : w2.cell? ⟨w.heap.size, 29, none⟩ = some (.slice SA ns Sc) := (HC2.out.box.at_ 29).trans E29.out
  have d30 : w2.cell? ⟨w.heap.size, 30, none⟩ = some (.slice QA nq Qc) := (HC2.out.box.at_ 30).trans E30.out
  have d31 : w2.cell? ⟨w.heap.size, 31, none⟩ = some (.slice AA na Ac) := (HC2.out.box.at_ 31).trans E31.out
  have d32 : w2.cell? ⟨w.heap.size, 32, none⟩ = some (.slice KA nk Kc) := (HC2.out.box.at_ 32).trans E32.out
  have d33 : w2.cell? ⟨w.heap.size, 33, none⟩ = some (.int .i64 turn) := (HC2.out.box.at_ 33).trans E33.out
  have d34 : w2.cell? ⟨w.heap.size, 34, none⟩ = some (.int .i64 actv) := (HC2.out.box.at_ 34).trans E34.out
  have d35 : w2.cell? ⟨w.heap.size, 35, none⟩ = some (.int .i64 phs) := (HC2.out.box.at_ 35).trans E35.out
  have d36 : w2.cell? ⟨w.heap.size, 36, none⟩ = some (.int .i64 hold) := (HC2.out.box.at_ 36).trans E36.out
  have d37 : w2.cell? ⟨w.heap.size, 37, none⟩ = some (.int .i64 pas) := (HC2.out.box.at_ 37).trans E37.out
  obtain ⟨g, hg⟩ : ∃ x, w2.heap.size = x := ⟨_, rfl⟩
  obtain ⟨VL, hVL⟩ : ∃ x, vwc (k : Int) zvs zvs (.slice none 0 0) [Value.slice SA ns Sc, .slice QA nq Qc, .slice AA na Ac, .slice KA nk Kc, .int .i64 turn, .int .i64 actv, .int .i64 phs, .int .i64 hold, .int .i64 pas] = x := ⟨_, rfl⟩
  have hvl : VL.length = 43 := by rw [← hVL]; rfl
  have hvo : ∀ u ∈ VL, u.oneCell' = true := by rw [← hVL]; exact one_rof _ _ _ _ _ _ _ _ _ _ _ _ _ _ _ _ _ _
  have HBU := Lib.hid (built_rof SA QA AA KA ns Sc nq Qc na Ac nk Kc k turn actv phs hold pas)
  rw [hVL] at HBU
  obtain ⟨w3, hst, hk3, hg3⟩ := (Blk.mk_ w2 98 zvw g hg).storeAll (ty := 98) VL (by rw [hvl]; rfl) (by rw [size_view, hvl]) hvo
  have hb3 : Below w2.heap.size w2 w3 := ((Below.refl _ _).alloc (Nat.le_refl _) _).grown hg3 (by simp) (fun q hq => by injection hq with hq; omega)
  have HF3 : Hid (RoS w b cs g k (.slice none 0 0) [Value.slice SA ns Sc, .slice QA nq Qc, .slice AA na Ac, .slice KA nk Kc, .int .i64 turn, .int .i64 actv, .int .i64 phs, .int .i64 hold, .int .i64 pas] 0 zvs zvs w3) := Lib.hid ⟨HC2.out.below hb3, by rw [hVL]; exact hk3, rfl, rfl, fun h => absurd h (by omega), fun h => absurd h (by omega), by have := HC2.out.res.lt; omega⟩
  unfold zvw at hst hw2
  have HST := Lib.hid hst
  clear h hv hcs hvl hvo hst hk3 hg3 hb3 hmS hmQ hmA hmK hns hnq hna hnk hturn hactv hphs hhold hpas hVL hk
  go_enter Tryz.func41, Tryz.ntmps41
  go_wp2_with (first
    | (refine wpList_op_by rfl (run_of_build (parts := #[(0, .tmp 10), (3, .tmp 12), (4, .tmp 14), (5, .tmp 16), (6, .tmp 18), (7, .tmp 20), (8, .tmp 22), (9, .tmp 24), (10, .tmp 26), (11, .tmp 28), (12, .const (.int .i64 (-1)))]) (parts' := #[(0, Value.int .i64 k), (3, .slice SA ns Sc), (4, .slice QA nq Qc), (5, .slice AA na Ac), (6, .slice KA nk Kc), (7, .int .i64 turn), (8, .int .i64 actv), (9, .int .i64 phs), (10, .int .i64 hold), (11, .int .i64 pas), (12, .int .i64 (-1))]) rfl (by first | rfl | simp [Act.eval]) HBU.out) ?_; simp only [Act.put, List.setIfInBounds_toArray, List.set_cons_succ, List.set_cons_zero])
    | (refine wpList_store_by HST.out rfl rfl rfl rfl ?_; simp only [Act.put, List.setIfInBounds_toArray, List.set_cons_succ, List.set_cons_zero])
    | fail)
  clear HST hw2 d29 d30 d31 d32 d33 d34 d35 d36 d37
  obtain ⟨tl, htl⟩ : ∃ x, [Value.slice SA ns Sc, .slice QA nq Qc, .slice AA na Ac, .slice KA nk Kc, .int .i64 turn, .int .i64 actv, .int .i64 phs, .int .i64 hold, .int .i64 pas] = x := ⟨_, rfl⟩
  rw [htl] at HF3 HTL
  go_loopw [8] (fun i W => ∃ (j : Nat) (c0 c1 : List Value), j ≤ 2 ∧ i = .int .i64 j ∧ Hid (RoS w b cs g k (.slice none 0 0) tl j c0 c1 W)) (fun i _ => 2 - (intOf i).toNat)
  case atStart => exact ⟨0, zvs, zvs, by omega, rfl, HF3⟩
  case round =>
    obtain ⟨j, c0, c1, hj, rfl, HF⟩ := hrel
    clear HF3
    by_cases hj2 : j < 2
    · have hj2' : (j : Int) < 2 := by omega
      have hj0 : decide ((j : Int) < 0) = false := decide_eq_false (by omega)
      have HJ := Lib.hid hj2
      have HLS : Hid ((Instr.loadAt 27 (.pointer (some ⟨w.heap.size, 1 + j * 14, none⟩))).run Tryz.prog wr = .ok (.agg ((seN b j).cells (smN m j)).toArray) wr) := Lib.hid (by
        have h := HF.out.C.box
        rw [← HCS.out] at h
        exact seat_load h hj2)
      obtain ⟨SC, hSC⟩ : ∃ v, ((seN b j).cells (smN m j)).toArray = v := ⟨_, rfl⟩
      rw [hSC] at HLS
      obtain ⟨gS, hgS⟩ : ∃ g, wr.heap.size = g := ⟨_, rfl⟩
      have hZ := Blk.mk_ wr 27 #[.int .i64 0, .int .i64 0, .int .i64 0, .int .i64 0, .int .i64 0, .slice none 0 0, .slice none 0 0, .slice none 0 0, .slice none 0 0, .bool false, .bool false, .bool false, .int .i64 0, .int .i64 0] gS hgS
      obtain ⟨W6, hst, hB6, hg6⟩ := hZ.storeAll (ty := 27) ((seN b j).cells (smN m j)) rfl (by rw [size_seat]; rfl) (one_se _ _)
      have hb6 : Below wr.heap.size wr W6 := ((Below.refl _ _).alloc (Nat.le_refl _) _).grown hg6 (by simp) (fun q hq => by injection hq with hq; omega)
      have HF6 := Lib.hid (HF.out.below hb6)
      have HNE : Hid (gS ≠ g) := Lib.hid (by have := HF.out.G.lt; omega)
      rw [hSC] at hst
      have HST := Lib.hid hst
      have HS6 := Lib.hid hB6
      clear hst hB6 hg6 hb6 hZ HF hSC
      go_wp2_with (first
        | (refine wpList_load_by HLS.out rfl rfl rfl ?_; simp only [Act.put, List.setIfInBounds_toArray, List.set_cons_succ, List.set_cons_zero])
        | (refine wpList_store_by HST.out rfl rfl rfl rfl ?_; simp only [Act.put, List.setIfInBounds_toArray, List.set_cons_succ, List.set_cons_zero])
        | fail)
      clear hj2 hj HST HLS
      rcases (show j = 0 ∨ j = 1 by have := HJ.out; omega) with h0 | h0
      · have hSS : Blk W6 gS 27 (b.s0.cells m.m0).toArray := by
          have h := HS6.out
          rw [show seN b j = b.s0 by rw [h0]; rfl, show smN m j = m.m0 by rw [h0]; rfl] at h
          exact h
        refine rof_seat0 j h0 w W6 b m cs HCS.out HR.out HPL.out HSM.out HF6.out.C g k c0 c1 tl _ HF6.out.l0 HF6.out.l1 HF6.out.G HF6.out.N gS HNE.out hSS _ _ _ _ _ _ _ _ _ _ _ _ _ _ _ _ _ _ _ _ _ _ _ _ _ _ _ _ _ _ _ _ _ _ _ _ _ _ _ _ _ _ _ _ _ _ _ _ _ _ _ _ _ _ _ _ _ _ _ _ _ _ _ _ _ _ _ _ _ _ _ _ _ _ _ _ _ _ _ _ _ _ _ _ _ _ _ _ _ _ _ _ _ _ _ _ _ _ _ _ _ ?_ ?_
        · exact fun d _ _ _ _ h => by cases d <;> exact h
        intro v38 v39 v40 v41 v42 v43 v44 v45 v46 v47 v48 v49 v50 v51 v52 v53 v54 v55 v56 v57 v58 v59 v60 v61 v62 v63 v64 v65 v66 v67 v68 v69 v' W9 h9
        have HF9 : Hid (RoS w b cs g k (.slice none 0 0) tl (j + 1) ((puOf b).v0.cells v') c1 W9) := Lib.hid ⟨h9.2.2, h9.2.1, rfl, HF6.out.l1, fun _ => ⟨v', rfl, h9.1⟩, fun h => absurd h (by omega), HF6.out.N⟩
        clear h9 hSS hgS h0
        go_wp2_with fail
        go_roundw
        case rel => exact ⟨j + 1, _, _, by have := HJ.out; omega, by go_num, HF9⟩
        case measure => simp [intOf]; have := HJ.out; omega
      · have hSS : Blk W6 gS 27 (b.s1.cells m.m1).toArray := by
          have h := HS6.out
          rw [show seN b j = b.s1 by rw [h0]; rfl, show smN m j = m.m1 by rw [h0]; rfl] at h
          exact h
        obtain ⟨x0, e0, hx0⟩ := HF6.out.v0 (by omega)
        refine rof_seat1 j h0 w W6 b m cs HCS.out HR.out HPL.out HSM.out HF6.out.C g k c0 c1 tl _ HF6.out.l0 HF6.out.l1 HF6.out.G HF6.out.N gS HNE.out hSS x0 hx0 _ _ _ _ _ _ _ _ _ _ _ _ _ _ _ _ _ _ _ _ _ _ _ _ _ _ _ _ _ _ _ _ _ _ _ _ _ _ _ _ _ _ _ _ _ _ _ _ _ _ _ _ _ _ _ _ _ _ _ _ _ _ _ _ _ _ _ _ _ _ _ _ _ _ _ _ _ _ _ _ _ _ _ _ _ _ _ _ _ _ _ _ _ _ _ _ _ _ _ _ _ ?_ ?_
        · exact fun d _ _ _ _ h => by cases d <;> exact h
        intro v38 v39 v40 v41 v42 v43 v44 v45 v46 v47 v48 v49 v50 v51 v52 v53 v54 v55 v56 v57 v58 v59 v60 v61 v62 v63 v64 v65 v66 v67 v68 v69 v' W9 h9
        have HF9 : Hid (RoS w b cs g k (.slice none 0 0) tl (j + 1) c0 ((puOf b).v1.cells v') W9) := Lib.hid ⟨h9.2.2.1, h9.2.1, HF6.out.l0, rfl, fun _ => ⟨x0, e0, h9.2.2.2⟩, fun _ => ⟨v', rfl, h9.1⟩, HF6.out.N⟩
        clear h9 hSS hgS h0 hx0 e0
        go_wp2_with fail
        go_roundw
        case rel => exact ⟨j + 1, _, _, by have := HJ.out; omega, by go_num, HF9⟩
        case measure => simp [intOf]; have := HJ.out; omega
    · have hj2' : decide ((j : Int) < 2) = false := decide_eq_false (by omega)
      obtain ⟨x0, e0, hv0⟩ := HF.out.v0 (by omega)
      obtain ⟨x1, e1, hv1⟩ := HF.out.v1 (by omega)
      have HF' : Hid (RoC w cs wr ∧ Blk wr g 98 (vwc k ((puOf b).v0.cells x0) ((puOf b).v1.cells x1) (.slice none 0 0) tl).toArray ∧ w.heap.size + 2 < g ∧ VsO wr w.heap.size (puOf b).v0 x0 ∧ VsO wr w.heap.size (puOf b).v1 x1) := Lib.hid ⟨HF.out.C, by rw [← e0, ← e1]; exact HF.out.G, HF.out.N, hv0, hv1⟩
      clear e0 hv0 e1 hv1 HF hj hj2
      go_wp2_with fail
      have HEND : Hid (∀ (A : Option Addr) (c : Nat) (W3 : World), Blk W3 g 98 (vwc k ((puOf b).v0.cells x0) ((puOf b).v1.cells x1) (.slice A (seN b k).hand.length c) tl).toArray ∧ XOwns W3 w.heap.size 46 12 A (seN b k).hand.length c (ocs ((seN b k).hand.map (obI b.objs))) ∧ RoC w cs W3 ∧ VsO W3 w.heap.size (puOf b).v0 x0 ∧ VsO W3 w.heap.size (puOf b).v1 x1 → ∃ (VC : List Value) (W8 : World), (vwc k ((puOf b).v0.cells x0) ((puOf b).v1.cells x1) (.slice A (seN b k).hand.length c) tl) = VC ∧ VC.length = 43 ∧ (Instr.loadAt 98 (.pointer (some ⟨g, 0, none⟩))).run Tryz.prog W3 = .ok (.agg VC.toArray) W3 ∧ (Instr.storeAt 98 (.pointer (some ⟨w.heap.size + 2, 0, none⟩)) (.agg VC.toArray)).run Tryz.prog W3 = .ok () W8 ∧ Blk W8 (w.heap.size + 2) 98 VC.toArray ∧ W3.cell? ⟨w.heap.size + 1, 1, none⟩ = some (.int .i64 0) ∧ RofEnd b k w (.returned (.agg VC.toArray)) W8) := Lib.hid (fun A c W3 h3 => by
        obtain ⟨hG3, hX3, hC3, h03, h13⟩ := h3
        obtain ⟨VC, hVC⟩ : ∃ x, (vwc k ((puOf b).v0.cells x0) ((puOf b).v1.cells x1) (.slice A (seN b k).hand.length c) tl) = x := ⟨_, rfl⟩
        have htl9 : tl = (puOf b).tail ⟨x0, x1, m.S, m.Q, m.ST, m.QT, m.AT, m.BK⟩ := HTL.out.symm
        have hvf : vwf b k x0 x1 (.slice A (seN b k).hand.length c) ((puOf b).tail ⟨x0, x1, m.S, m.Q, m.ST, m.QT, m.AT, m.BK⟩) = VC := by rw [← htl9]; exact hVC
        have hlen : VC.length = 43 := by rw [← hvf]; rfl
        have hone : ∀ u ∈ VC, u.oneCell' = true := by rw [← hvf]; exact one_vwf b k ⟨x0, x1, m.S, m.Q, m.ST, m.QT, m.AT, m.BK⟩ A _ c
        rw [hVC] at hG3
        obtain ⟨W8, hst, hB8, hg8⟩ := hC3.res.storeAll (ty := 98) VC (by rw [hlen]; rfl) (by rw [size_view, hlen]) hone
        refine ⟨VC, W8, hVC, hlen, hG3.mid VC _ (fun j v hj => by rw [Nat.zero_add]; simpa using hj) Tryz.underlying98 rfl (by rw [size_view, hlen]), hst, hB8, (hC3.prm.at_ 1).trans rfl, ?_⟩
        have hbel : Below w.heap.size w W8 := hC3.bel.grown hg8 hC3.bel.size (fun q hq => by injection hq with hq; omega)
        have hR8 := HR.out.below hbel
        refine ⟨⟨x0, x1, m.S, m.Q, m.ST, m.QT, m.AT, m.BK⟩, A, c, by rw [hvf], ⟨(h03.blk hC3.res hg8 off_view).r, (h13.blk hC3.res hg8 off_view).r, hR8.S, hR8.Q, ⟨hR8.AT.row, hR8.AT.ok⟩, ⟨hR8.BK, hR8.Bo⟩⟩, (hX3.blk_ hC3.res hg8 (by decide)).reads, hbel⟩)
      rcases (show k = 0 ∨ k = 1 by have := HKK.out; omega) with h0 | h0
      · refine rof_hand0 k h0 w wr b m cs HCS.out HR.out HPL.out HSM.out HF'.out.1 g k _ _ tl _ rfl rfl HF'.out.2.1 HF'.out.2.2.1 x0 x1 HF'.out.2.2.2.1 HF'.out.2.2.2.2 _ _ _ _ _ _ _ _ _ _ _ _ _ _ _ _ _ _ _ _ _ _ _ _ _ _ _ _ _ _ _ _ _ _ _ _ _ _ _ _ _ _ _ _ _ _ _ _ _ _ _ _ _ _ _ _ _ _ _ _ _ _ _ _ _ _ _ _ _ _ _ _ _ _ _ _ _ _ _ _ _ _ _ _ _ _ _ _ _ _ _ _ _ _ _ _ _ _ _ _ _ _ ?_ ?_
        · exact fun d _ _ _ _ h => by cases d <;> exact h
        intro v70 v71 v72 v73 v74 v75 v76 v77 A c W3 h3
        obtain ⟨VC, W8, hVC, hlen, hld, hst, hB8, p1, hend⟩ := HEND.out A c W3 (by rw [show seN b k = b.s0 by rw [h0]; rfl]; exact h3)
        have HLD := Lib.hid hld
        have HST := Lib.hid hst
        have HB8 := Lib.hid hB8
        have HLEN := Lib.hid hlen
        have HE := Lib.hid hend
        clear hVC hlen hld hst hB8 hend h3 HEND HF' h0
        go_wp2_with (first
          | (refine wpList_load_by HLD.out rfl rfl rfl ?_; simp only [Act.put, List.setIfInBounds_toArray, List.set_cons_succ, List.set_cons_zero])
          | (refine wpList_store_by HST.out rfl rfl rfl rfl ?_; simp only [Act.put, List.setIfInBounds_toArray, List.set_cons_succ, List.set_cons_zero])
          | fail)
        exact bodyPost_ret (v := .agg VC.toArray) (ret_cell (fn := Tryz.f41) (p := 6) rfl rfl HB8.out Tryz.underlying98 rfl (by rw [size_view]; simp [HLEN.out])) rfl HE.out
      · refine rof_hand1 k h0 w wr b m cs HCS.out HR.out HPL.out HSM.out HF'.out.1 g k _ _ tl _ rfl rfl HF'.out.2.1 HF'.out.2.2.1 x0 x1 HF'.out.2.2.2.1 HF'.out.2.2.2.2 _ _ _ _ _ _ _ _ _ _ _ _ _ _ _ _ _ _ _ _ _ _ _ _ _ _ _ _ _ _ _ _ _ _ _ _ _ _ _ _ _ _ _ _ _ _ _ _ _ _ _ _ _ _ _ _ _ _ _ _ _ _ _ _ _ _ _ _ _ _ _ _ _ _ _ _ _ _ _ _ _ _ _ _ _ _ _ _ _ _ _ _ _ _ _ _ _ _ _ _ _ _ ?_ ?_
        · exact fun d _ _ _ _ h => by cases d <;> exact h
        intro v70 v71 v72 v73 v74 v75 v76 v77 A c W3 h3
        obtain ⟨VC, W8, hVC, hlen, hld, hst, hB8, p1, hend⟩ := HEND.out A c W3 (by rw [show seN b k = b.s1 by rw [h0]; rfl]; exact h3)
        have HLD := Lib.hid hld
        have HST := Lib.hid hst
        have HB8 := Lib.hid hB8
        have HLEN := Lib.hid hlen
        have HE := Lib.hid hend
        clear hVC hlen hld hst hB8 hend h3 HEND HF' h0
        go_wp2_with (first
          | (refine wpList_load_by HLD.out rfl rfl rfl ?_; simp only [Act.put, List.setIfInBounds_toArray, List.set_cons_succ, List.set_cons_zero])
          | (refine wpList_store_by HST.out rfl rfl rfl rfl ?_; simp only [Act.put, List.setIfInBounds_toArray, List.set_cons_succ, List.set_cons_zero])
          | fail)
        exact bodyPost_ret (v := .agg VC.toArray) (ret_cell (fn := Tryz.f41) (p := 6) rfl rfl HB8.out Tryz.underlying98 rfl (by rw [size_view]; simp [HLEN.out])) rfl HE.out
end Go.Proofs.YtagpphelgghbpaaGreat
