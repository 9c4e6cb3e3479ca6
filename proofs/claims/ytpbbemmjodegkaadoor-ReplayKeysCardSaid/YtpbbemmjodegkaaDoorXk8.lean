/-
  Texts: Kf.
-/
import Derived.Test.YtpbbemmjodegkaaDoorXk7
set_option linter.unusedSimpArgs false
set_option linter.unusedVariables false
namespace Go.Proofs.YtpbbemmjodegkaaDoor
open Go.RowKit

def trgFine (t : Trg) : Bool := wnR t.wh 1 3 && wnR t.efs.length 1 2 && efsOk t.efs && (tgN t.efs == 0)
def trgAt (l : List Trg) (k : Nat) : Bool := match l[k]? with
  | some t => trgFine t && !sameT t.wh (l.take k)
  | none => true
def trgOk (l : List Trg) : Bool := (List.range l.length).all (trgAt l) && decide (l.length ≤ 2)
theorem trgOk_bad {l : List Trg} {k : Nat} {t : Trg} (h : l[k]? = some t) (hb : (trgFine t && !sameT t.wh (l.take k)) = false) : trgOk l = false := by
  unfold trgOk
  have hk : k < l.length := (List.getElem?_eq_some_iff.1 h).1
  have h1 : (List.range l.length).all (trgAt l) = false := by
    rw [List.all_eq_false]
    exact ⟨k, by simpa using hk, by unfold trgAt; rw [h]; simp only; rw [hb]; decide⟩
  rw [h1]
  rfl
theorem trgOk_all {l : List Trg} (h : ∀ j, j < l.length → trgAt l j = true) : trgOk l = decide (l.length ≤ 2) := by
  unfold trgOk
  rw [List.all_eq_true.2 (fun j hj => h j (by simpa using hj))]
  rfl
set_option maxRecDepth 100000 in
set_option maxHeartbeats 3200000 in
theorem trg_any (s : Sl) (l : List Trg) (ts : List Sl) (w : World) (h : TsR w s l ts) : Calls Tryd.prog 42 #[s.v l.length] w (BE (trgOk l) w) := by
  obtain ⟨A, c⟩ := s
  obtain ⟨n, hn⟩ : ∃ n, l.length = n := ⟨_, rfl⟩
  have h9 : n ≤ c ∧ c ≤ 9223372036854775807 := by have := h.ok; unfold Sl.ok at this; simp only at this; omega
  have HX := Lib.hid h
  have HN := Lib.hid hn
  simp only [Sl.v]
  rw [hn]
  clear h hn
  go_enter Tryd.func42, Tryd.ntmps42
  go_wp2_with fail
  go_loopw [7] (fun i W => ∃ k : Nat, k ≤ n ∧ i = .int .i64 k ∧ Hid (∀ j, j < k → trgAt l j = true) ∧ Hid (Below w.heap.size w W)) (fun i _ => n - (intOf i).toNat)
  case atStart => exact ⟨0, Nat.zero_le _, rfl, Lib.hid (fun q h => absurd h (by omega)), Lib.hid (Below.refl _ _)⟩
  case round =>
    obtain ⟨k, hk, rfl, HE, HB⟩ := hrel
    by_cases hlt : k < n
    · have hlt' : (k : Int) < n := by omega
      obtain ⟨t, ht⟩ := get_of (l := l) (k := k) (by rw [HN.out]; exact hlt)
      have HT := Lib.hid ht
      obtain ⟨u, ad, -, e9, -, c0, c1, hE⟩ := (HX.out.below HB.out).at2 ht
      simp only at e9
      subst e9
      have HBAD := Lib.hid (trgOk_bad (k := k) ht)
      have HGOOD : Hid ((trgFine t && !sameT t.wh (l.take k)) = true → trgAt l k = true) := Lib.hid (fun h => by unfold trgAt; rw [ht]; exact h)
      have HFN : Hid (trgFine t = (wnR t.wh 1 3 && wnR t.efs.length 1 2 && efsOk t.efs && (tgN t.efs == 0))) := Lib.hid rfl
      obtain ⟨wh, efs⟩ := t
      simp only at HBAD HGOOD HFN c0 c1 hE
      obtain ⟨w2, hw2⟩ : ∃ w2, wr.alloc (.cells #[.int .i64 wh, .slice u.A efs.length u.c] 112) = w2 := ⟨_, rfl⟩
      have hb2 : Below wr.heap.size wr w2 := hw2 ▸ (Below.refl _ _).alloc (Nat.le_refl _) _
      have HK2 : Hid (Blk w2 wr.heap.size 112 #[.int .i64 wh, .slice u.A efs.length u.c]) := Lib.hid (hw2 ▸ Blk.mk_ _ _ _ _ rfl)
      have HB2 := Lib.hid (below_call HB.out hb2 HB.out.size)
      have HE2 := Lib.hid (hE.below hb2)
      have HX2 := Lib.hid (HX.out.below HB2.out)
      have x0 : w2.cell? ⟨wr.heap.size, 0, none⟩ = some (.int .i64 wh) := (HK2.out.at_ 0).trans rfl
      have x1 : w2.cell? ⟨wr.heap.size, 1, none⟩ = some (.slice u.A efs.length u.c) := (HK2.out.at_ 1).trans rfl
      have HC1 := Lib.hid (fun W => cwithin wh 1 3 W)
      have HC2 := Lib.hid (fun W => cwithin efs.length 1 2 W)
      have HC3 : Hid (Calls Tryd.prog 39 #[.slice u.A efs.length u.c] w2 (BE (efsOk efs) w2)) := Lib.hid (all_any u efs w2 HE2.out)
      have HC4 : Hid (∀ W, Below w2.heap.size w2 W → Calls Tryd.prog 57 #[.slice u.A efs.length u.c] W (BE (tgN efs == 0) W)) := Lib.hid (fun W hb => plain_any u efs W (HE2.out.below hb))
      obtain ⟨d1, e1⟩ : ∃ d, wnR wh 1 3 = d := ⟨_, rfl⟩
      obtain ⟨d2, e2⟩ : ∃ d, wnR efs.length 1 2 = d := ⟨_, rfl⟩
      obtain ⟨d3, e3⟩ : ∃ d, efsOk efs = d := ⟨_, rfl⟩
      obtain ⟨d4, e4⟩ : ∃ d, (tgN efs == 0) = d := ⟨_, rfl⟩
      rw [e1] at HC1
      rw [e2] at HC2
      rw [e3] at HC3
      rw [e4] at HC4
      rw [e1, e2, e3, e4] at HFN
      obtain ⟨d5, e5⟩ : ∃ d, sameT wh (l.take k) = d := ⟨_, rfl⟩
      have hkc : (k : Int) ≤ c := by omega
      have HC5 : Hid (∀ W, Below w2.heap.size w2 W → Calls Tryd.prog 58 #[.slice (some ad) k c, .func (.func 59) #[] #[.pointer (some ⟨wr.heap.size, 0, none⟩)]] W (BE d5 W)) := Lib.hid (fun W hb => by
        have := anyT_k ⟨some ad, c⟩ l ts k wh wr.heap.size W (HX2.out.below hb) (by rw [HN.out]; omega) (by have := (HK2.out.call hb).at_ 0; simpa using this) (HK2.out.call hb).lt
        rw [e5] at this
        exact this)
      rw [e5, HFN.out] at HBAD HGOOD
      obtain ⟨ne, hne⟩ : ∃ n, efs.length = n := ⟨_, rfl⟩
      rw [hne] at hw2 HK2 x1 HC2 HC3 HC4 c1
      clear e1 e2 e3 e4 e5 hne hb2 HFN ht hE
      cases d1 with
      | false =>
        go_wp2_with (first
          | (go_at_call 37; (first | (with_reducible refine (HC1.out _).mono ?_) | (with_reducible refine (HC2.out _).mono ?_)); rintro e w1 ⟨rfl, rfl⟩)
          | fail)
        go_ret
        refine ⟨?_, HB2.out⟩
        show Ending.returned (.bool false) = _
        rw [HBAD.out rfl]
      | true =>
        cases d2 with
        | false =>
          go_wp2_with (first
            | (go_at_call 37; (first | (with_reducible refine (HC1.out _).mono ?_) | (with_reducible refine (HC2.out _).mono ?_)); rintro e w1 ⟨rfl, rfl⟩)
            | fail)
          go_ret
          refine ⟨?_, HB2.out⟩
          show Ending.returned (.bool false) = _
          rw [HBAD.out rfl]
        | true =>
          cases d3 with
          | false =>
            go_wp2_with (first
              | (go_at_call 37; (first | (with_reducible refine (HC1.out _).mono ?_) | (with_reducible refine (HC2.out _).mono ?_)); rintro e w1 ⟨rfl, rfl⟩)
              | fail)
            refine HC3.out.mono ?_
            rintro e w3 ⟨rfl, hb3⟩
            have HB3 := Lib.hid (below_call HB2.out hb3 HB2.out.size)
            have HL3 := Lib.hid hb3
            have y1 : w3.cell? ⟨wr.heap.size, 1, none⟩ = some (.slice u.A ne u.c) := ((HK2.out.call hb3).at_ 1).trans rfl
            clear hb3 x0 x1 hw2
            go_wp2_with fail
            go_ret
            refine ⟨?_, HB3.out⟩
            show Ending.returned (.bool false) = _
            rw [HBAD.out rfl]
          | true =>
            go_wp2_with (first
              | (go_at_call 37; (first | (with_reducible refine (HC1.out _).mono ?_) | (with_reducible refine (HC2.out _).mono ?_)); rintro e w1 ⟨rfl, rfl⟩)
              | fail)
            refine HC3.out.mono ?_
            rintro e w3 ⟨rfl, hb3⟩
            have HB3 := Lib.hid (below_call HB2.out hb3 HB2.out.size)
            have HL3 := Lib.hid hb3
            have y1 : w3.cell? ⟨wr.heap.size, 1, none⟩ = some (.slice u.A ne u.c) := ((HK2.out.call hb3).at_ 1).trans rfl
            clear hb3 x0 x1 hw2
            cases d4 with
            | false =>
              go_wp2_with fail
              refine (HC4.out _ HL3.out).mono ?_
              rintro e w4 ⟨rfl, hb4⟩
              have HB4 := Lib.hid (below_call HB3.out hb4 HB3.out.size)
              have HL4 := Lib.hid (below_call HL3.out hb4 HL3.out.size)
              clear hb4 y1
              go_wp2_with fail
              go_ret
              refine ⟨?_, HB4.out⟩
              show Ending.returned (.bool false) = _
              rw [HBAD.out rfl]
            | true =>
              go_wp2_with fail
              refine (HC4.out _ HL3.out).mono ?_
              rintro e w4 ⟨rfl, hb4⟩
              have HB4 := Lib.hid (below_call HB3.out hb4 HB3.out.size)
              have HL4 := Lib.hid (below_call HL3.out hb4 HL3.out.size)
              clear hb4 y1
              cases d5 with
              | true =>
                go_wp2_with fail
                refine (HC5.out _ HL4.out).mono ?_
                rintro e w5 ⟨rfl, hb5⟩
                have HB5 := Lib.hid (below_call HB4.out hb5 HB4.out.size)
                clear hb5
                go_wp2_with fail
                go_ret
                refine ⟨?_, HB5.out⟩
                show Ending.returned (.bool false) = _
                rw [HBAD.out rfl]
              | false =>
                go_wp2_with fail
                refine (HC5.out _ HL4.out).mono ?_
                rintro e w5 ⟨rfl, hb5⟩
                have HB5 := Lib.hid (below_call HB4.out hb5 HB4.out.size)
                clear hb5
                have HEE : Hid (∀ j, j < k + 1 → trgAt l j = true) := Lib.hid (fun j hj => by
                  rcases Nat.lt_or_ge j k with h | h
                  · exact HE.out j h
                  · obtain rfl : j = k := by omega
                    exact HGOOD.out rfl)
                go_wp2_with fail
                go_roundw
                case rel => exact ⟨k + 1, hlt, by go_num, HEE, HB5⟩
                case measure => simp [intOf]; omega
    · obtain rfl : k = n := by omega
      have HA := Lib.hid (trgOk_all (l := l) (fun j hj => HE.out j (by rw [HN.out] at hj; exact hj)))
      rw [HN.out] at HA
      have h2 : decide ((k : Int) ≤ 2) = decide (k ≤ 2) := by
        rw [Bool.eq_iff_iff]
        simp
        omega
      obtain ⟨d, hd⟩ : ∃ d, decide (k ≤ 2) = d := ⟨_, rfl⟩
      rw [hd] at HA h2
      clear hd
      go_wp2_with fail
      go_ret
      refine ⟨?_, HB.out⟩
      rw [HA.out]
      rfl
/-! ### Cards -/
def stillS (c : Cd) : Bool := (c.pow == 0) && (c.tou == 0) && (c.kw == 0) && (c.trs.length == 0)
def kwOk (k : Int) : Bool := bits .andNot .i64 k 15 == 0
def kindOk (c : Cd) : Bool :=
  if c.kind = 1 then wnR c.mak 0 3 && ([c.o0, c.o1, c.o2, c.o3].sum + c.any == 0) && (c.efs.length == 0) && stillS c
  else if c.kind = 2 then (c.mak == 0) && wnR c.pow 0 20 && wnR c.tou 1 20 && kwOk c.kw && trgOk c.trs
  else if c.kind = 3 ∨ c.kind = 4 then (c.mak == 0) && decide (0 < c.efs.length) && !(c.efs.any itS) && stillS c
  else false
def cdOk (c : Cd) : Bool := namedS c.nm && wnR c.rar 1 4 && costOk c.o0 c.o1 c.o2 c.o3 c.any && efsOk c.efs && kindOk c
set_option maxRecDepth 100000 in
theorem size_card : (Tryd.prog.info? 74).map (·.size) = some 14 := by decide +kernel
structure BoxC (w : World) (c : Cd) (m : CdM) (B : Nat) (w0 : World) : Prop where
  bel : Below w.heap.size w w0
  sz : w0.heap.size = B
  blk : Blk w0 w.heap.size 74 (c.cells m).toArray
theorem boxC (w : World) (c : Cd) (m : CdM) : ∃ (B : Nat) (w0 : World) (s0 : Later B w0), w.alloc (.cells (c.cells m).toArray 74) = s0.W ∧ BoxC w c m B w0 :=
  ⟨_, _, ⟨_, Below.refl _ _⟩, rfl, (Below.refl _ _).alloc (Nat.le_refl _) _, rfl, Blk.mk_ _ _ _ _ rfl⟩
theorem BoxC.at_ {w w0 : World} {c : Cd} {m : CdM} {B : Nat} (h : BoxC w c m B w0) (s : Later B w0) (i : Nat) {v : Value} (hv : (c.cells m)[i]? = some v) : s.W.cell? ⟨w.heap.size, i, none⟩ = some v := by
  rw [(h.blk.below s.h (by rw [← h.sz]; exact h.blk.lt)).at_ i]
  simpa using hv
theorem BoxC.load {w w0 : World} {c : Cd} {m : CdM} {B : Nat} (h : BoxC w c m B w0) (s : Later B w0) : (Instr.loadAt 74 (.pointer (some ⟨w.heap.size, 0, none⟩))).run Tryd.prog s.W = .ok (.agg (c.cells m).toArray) s.W :=
  (h.blk.below s.h (by rw [← h.sz]; exact h.blk.lt)).mid (o := 0) (ty := 74) (c.cells m) _ (fun j v hj => by rw [Nat.zero_add]; simpa using hj) Tryd.underlying74 rfl (by rw [size_card]; rfl)
theorem BoxC.all {w w0 : World} {c : Cd} {m : CdM} {B : Nat} (h : BoxC w c m B w0) (s : Later B w0) : Below w.heap.size w s.W := below_call h.bel (s.h.mono (by rw [h.sz]; exact Nat.le_refl _)) h.bel.size
theorem BoxC.bs {w w0 : World} {c : Cd} {m : CdM} {B : Nat} (h : BoxC w c m B w0) : B ≤ w0.heap.size := by rw [h.sz]; exact Nat.le_refl _
set_option maxRecDepth 100000 in
set_option maxHeartbeats 3200000 in
theorem still_any (c : Cd) (m : CdM) (w : World) : Calls Tryd.prog 41 #[.agg (c.cells m).toArray] w (BE (stillS c) w) := by
  obtain ⟨B, w0, s0, hs0, hbx⟩ := boxC w c m
  have HBX := Lib.hid hbx
  have c8 : ∀ s : Later B w0, s.W.cell? ⟨w.heap.size, 8, none⟩ = some (.int .i64 c.pow) := fun s => hbx.at_ s 8 rfl
  have c9 : ∀ s : Later B w0, s.W.cell? ⟨w.heap.size, 9, none⟩ = some (.int .i64 c.tou) := fun s => hbx.at_ s 9 rfl
  have c10 : ∀ s : Later B w0, s.W.cell? ⟨w.heap.size, 10, none⟩ = some (.int .i64 c.kw) := fun s => hbx.at_ s 10 rfl
  have c12 : ∀ s : Later B w0, s.W.cell? ⟨w.heap.size, 12, none⟩ = some (.slice m.T.A c.trs.length m.T.c) := fun s => hbx.at_ s 12 rfl
  have hv : stillS c = ((c.pow == 0) && (c.tou == 0) && (c.kw == 0) && ((c.trs.length : Int) == 0)) := by
    unfold stillS
    congr 1
    rw [Bool.eq_iff_iff]
    simp
  rw [hv]
  clear hv hbx
  obtain ⟨cs, hcs⟩ : ∃ cs, (c.cells m).toArray = cs := ⟨_, rfl⟩
  rw [hcs] at hs0 ⊢
  obtain ⟨d0, h0⟩ : ∃ d, (c.pow == 0) = d := ⟨_, rfl⟩
  obtain ⟨d1, h1⟩ : ∃ d, (c.tou == 0) = d := ⟨_, rfl⟩
  obtain ⟨d2, h2⟩ : ∃ d, (c.kw == 0) = d := ⟨_, rfl⟩
  obtain ⟨d3, h3⟩ : ∃ d, ((c.trs.length : Int) == 0) = d := ⟨_, rfl⟩
  rw [h0, h1, h2, h3]
  clear hcs
  cases d0 with
  | false =>
    go_enter Tryd.func41, Tryd.ntmps41
    go_wp2
    go_ret
    exact ⟨rfl, HBX.out.all _⟩
  | true =>
    cases d1 with
    | false =>
      go_enter Tryd.func41, Tryd.ntmps41
      go_wp2
      go_ret
      exact ⟨rfl, HBX.out.all _⟩
    | true =>
      cases d2 with
      | false =>
        go_enter Tryd.func41, Tryd.ntmps41
        go_wp2
        go_ret
        exact ⟨rfl, HBX.out.all _⟩
      | true =>
        go_enter Tryd.func41, Tryd.ntmps41
        go_wp2
        go_ret
        exact ⟨rfl, HBX.out.all _⟩
set_option maxRecDepth 100000 in
set_option maxHeartbeats 6400000 in
theorem cv_any (c : Cd) (m : CdM) (w : World) (h : CdR w c m) : Calls Tryd.prog 21 #[.agg (c.cells m).toArray] w (BE (cdOk c) w) := by
  obtain ⟨B, w0, s0, hs0, hbx⟩ := boxC w c m
  have HBX := Lib.hid hbx
  have c0 : ∀ s : Later B w0, s.W.cell? ⟨w.heap.size, 0, none⟩ = some (.string c.nm) := fun s => hbx.at_ s 0 rfl
  have c1 : ∀ s : Later B w0, s.W.cell? ⟨w.heap.size, 1, none⟩ = some (.int .i64 c.kind) := fun s => hbx.at_ s 1 rfl
  have c2 : ∀ s : Later B w0, s.W.cell? ⟨w.heap.size, 2, none⟩ = some (.int .i64 c.o0) := fun s => hbx.at_ s 2 rfl
  have c3 : ∀ s : Later B w0, s.W.cell? ⟨w.heap.size, 3, none⟩ = some (.int .i64 c.o1) := fun s => hbx.at_ s 3 rfl
  have c4 : ∀ s : Later B w0, s.W.cell? ⟨w.heap.size, 4, none⟩ = some (.int .i64 c.o2) := fun s => hbx.at_ s 4 rfl
  have c5 : ∀ s : Later B w0, s.W.cell? ⟨w.heap.size, 5, none⟩ = some (.int .i64 c.o3) := fun s => hbx.at_ s 5 rfl
  have c6 : ∀ s : Later B w0, s.W.cell? ⟨w.heap.size, 6, none⟩ = some (.int .i64 c.any) := fun s => hbx.at_ s 6 rfl
  have c7 : ∀ s : Later B w0, s.W.cell? ⟨w.heap.size, 7, none⟩ = some (.int .i64 c.mak) := fun s => hbx.at_ s 7 rfl
  have c8 : ∀ s : Later B w0, s.W.cell? ⟨w.heap.size, 8, none⟩ = some (.int .i64 c.pow) := fun s => hbx.at_ s 8 rfl
  have c9 : ∀ s : Later B w0, s.W.cell? ⟨w.heap.size, 9, none⟩ = some (.int .i64 c.tou) := fun s => hbx.at_ s 9 rfl
  have c10 : ∀ s : Later B w0, s.W.cell? ⟨w.heap.size, 10, none⟩ = some (.int .i64 c.kw) := fun s => hbx.at_ s 10 rfl
  have c11 : ∀ s : Later B w0, s.W.cell? ⟨w.heap.size, 11, none⟩ = some (.slice m.E.A c.efs.length m.E.c) := fun s => hbx.at_ s 11 rfl
  have c12 : ∀ s : Later B w0, s.W.cell? ⟨w.heap.size, 12, none⟩ = some (.slice m.T.A c.trs.length m.T.c) := fun s => hbx.at_ s 12 rfl
  have c13 : ∀ s : Later B w0, s.W.cell? ⟨w.heap.size, 13, none⟩ = some (.int .i64 c.rar) := fun s => hbx.at_ s 13 rfl
  have HL : Hid (∀ s : Later B w0, (Instr.loadAt 74 (.pointer (some ⟨w.heap.size, 0, none⟩))).run Tryd.prog s.W = .ok (.agg (c.cells m).toArray) s.W) := Lib.hid hbx.load
  have hR : ∀ s : Later B w0, CdR s.W c m := fun s => h.below (hbx.all s)
  have hcost : ∀ s : Later B w0, Calls Tryd.prog 38 #[.agg #[.int .i64 c.o0, .int .i64 c.o1, .int .i64 c.o2, .int .i64 c.o3, .int .i64 c.any]] s.W (BE (costOk c.o0 c.o1 c.o2 c.o3 c.any) s.W) := fun s => cost_any _ _ _ _ _ _
  have HNM : Hid (∀ s : Later B w0, Calls Tryd.prog 36 #[.string c.nm] s.W (BE (namedS c.nm) s.W)) := Lib.hid (fun s => named_any c.nm s.W h.nm)
  have HW1 : Hid (∀ W, Calls Tryd.prog 37 #[.int .i64 c.rar, .int .i64 1, .int .i64 4] W fun e w' => e = .returned (.bool (wnR c.rar 1 4)) ∧ W = w') := Lib.hid (fun W => cwithin _ _ _ W)
  have HCO := Lib.hid hcost
  have HAL : Hid (∀ s : Later B w0, Calls Tryd.prog 39 #[.slice m.E.A c.efs.length m.E.c] s.W (BE (efsOk c.efs) s.W)) := Lib.hid (fun s => all_any m.E c.efs s.W (hR s).E)
  have HW2 : Hid (∀ W, Calls Tryd.prog 37 #[.int .i64 c.mak, .int .i64 0, .int .i64 3] W fun e w' => e = .returned (.bool (wnR c.mak 0 3)) ∧ W = w') := Lib.hid (fun W => cwithin _ _ _ W)
  have HVL : Hid (costOk c.o0 c.o1 c.o2 c.o3 c.any = true → ∀ s : Later B w0, Calls Tryd.prog 40 #[.agg #[.int .i64 c.o0, .int .i64 c.o1, .int .i64 c.o2, .int .i64 c.o3, .int .i64 c.any]] s.W fun e w' => e = .returned (.int .i64 ([c.o0, c.o1, c.o2, c.o3].sum + c.any)) ∧ Below s.W.heap.size s.W w') := Lib.hid (fun hc s => value_any _ _ _ _ _ _ hc)
  have HST : Hid (∀ s : Later B w0, Calls Tryd.prog 41 #[.agg (c.cells m).toArray] s.W (BE (stillS c) s.W)) := Lib.hid (fun s => still_any c m s.W)
  have HW3 : Hid (∀ W, Calls Tryd.prog 37 #[.int .i64 c.pow, .int .i64 0, .int .i64 20] W fun e w' => e = .returned (.bool (wnR c.pow 0 20)) ∧ W = w') := Lib.hid (fun W => cwithin _ _ _ W)
  have HW4 : Hid (∀ W, Calls Tryd.prog 37 #[.int .i64 c.tou, .int .i64 1, .int .i64 20] W fun e w' => e = .returned (.bool (wnR c.tou 1 20)) ∧ W = w') := Lib.hid (fun W => cwithin _ _ _ W)
  have HTR : Hid (∀ s : Later B w0, Calls Tryd.prog 42 #[.slice m.T.A c.trs.length m.T.c] s.W (BE (trgOk c.trs) s.W)) := Lib.hid (fun s => trg_any m.T c.trs m.TS s.W (hR s).T)
  have HIT : Hid (∀ s : Later B w0, Calls Tryd.prog 43 #[.slice m.E.A c.efs.length m.E.c, .func (.func 44) #[] #[]] s.W (BE (c.efs.any itS) s.W)) := Lib.hid (fun s => any_it m.E c.efs s.W (hR s).E)
  have HB0 := Lib.hid hbx.bs
  clear hR hcost hbx h
  obtain ⟨cs, hcs⟩ : ∃ cs, (c.cells m).toArray = cs := ⟨_, rfl⟩
  rw [hcs] at hs0 HL HST ⊢
  clear hcs
  unfold cdOk
  have HKO : Hid (kindOk c = if c.kind = 1 then wnR c.mak 0 3 && ([c.o0, c.o1, c.o2, c.o3].sum + c.any == 0) && (c.efs.length == 0) && stillS c
  else if c.kind = 2 then (c.mak == 0) && wnR c.pow 0 20 && wnR c.tou 1 20 && kwOk c.kw && trgOk c.trs
  else if c.kind = 3 ∨ c.kind = 4 then (c.mak == 0) && decide (0 < c.efs.length) && !(c.efs.any itS) && stillS c
  else false) := Lib.hid rfl
  obtain ⟨K, hK⟩ : ∃ K, kindOk c = K := ⟨_, rfl⟩
  rw [hK] at HKO ⊢
  clear hK
  obtain ⟨nm, kind, o0, o1, o2, o3, any, mak, pow, tou, kw, efs, trs, rar⟩ := c
  obtain ⟨⟨EA, Ec⟩, ⟨TA, Tc⟩, TS⟩ := m
  simp only at *
  obtain ⟨ne, hne⟩ : ∃ n, efs.length = n := ⟨_, rfl⟩
  obtain ⟨nt, hnt⟩ : ∃ n, trs.length = n := ⟨_, rfl⟩
  obtain ⟨vs, hvs⟩ : ∃ x, [o0, o1, o2, o3].sum + any = x := ⟨_, rfl⟩
  obtain ⟨d0, h0⟩ : ∃ d, namedS nm = d := ⟨_, rfl⟩
  obtain ⟨d1, h1⟩ : ∃ d, wnR rar 1 4 = d := ⟨_, rfl⟩
  obtain ⟨d2, h2⟩ : ∃ d, costOk o0 o1 o2 o3 any = d := ⟨_, rfl⟩
  obtain ⟨d3, h3⟩ : ∃ d, efsOk efs = d := ⟨_, rfl⟩
  obtain ⟨k1, q1⟩ : ∃ d, wnR mak 0 3 = d := ⟨_, rfl⟩
  obtain ⟨ks, qs⟩ : ∃ d, stillS ⟨nm, kind, o0, o1, o2, o3, any, mak, pow, tou, kw, efs, trs, rar⟩ = d := ⟨_, rfl⟩
  obtain ⟨k3, q3⟩ : ∃ d, wnR pow 0 20 = d := ⟨_, rfl⟩
  obtain ⟨k4, q4⟩ : ∃ d, wnR tou 1 20 = d := ⟨_, rfl⟩
  obtain ⟨k5, q5⟩ : ∃ d, trgOk trs = d := ⟨_, rfl⟩
  obtain ⟨k6, q6⟩ : ∃ d, efs.any itS = d := ⟨_, rfl⟩
  obtain ⟨e1, p1⟩ : ∃ d, (vs == 0) = d := ⟨_, rfl⟩
  obtain ⟨e2, p2⟩ : ∃ d, ((ne : Int) == 0) = d := ⟨_, rfl⟩
  obtain ⟨e3, p3⟩ : ∃ d, (mak == 0) = d := ⟨_, rfl⟩
  obtain ⟨e4, p4⟩ : ∃ d, (bits .andNot .i64 kw 15 == 0) = d := ⟨_, rfl⟩
  obtain ⟨e5, p5⟩ : ∃ d, decide (0 < ne) = d := ⟨_, rfl⟩
  have p2' : (ne == 0) = e2 := by rw [← p2, Bool.eq_iff_iff]; simp
  unfold kwOk at HKO
  rw [hne, hvs, q1, qs, q3, q4, q5, q6, p1, p2', p3, p4, p5] at HKO
  rw [h0] at HNM
  rw [h1] at HW1
  rw [h2] at HCO HVL
  rw [hne] at c11
  rw [hne, h3] at HAL
  rw [hnt] at c12
  rw [q1] at HW2
  rw [hvs] at HVL
  rw [qs] at HST
  rw [q3] at HW3
  rw [q4] at HW4
  rw [hnt, q5] at HTR
  rw [hne, q6] at HIT
  rw [h0, h1, h2, h3]
  clear h0 h1 h2 h3 q1 qs q3 q4 q5 q6 p2' hne hnt hvs
  cases d0 with
  | false =>
    go_enter Tryd.func21, Tryd.ntmps21
    go_wp2_with (first
      | (go_at_call 37; (first | (with_reducible refine (HW1.out _).mono ?_) | (with_reducible refine (HW2.out _).mono ?_) | (with_reducible refine (HW3.out _).mono ?_) | (with_reducible refine (HW4.out _).mono ?_)); rintro e w1 ⟨rfl, rfl⟩)
      | (go_at_call 36; (with_reducible refine (Calls.later HB0.out (HNM.out _)).mono ?_); rintro e w1 ⟨rfl, s, rfl⟩)
      | (go_at_call 38; (with_reducible refine (Calls.later HB0.out (HCO.out _)).mono ?_); rintro e w1 ⟨rfl, s, rfl⟩)
      | (go_at_call 39; (with_reducible refine (Calls.later HB0.out (HAL.out _)).mono ?_); rintro e w1 ⟨rfl, s, rfl⟩)
      | (go_at_call 40; (with_reducible refine (Calls.later HB0.out (HVL.out (by first | trivial | rfl) _)).mono ?_); rintro e w1 ⟨rfl, s, rfl⟩)
      | (go_at_call 41; (with_reducible refine (Calls.later HB0.out (HST.out _)).mono ?_); rintro e w1 ⟨rfl, s, rfl⟩)
      | (go_at_call 42; (with_reducible refine (Calls.later HB0.out (HTR.out _)).mono ?_); rintro e w1 ⟨rfl, s, rfl⟩)
      | (go_at_call 43; (with_reducible refine (Calls.later HB0.out (HIT.out _)).mono ?_); rintro e w1 ⟨rfl, s, rfl⟩)
      | (refine wpList_load_by (HL.out _) rfl rfl rfl ?_; simp only [Act.put, List.setIfInBounds_toArray, List.set_cons_succ, List.set_cons_zero])
      | fail)
    go_ret
    exact ⟨rfl, HBX.out.all _⟩
  | true =>
    cases d1 with
    | false =>
      go_enter Tryd.func21, Tryd.ntmps21
      go_wp2_with (first
        | (go_at_call 37; (first | (with_reducible refine (HW1.out _).mono ?_) | (with_reducible refine (HW2.out _).mono ?_) | (with_reducible refine (HW3.out _).mono ?_) | (with_reducible refine (HW4.out _).mono ?_)); rintro e w1 ⟨rfl, rfl⟩)
        | (go_at_call 36; (with_reducible refine (Calls.later HB0.out (HNM.out _)).mono ?_); rintro e w1 ⟨rfl, s, rfl⟩)
        | (go_at_call 38; (with_reducible refine (Calls.later HB0.out (HCO.out _)).mono ?_); rintro e w1 ⟨rfl, s, rfl⟩)
        | (go_at_call 39; (with_reducible refine (Calls.later HB0.out (HAL.out _)).mono ?_); rintro e w1 ⟨rfl, s, rfl⟩)
        | (go_at_call 40; (with_reducible refine (Calls.later HB0.out (HVL.out (by first | trivial | rfl) _)).mono ?_); rintro e w1 ⟨rfl, s, rfl⟩)
        | (go_at_call 41; (with_reducible refine (Calls.later HB0.out (HST.out _)).mono ?_); rintro e w1 ⟨rfl, s, rfl⟩)
        | (go_at_call 42; (with_reducible refine (Calls.later HB0.out (HTR.out _)).mono ?_); rintro e w1 ⟨rfl, s, rfl⟩)
        | (go_at_call 43; (with_reducible refine (Calls.later HB0.out (HIT.out _)).mono ?_); rintro e w1 ⟨rfl, s, rfl⟩)
        | (refine wpList_load_by (HL.out _) rfl rfl rfl ?_; simp only [Act.put, List.setIfInBounds_toArray, List.set_cons_succ, List.set_cons_zero])
        | fail)
      go_ret
      exact ⟨rfl, HBX.out.all _⟩
    | true =>
      cases d2 with
      | false =>
        go_enter Tryd.func21, Tryd.ntmps21
        go_wp2_with (first
          | (go_at_call 37; (first | (with_reducible refine (HW1.out _).mono ?_) | (with_reducible refine (HW2.out _).mono ?_) | (with_reducible refine (HW3.out _).mono ?_) | (with_reducible refine (HW4.out _).mono ?_)); rintro e w1 ⟨rfl, rfl⟩)
          | (go_at_call 36; (with_reducible refine (Calls.later HB0.out (HNM.out _)).mono ?_); rintro e w1 ⟨rfl, s, rfl⟩)
          | (go_at_call 38; (with_reducible refine (Calls.later HB0.out (HCO.out _)).mono ?_); rintro e w1 ⟨rfl, s, rfl⟩)
          | (go_at_call 39; (with_reducible refine (Calls.later HB0.out (HAL.out _)).mono ?_); rintro e w1 ⟨rfl, s, rfl⟩)
          | (go_at_call 40; (with_reducible refine (Calls.later HB0.out (HVL.out (by first | trivial | rfl) _)).mono ?_); rintro e w1 ⟨rfl, s, rfl⟩)
          | (go_at_call 41; (with_reducible refine (Calls.later HB0.out (HST.out _)).mono ?_); rintro e w1 ⟨rfl, s, rfl⟩)
          | (go_at_call 42; (with_reducible refine (Calls.later HB0.out (HTR.out _)).mono ?_); rintro e w1 ⟨rfl, s, rfl⟩)
          | (go_at_call 43; (with_reducible refine (Calls.later HB0.out (HIT.out _)).mono ?_); rintro e w1 ⟨rfl, s, rfl⟩)
          | (refine wpList_load_by (HL.out _) rfl rfl rfl ?_; simp only [Act.put, List.setIfInBounds_toArray, List.set_cons_succ, List.set_cons_zero])
          | fail)
        go_ret
        exact ⟨rfl, HBX.out.all _⟩
      | true =>
        cases d3 with
        | false =>
          go_enter Tryd.func21, Tryd.ntmps21
          go_wp2_with (first
            | (go_at_call 37; (first | (with_reducible refine (HW1.out _).mono ?_) | (with_reducible refine (HW2.out _).mono ?_) | (with_reducible refine (HW3.out _).mono ?_) | (with_reducible refine (HW4.out _).mono ?_)); rintro e w1 ⟨rfl, rfl⟩)
            | (go_at_call 36; (with_reducible refine (Calls.later HB0.out (HNM.out _)).mono ?_); rintro e w1 ⟨rfl, s, rfl⟩)
            | (go_at_call 38; (with_reducible refine (Calls.later HB0.out (HCO.out _)).mono ?_); rintro e w1 ⟨rfl, s, rfl⟩)
            | (go_at_call 39; (with_reducible refine (Calls.later HB0.out (HAL.out _)).mono ?_); rintro e w1 ⟨rfl, s, rfl⟩)
            | (go_at_call 40; (with_reducible refine (Calls.later HB0.out (HVL.out (by first | trivial | rfl) _)).mono ?_); rintro e w1 ⟨rfl, s, rfl⟩)
            | (go_at_call 41; (with_reducible refine (Calls.later HB0.out (HST.out _)).mono ?_); rintro e w1 ⟨rfl, s, rfl⟩)
            | (go_at_call 42; (with_reducible refine (Calls.later HB0.out (HTR.out _)).mono ?_); rintro e w1 ⟨rfl, s, rfl⟩)
            | (go_at_call 43; (with_reducible refine (Calls.later HB0.out (HIT.out _)).mono ?_); rintro e w1 ⟨rfl, s, rfl⟩)
            | (refine wpList_load_by (HL.out _) rfl rfl rfl ?_; simp only [Act.put, List.setIfInBounds_toArray, List.set_cons_succ, List.set_cons_zero])
            | fail)
          go_ret
          exact ⟨rfl, HBX.out.all _⟩
        | true =>
          by_cases g1 : kind = 1
          · have g1' : (kind == 1) = true := by simpa using g1
            rw [if_pos g1] at HKO
            clear g1
            cases k1 with
            | false =>
              go_enter Tryd.func21, Tryd.ntmps21
              go_wp2_with (first
                | (go_at_call 37; (first | (with_reducible refine (HW1.out _).mono ?_) | (with_reducible refine (HW2.out _).mono ?_) | (with_reducible refine (HW3.out _).mono ?_) | (with_reducible refine (HW4.out _).mono ?_)); rintro e w1 ⟨rfl, rfl⟩)
                | (go_at_call 36; (with_reducible refine (Calls.later HB0.out (HNM.out _)).mono ?_); rintro e w1 ⟨rfl, s, rfl⟩)
                | (go_at_call 38; (with_reducible refine (Calls.later HB0.out (HCO.out _)).mono ?_); rintro e w1 ⟨rfl, s, rfl⟩)
                | (go_at_call 39; (with_reducible refine (Calls.later HB0.out (HAL.out _)).mono ?_); rintro e w1 ⟨rfl, s, rfl⟩)
                | (go_at_call 40; (with_reducible refine (Calls.later HB0.out (HVL.out (by first | trivial | rfl) _)).mono ?_); rintro e w1 ⟨rfl, s, rfl⟩)
                | (go_at_call 41; (with_reducible refine (Calls.later HB0.out (HST.out _)).mono ?_); rintro e w1 ⟨rfl, s, rfl⟩)
                | (go_at_call 42; (with_reducible refine (Calls.later HB0.out (HTR.out _)).mono ?_); rintro e w1 ⟨rfl, s, rfl⟩)
                | (go_at_call 43; (with_reducible refine (Calls.later HB0.out (HIT.out _)).mono ?_); rintro e w1 ⟨rfl, s, rfl⟩)
                | (refine wpList_load_by (HL.out _) rfl rfl rfl ?_; simp only [Act.put, List.setIfInBounds_toArray, List.set_cons_succ, List.set_cons_zero])
                | fail)
              go_ret
              refine ⟨?_, HBX.out.all _⟩
              rw [HKO.out]
              rfl
            | true =>
              cases e1 with
              | false =>
                go_enter Tryd.func21, Tryd.ntmps21
                go_wp2_with (first
                  | (go_at_call 37; (first | (with_reducible refine (HW1.out _).mono ?_) | (with_reducible refine (HW2.out _).mono ?_) | (with_reducible refine (HW3.out _).mono ?_) | (with_reducible refine (HW4.out _).mono ?_)); rintro e w1 ⟨rfl, rfl⟩)
                  | (go_at_call 36; (with_reducible refine (Calls.later HB0.out (HNM.out _)).mono ?_); rintro e w1 ⟨rfl, s, rfl⟩)
                  | (go_at_call 38; (with_reducible refine (Calls.later HB0.out (HCO.out _)).mono ?_); rintro e w1 ⟨rfl, s, rfl⟩)
                  | (go_at_call 39; (with_reducible refine (Calls.later HB0.out (HAL.out _)).mono ?_); rintro e w1 ⟨rfl, s, rfl⟩)
                  | (go_at_call 40; (with_reducible refine (Calls.later HB0.out (HVL.out (by first | trivial | rfl) _)).mono ?_); rintro e w1 ⟨rfl, s, rfl⟩)
                  | (go_at_call 41; (with_reducible refine (Calls.later HB0.out (HST.out _)).mono ?_); rintro e w1 ⟨rfl, s, rfl⟩)
                  | (go_at_call 42; (with_reducible refine (Calls.later HB0.out (HTR.out _)).mono ?_); rintro e w1 ⟨rfl, s, rfl⟩)
                  | (go_at_call 43; (with_reducible refine (Calls.later HB0.out (HIT.out _)).mono ?_); rintro e w1 ⟨rfl, s, rfl⟩)
                  | (refine wpList_load_by (HL.out _) rfl rfl rfl ?_; simp only [Act.put, List.setIfInBounds_toArray, List.set_cons_succ, List.set_cons_zero])
                  | fail)
                go_ret
                refine ⟨?_, HBX.out.all _⟩
                rw [HKO.out]
                rfl
              | true =>
                cases e2 with
                | false =>
                  go_enter Tryd.func21, Tryd.ntmps21
                  go_wp2_with (first
                    | (go_at_call 37; (first | (with_reducible refine (HW1.out _).mono ?_) | (with_reducible refine (HW2.out _).mono ?_) | (with_reducible refine (HW3.out _).mono ?_) | (with_reducible refine (HW4.out _).mono ?_)); rintro e w1 ⟨rfl, rfl⟩)
                    | (go_at_call 36; (with_reducible refine (Calls.later HB0.out (HNM.out _)).mono ?_); rintro e w1 ⟨rfl, s, rfl⟩)
                    | (go_at_call 38; (with_reducible refine (Calls.later HB0.out (HCO.out _)).mono ?_); rintro e w1 ⟨rfl, s, rfl⟩)
                    | (go_at_call 39; (with_reducible refine (Calls.later HB0.out (HAL.out _)).mono ?_); rintro e w1 ⟨rfl, s, rfl⟩)
                    | (go_at_call 40; (with_reducible refine (Calls.later HB0.out (HVL.out (by first | trivial | rfl) _)).mono ?_); rintro e w1 ⟨rfl, s, rfl⟩)
                    | (go_at_call 41; (with_reducible refine (Calls.later HB0.out (HST.out _)).mono ?_); rintro e w1 ⟨rfl, s, rfl⟩)
                    | (go_at_call 42; (with_reducible refine (Calls.later HB0.out (HTR.out _)).mono ?_); rintro e w1 ⟨rfl, s, rfl⟩)
                    | (go_at_call 43; (with_reducible refine (Calls.later HB0.out (HIT.out _)).mono ?_); rintro e w1 ⟨rfl, s, rfl⟩)
                    | (refine wpList_load_by (HL.out _) rfl rfl rfl ?_; simp only [Act.put, List.setIfInBounds_toArray, List.set_cons_succ, List.set_cons_zero])
                    | fail)
                  go_ret
                  refine ⟨?_, HBX.out.all _⟩
                  rw [HKO.out]
                  rfl
                | true =>
                  go_enter Tryd.func21, Tryd.ntmps21
                  go_wp2_with (first
                    | (go_at_call 37; (first | (with_reducible refine (HW1.out _).mono ?_) | (with_reducible refine (HW2.out _).mono ?_) | (with_reducible refine (HW3.out _).mono ?_) | (with_reducible refine (HW4.out _).mono ?_)); rintro e w1 ⟨rfl, rfl⟩)
                    | (go_at_call 36; (with_reducible refine (Calls.later HB0.out (HNM.out _)).mono ?_); rintro e w1 ⟨rfl, s, rfl⟩)
                    | (go_at_call 38; (with_reducible refine (Calls.later HB0.out (HCO.out _)).mono ?_); rintro e w1 ⟨rfl, s, rfl⟩)
                    | (go_at_call 39; (with_reducible refine (Calls.later HB0.out (HAL.out _)).mono ?_); rintro e w1 ⟨rfl, s, rfl⟩)
                    | (go_at_call 40; (with_reducible refine (Calls.later HB0.out (HVL.out (by first | trivial | rfl) _)).mono ?_); rintro e w1 ⟨rfl, s, rfl⟩)
                    | (go_at_call 41; (with_reducible refine (Calls.later HB0.out (HST.out _)).mono ?_); rintro e w1 ⟨rfl, s, rfl⟩)
                    | (go_at_call 42; (with_reducible refine (Calls.later HB0.out (HTR.out _)).mono ?_); rintro e w1 ⟨rfl, s, rfl⟩)
                    | (go_at_call 43; (with_reducible refine (Calls.later HB0.out (HIT.out _)).mono ?_); rintro e w1 ⟨rfl, s, rfl⟩)
                    | (refine wpList_load_by (HL.out _) rfl rfl rfl ?_; simp only [Act.put, List.setIfInBounds_toArray, List.set_cons_succ, List.set_cons_zero])
                    | fail)
                  go_ret
                  refine ⟨?_, HBX.out.all _⟩
                  rw [HKO.out]
                  rfl
          · have g1' : (kind == 1) = false := by simpa using g1
            rw [if_neg g1] at HKO
            clear g1
            by_cases g2 : kind = 2
            · have g2' : (kind == 2) = true := by simpa using g2
              rw [if_pos g2] at HKO
              clear g2
              cases e3 with
              | false =>
                go_enter Tryd.func21, Tryd.ntmps21
                go_wp2_with (first
                  | (go_at_call 37; (first | (with_reducible refine (HW1.out _).mono ?_) | (with_reducible refine (HW2.out _).mono ?_) | (with_reducible refine (HW3.out _).mono ?_) | (with_reducible refine (HW4.out _).mono ?_)); rintro e w1 ⟨rfl, rfl⟩)
                  | (go_at_call 36; (with_reducible refine (Calls.later HB0.out (HNM.out _)).mono ?_); rintro e w1 ⟨rfl, s, rfl⟩)
                  | (go_at_call 38; (with_reducible refine (Calls.later HB0.out (HCO.out _)).mono ?_); rintro e w1 ⟨rfl, s, rfl⟩)
                  | (go_at_call 39; (with_reducible refine (Calls.later HB0.out (HAL.out _)).mono ?_); rintro e w1 ⟨rfl, s, rfl⟩)
                  | (go_at_call 40; (with_reducible refine (Calls.later HB0.out (HVL.out (by first | trivial | rfl) _)).mono ?_); rintro e w1 ⟨rfl, s, rfl⟩)
                  | (go_at_call 41; (with_reducible refine (Calls.later HB0.out (HST.out _)).mono ?_); rintro e w1 ⟨rfl, s, rfl⟩)
                  | (go_at_call 42; (with_reducible refine (Calls.later HB0.out (HTR.out _)).mono ?_); rintro e w1 ⟨rfl, s, rfl⟩)
                  | (go_at_call 43; (with_reducible refine (Calls.later HB0.out (HIT.out _)).mono ?_); rintro e w1 ⟨rfl, s, rfl⟩)
                  | (refine wpList_load_by (HL.out _) rfl rfl rfl ?_; simp only [Act.put, List.setIfInBounds_toArray, List.set_cons_succ, List.set_cons_zero])
                  | fail)
                go_ret
                refine ⟨?_, HBX.out.all _⟩
                rw [HKO.out]
                rfl
              | true =>
                cases k3 with
                | false =>
                  go_enter Tryd.func21, Tryd.ntmps21
                  go_wp2_with (first
                    | (go_at_call 37; (first | (with_reducible refine (HW1.out _).mono ?_) | (with_reducible refine (HW2.out _).mono ?_) | (with_reducible refine (HW3.out _).mono ?_) | (with_reducible refine (HW4.out _).mono ?_)); rintro e w1 ⟨rfl, rfl⟩)
                    | (go_at_call 36; (with_reducible refine (Calls.later HB0.out (HNM.out _)).mono ?_); rintro e w1 ⟨rfl, s, rfl⟩)
                    | (go_at_call 38; (with_reducible refine (Calls.later HB0.out (HCO.out _)).mono ?_); rintro e w1 ⟨rfl, s, rfl⟩)
                    | (go_at_call 39; (with_reducible refine (Calls.later HB0.out (HAL.out _)).mono ?_); rintro e w1 ⟨rfl, s, rfl⟩)
                    | (go_at_call 40; (with_reducible refine (Calls.later HB0.out (HVL.out (by first | trivial | rfl) _)).mono ?_); rintro e w1 ⟨rfl, s, rfl⟩)
                    | (go_at_call 41; (with_reducible refine (Calls.later HB0.out (HST.out _)).mono ?_); rintro e w1 ⟨rfl, s, rfl⟩)
                    | (go_at_call 42; (with_reducible refine (Calls.later HB0.out (HTR.out _)).mono ?_); rintro e w1 ⟨rfl, s, rfl⟩)
                    | (go_at_call 43; (with_reducible refine (Calls.later HB0.out (HIT.out _)).mono ?_); rintro e w1 ⟨rfl, s, rfl⟩)
                    | (refine wpList_load_by (HL.out _) rfl rfl rfl ?_; simp only [Act.put, List.setIfInBounds_toArray, List.set_cons_succ, List.set_cons_zero])
                    | fail)
                  go_ret
                  refine ⟨?_, HBX.out.all _⟩
                  rw [HKO.out]
                  rfl
                | true =>
                  cases k4 with
                  | false =>
                    go_enter Tryd.func21, Tryd.ntmps21
                    go_wp2_with (first
                      | (go_at_call 37; (first | (with_reducible refine (HW1.out _).mono ?_) | (with_reducible refine (HW2.out _).mono ?_) | (with_reducible refine (HW3.out _).mono ?_) | (with_reducible refine (HW4.out _).mono ?_)); rintro e w1 ⟨rfl, rfl⟩)
                      | (go_at_call 36; (with_reducible refine (Calls.later HB0.out (HNM.out _)).mono ?_); rintro e w1 ⟨rfl, s, rfl⟩)
                      | (go_at_call 38; (with_reducible refine (Calls.later HB0.out (HCO.out _)).mono ?_); rintro e w1 ⟨rfl, s, rfl⟩)
                      | (go_at_call 39; (with_reducible refine (Calls.later HB0.out (HAL.out _)).mono ?_); rintro e w1 ⟨rfl, s, rfl⟩)
                      | (go_at_call 40; (with_reducible refine (Calls.later HB0.out (HVL.out (by first | trivial | rfl) _)).mono ?_); rintro e w1 ⟨rfl, s, rfl⟩)
                      | (go_at_call 41; (with_reducible refine (Calls.later HB0.out (HST.out _)).mono ?_); rintro e w1 ⟨rfl, s, rfl⟩)
                      | (go_at_call 42; (with_reducible refine (Calls.later HB0.out (HTR.out _)).mono ?_); rintro e w1 ⟨rfl, s, rfl⟩)
                      | (go_at_call 43; (with_reducible refine (Calls.later HB0.out (HIT.out _)).mono ?_); rintro e w1 ⟨rfl, s, rfl⟩)
                      | (refine wpList_load_by (HL.out _) rfl rfl rfl ?_; simp only [Act.put, List.setIfInBounds_toArray, List.set_cons_succ, List.set_cons_zero])
                      | fail)
                    go_ret
                    refine ⟨?_, HBX.out.all _⟩
                    rw [HKO.out]
                    rfl
                  | true =>
                    cases e4 with
                    | false =>
                      go_enter Tryd.func21, Tryd.ntmps21
                      go_wp2_with (first
                        | (go_at_call 37; (first | (with_reducible refine (HW1.out _).mono ?_) | (with_reducible refine (HW2.out _).mono ?_) | (with_reducible refine (HW3.out _).mono ?_) | (with_reducible refine (HW4.out _).mono ?_)); rintro e w1 ⟨rfl, rfl⟩)
                        | (go_at_call 36; (with_reducible refine (Calls.later HB0.out (HNM.out _)).mono ?_); rintro e w1 ⟨rfl, s, rfl⟩)
                        | (go_at_call 38; (with_reducible refine (Calls.later HB0.out (HCO.out _)).mono ?_); rintro e w1 ⟨rfl, s, rfl⟩)
                        | (go_at_call 39; (with_reducible refine (Calls.later HB0.out (HAL.out _)).mono ?_); rintro e w1 ⟨rfl, s, rfl⟩)
                        | (go_at_call 40; (with_reducible refine (Calls.later HB0.out (HVL.out (by first | trivial | rfl) _)).mono ?_); rintro e w1 ⟨rfl, s, rfl⟩)
                        | (go_at_call 41; (with_reducible refine (Calls.later HB0.out (HST.out _)).mono ?_); rintro e w1 ⟨rfl, s, rfl⟩)
                        | (go_at_call 42; (with_reducible refine (Calls.later HB0.out (HTR.out _)).mono ?_); rintro e w1 ⟨rfl, s, rfl⟩)
                        | (go_at_call 43; (with_reducible refine (Calls.later HB0.out (HIT.out _)).mono ?_); rintro e w1 ⟨rfl, s, rfl⟩)
                        | (refine wpList_load_by (HL.out _) rfl rfl rfl ?_; simp only [Act.put, List.setIfInBounds_toArray, List.set_cons_succ, List.set_cons_zero])
                        | fail)
                      go_ret
                      refine ⟨?_, HBX.out.all _⟩
                      rw [HKO.out]
                      rfl
                    | true =>
                      go_enter Tryd.func21, Tryd.ntmps21
                      go_wp2_with (first
                        | (go_at_call 37; (first | (with_reducible refine (HW1.out _).mono ?_) | (with_reducible refine (HW2.out _).mono ?_) | (with_reducible refine (HW3.out _).mono ?_) | (with_reducible refine (HW4.out _).mono ?_)); rintro e w1 ⟨rfl, rfl⟩)
                        | (go_at_call 36; (with_reducible refine (Calls.later HB0.out (HNM.out _)).mono ?_); rintro e w1 ⟨rfl, s, rfl⟩)
                        | (go_at_call 38; (with_reducible refine (Calls.later HB0.out (HCO.out _)).mono ?_); rintro e w1 ⟨rfl, s, rfl⟩)
                        | (go_at_call 39; (with_reducible refine (Calls.later HB0.out (HAL.out _)).mono ?_); rintro e w1 ⟨rfl, s, rfl⟩)
                        | (go_at_call 40; (with_reducible refine (Calls.later HB0.out (HVL.out (by first | trivial | rfl) _)).mono ?_); rintro e w1 ⟨rfl, s, rfl⟩)
                        | (go_at_call 41; (with_reducible refine (Calls.later HB0.out (HST.out _)).mono ?_); rintro e w1 ⟨rfl, s, rfl⟩)
                        | (go_at_call 42; (with_reducible refine (Calls.later HB0.out (HTR.out _)).mono ?_); rintro e w1 ⟨rfl, s, rfl⟩)
                        | (go_at_call 43; (with_reducible refine (Calls.later HB0.out (HIT.out _)).mono ?_); rintro e w1 ⟨rfl, s, rfl⟩)
                        | (refine wpList_load_by (HL.out _) rfl rfl rfl ?_; simp only [Act.put, List.setIfInBounds_toArray, List.set_cons_succ, List.set_cons_zero])
                        | fail)
                      go_ret
                      refine ⟨?_, HBX.out.all _⟩
                      rw [HKO.out]
                      rfl
            · have g2' : (kind == 2) = false := by simpa using g2
              rw [if_neg g2] at HKO
              clear g2
              by_cases g3 : kind = 3
              · have g3' : (kind == 3) = true := by simpa using g3
                rw [if_pos (Or.inl g3)] at HKO
                clear g3
                cases k6
                all_goals (
                  cases e3 with
                  | false =>
                    go_enter Tryd.func21, Tryd.ntmps21
                    go_wp2_with (first
                      | (go_at_call 37; (first | (with_reducible refine (HW1.out _).mono ?_) | (with_reducible refine (HW2.out _).mono ?_) | (with_reducible refine (HW3.out _).mono ?_) | (with_reducible refine (HW4.out _).mono ?_)); rintro e w1 ⟨rfl, rfl⟩)
                      | (go_at_call 36; (with_reducible refine (Calls.later HB0.out (HNM.out _)).mono ?_); rintro e w1 ⟨rfl, s, rfl⟩)
                      | (go_at_call 38; (with_reducible refine (Calls.later HB0.out (HCO.out _)).mono ?_); rintro e w1 ⟨rfl, s, rfl⟩)
                      | (go_at_call 39; (with_reducible refine (Calls.later HB0.out (HAL.out _)).mono ?_); rintro e w1 ⟨rfl, s, rfl⟩)
                      | (go_at_call 40; (with_reducible refine (Calls.later HB0.out (HVL.out (by first | trivial | rfl) _)).mono ?_); rintro e w1 ⟨rfl, s, rfl⟩)
                      | (go_at_call 41; (with_reducible refine (Calls.later HB0.out (HST.out _)).mono ?_); rintro e w1 ⟨rfl, s, rfl⟩)
                      | (go_at_call 42; (with_reducible refine (Calls.later HB0.out (HTR.out _)).mono ?_); rintro e w1 ⟨rfl, s, rfl⟩)
                      | (go_at_call 43; (with_reducible refine (Calls.later HB0.out (HIT.out _)).mono ?_); rintro e w1 ⟨rfl, s, rfl⟩)
                      | (refine wpList_load_by (HL.out _) rfl rfl rfl ?_; simp only [Act.put, List.setIfInBounds_toArray, List.set_cons_succ, List.set_cons_zero])
                      | fail)
                    go_ret
                    refine ⟨?_, HBX.out.all _⟩
                    rw [HKO.out]
                    rfl
                  | true =>
                    cases e5 with
                    | false =>
                      have p6 : ¬ (0 < ne) := of_decide_eq_false p5
                      have p7 : ¬ ((0 : Int) < ne) := by omega
                      have p8 : decide ((0 : Int) < ne) = false := decide_eq_false p7
                      clear p5 p6
                      go_enter Tryd.func21, Tryd.ntmps21
                      go_wp2_with (first
                        | (go_at_call 37; (first | (with_reducible refine (HW1.out _).mono ?_) | (with_reducible refine (HW2.out _).mono ?_) | (with_reducible refine (HW3.out _).mono ?_) | (with_reducible refine (HW4.out _).mono ?_)); rintro e w1 ⟨rfl, rfl⟩)
                        | (go_at_call 36; (with_reducible refine (Calls.later HB0.out (HNM.out _)).mono ?_); rintro e w1 ⟨rfl, s, rfl⟩)
                        | (go_at_call 38; (with_reducible refine (Calls.later HB0.out (HCO.out _)).mono ?_); rintro e w1 ⟨rfl, s, rfl⟩)
                        | (go_at_call 39; (with_reducible refine (Calls.later HB0.out (HAL.out _)).mono ?_); rintro e w1 ⟨rfl, s, rfl⟩)
                        | (go_at_call 40; (with_reducible refine (Calls.later HB0.out (HVL.out (by first | trivial | rfl) _)).mono ?_); rintro e w1 ⟨rfl, s, rfl⟩)
                        | (go_at_call 41; (with_reducible refine (Calls.later HB0.out (HST.out _)).mono ?_); rintro e w1 ⟨rfl, s, rfl⟩)
                        | (go_at_call 42; (with_reducible refine (Calls.later HB0.out (HTR.out _)).mono ?_); rintro e w1 ⟨rfl, s, rfl⟩)
                        | (go_at_call 43; (with_reducible refine (Calls.later HB0.out (HIT.out _)).mono ?_); rintro e w1 ⟨rfl, s, rfl⟩)
                        | (refine wpList_load_by (HL.out _) rfl rfl rfl ?_; simp only [Act.put, List.setIfInBounds_toArray, List.set_cons_succ, List.set_cons_zero])
                        | fail)
                      go_ret
                      refine ⟨?_, HBX.out.all _⟩
                      rw [HKO.out]
                      rfl
                    | true =>
                      have p6 : 0 < ne := of_decide_eq_true p5
                      have p7 : ((0 : Int) < ne) := by omega
                      clear p5
                      go_enter Tryd.func21, Tryd.ntmps21
                      go_wp2_with (first
                        | (go_at_call 37; (first | (with_reducible refine (HW1.out _).mono ?_) | (with_reducible refine (HW2.out _).mono ?_) | (with_reducible refine (HW3.out _).mono ?_) | (with_reducible refine (HW4.out _).mono ?_)); rintro e w1 ⟨rfl, rfl⟩)
                        | (go_at_call 36; (with_reducible refine (Calls.later HB0.out (HNM.out _)).mono ?_); rintro e w1 ⟨rfl, s, rfl⟩)
                        | (go_at_call 38; (with_reducible refine (Calls.later HB0.out (HCO.out _)).mono ?_); rintro e w1 ⟨rfl, s, rfl⟩)
                        | (go_at_call 39; (with_reducible refine (Calls.later HB0.out (HAL.out _)).mono ?_); rintro e w1 ⟨rfl, s, rfl⟩)
                        | (go_at_call 40; (with_reducible refine (Calls.later HB0.out (HVL.out (by first | trivial | rfl) _)).mono ?_); rintro e w1 ⟨rfl, s, rfl⟩)
                        | (go_at_call 41; (with_reducible refine (Calls.later HB0.out (HST.out _)).mono ?_); rintro e w1 ⟨rfl, s, rfl⟩)
                        | (go_at_call 42; (with_reducible refine (Calls.later HB0.out (HTR.out _)).mono ?_); rintro e w1 ⟨rfl, s, rfl⟩)
                        | (go_at_call 43; (with_reducible refine (Calls.later HB0.out (HIT.out _)).mono ?_); rintro e w1 ⟨rfl, s, rfl⟩)
                        | (refine wpList_load_by (HL.out _) rfl rfl rfl ?_; simp only [Act.put, List.setIfInBounds_toArray, List.set_cons_succ, List.set_cons_zero])
                        | fail)
                      go_ret
                      refine ⟨?_, HBX.out.all _⟩
                      rw [HKO.out]
                      rfl)
              · have g3' : (kind == 3) = false := by simpa using g3
                by_cases g4 : kind = 4
                · have g4' : (kind == 4) = true := by simpa using g4
                  rw [if_pos (Or.inr g4)] at HKO
                  clear g4 g3
                  cases k6
                  all_goals (
                    cases e3 with
                    | false =>
                      go_enter Tryd.func21, Tryd.ntmps21
                      go_wp2_with (first
                        | (go_at_call 37; (first | (with_reducible refine (HW1.out _).mono ?_) | (with_reducible refine (HW2.out _).mono ?_) | (with_reducible refine (HW3.out _).mono ?_) | (with_reducible refine (HW4.out _).mono ?_)); rintro e w1 ⟨rfl, rfl⟩)
                        | (go_at_call 36; (with_reducible refine (Calls.later HB0.out (HNM.out _)).mono ?_); rintro e w1 ⟨rfl, s, rfl⟩)
                        | (go_at_call 38; (with_reducible refine (Calls.later HB0.out (HCO.out _)).mono ?_); rintro e w1 ⟨rfl, s, rfl⟩)
                        | (go_at_call 39; (with_reducible refine (Calls.later HB0.out (HAL.out _)).mono ?_); rintro e w1 ⟨rfl, s, rfl⟩)
                        | (go_at_call 40; (with_reducible refine (Calls.later HB0.out (HVL.out (by first | trivial | rfl) _)).mono ?_); rintro e w1 ⟨rfl, s, rfl⟩)
                        | (go_at_call 41; (with_reducible refine (Calls.later HB0.out (HST.out _)).mono ?_); rintro e w1 ⟨rfl, s, rfl⟩)
                        | (go_at_call 42; (with_reducible refine (Calls.later HB0.out (HTR.out _)).mono ?_); rintro e w1 ⟨rfl, s, rfl⟩)
                        | (go_at_call 43; (with_reducible refine (Calls.later HB0.out (HIT.out _)).mono ?_); rintro e w1 ⟨rfl, s, rfl⟩)
                        | (refine wpList_load_by (HL.out _) rfl rfl rfl ?_; simp only [Act.put, List.setIfInBounds_toArray, List.set_cons_succ, List.set_cons_zero])
                        | fail)
                      go_ret
                      refine ⟨?_, HBX.out.all _⟩
                      rw [HKO.out]
                      rfl
                    | true =>
                      cases e5 with
                      | false =>
                        have p6 : ¬ (0 < ne) := of_decide_eq_false p5
                        have p7 : ¬ ((0 : Int) < ne) := by omega
                        have p8 : decide ((0 : Int) < ne) = false := decide_eq_false p7
                        clear p5 p6
                        go_enter Tryd.func21, Tryd.ntmps21
                        go_wp2_with (first
                          | (go_at_call 37; (first | (with_reducible refine (HW1.out _).mono ?_) | (with_reducible refine (HW2.out _).mono ?_) | (with_reducible refine (HW3.out _).mono ?_) | (with_reducible refine (HW4.out _).mono ?_)); rintro e w1 ⟨rfl, rfl⟩)
                          | (go_at_call 36; (with_reducible refine (Calls.later HB0.out (HNM.out _)).mono ?_); rintro e w1 ⟨rfl, s, rfl⟩)
                          | (go_at_call 38; (with_reducible refine (Calls.later HB0.out (HCO.out _)).mono ?_); rintro e w1 ⟨rfl, s, rfl⟩)
                          | (go_at_call 39; (with_reducible refine (Calls.later HB0.out (HAL.out _)).mono ?_); rintro e w1 ⟨rfl, s, rfl⟩)
                          | (go_at_call 40; (with_reducible refine (Calls.later HB0.out (HVL.out (by first | trivial | rfl) _)).mono ?_); rintro e w1 ⟨rfl, s, rfl⟩)
                          | (go_at_call 41; (with_reducible refine (Calls.later HB0.out (HST.out _)).mono ?_); rintro e w1 ⟨rfl, s, rfl⟩)
                          | (go_at_call 42; (with_reducible refine (Calls.later HB0.out (HTR.out _)).mono ?_); rintro e w1 ⟨rfl, s, rfl⟩)
                          | (go_at_call 43; (with_reducible refine (Calls.later HB0.out (HIT.out _)).mono ?_); rintro e w1 ⟨rfl, s, rfl⟩)
                          | (refine wpList_load_by (HL.out _) rfl rfl rfl ?_; simp only [Act.put, List.setIfInBounds_toArray, List.set_cons_succ, List.set_cons_zero])
                          | fail)
                        go_ret
                        refine ⟨?_, HBX.out.all _⟩
                        rw [HKO.out]
                        rfl
                      | true =>
                        have p6 : 0 < ne := of_decide_eq_true p5
                        have p7 : ((0 : Int) < ne) := by omega
                        clear p5
                        go_enter Tryd.func21, Tryd.ntmps21
                        go_wp2_with (first
                          | (go_at_call 37; (first | (with_reducible refine (HW1.out _).mono ?_) | (with_reducible refine (HW2.out _).mono ?_) | (with_reducible refine (HW3.out _).mono ?_) | (with_reducible refine (HW4.out _).mono ?_)); rintro e w1 ⟨rfl, rfl⟩)
                          | (go_at_call 36; (with_reducible refine (Calls.later HB0.out (HNM.out _)).mono ?_); rintro e w1 ⟨rfl, s, rfl⟩)
                          | (go_at_call 38; (with_reducible refine (Calls.later HB0.out (HCO.out _)).mono ?_); rintro e w1 ⟨rfl, s, rfl⟩)
                          | (go_at_call 39; (with_reducible refine (Calls.later HB0.out (HAL.out _)).mono ?_); rintro e w1 ⟨rfl, s, rfl⟩)
                          | (go_at_call 40; (with_reducible refine (Calls.later HB0.out (HVL.out (by first | trivial | rfl) _)).mono ?_); rintro e w1 ⟨rfl, s, rfl⟩)
                          | (go_at_call 41; (with_reducible refine (Calls.later HB0.out (HST.out _)).mono ?_); rintro e w1 ⟨rfl, s, rfl⟩)
                          | (go_at_call 42; (with_reducible refine (Calls.later HB0.out (HTR.out _)).mono ?_); rintro e w1 ⟨rfl, s, rfl⟩)
                          | (go_at_call 43; (with_reducible refine (Calls.later HB0.out (HIT.out _)).mono ?_); rintro e w1 ⟨rfl, s, rfl⟩)
                          | (refine wpList_load_by (HL.out _) rfl rfl rfl ?_; simp only [Act.put, List.setIfInBounds_toArray, List.set_cons_succ, List.set_cons_zero])
                          | fail)
                        go_ret
                        refine ⟨?_, HBX.out.all _⟩
                        rw [HKO.out]
                        rfl)
                · have g4' : (kind == 4) = false := by simpa using g4
                  rw [if_neg (by rintro (h | h); exact g3 h; exact g4 h)] at HKO
                  clear g4 g3
                  go_enter Tryd.func21, Tryd.ntmps21
                  go_wp2_with (first
                    | (go_at_call 37; (first | (with_reducible refine (HW1.out _).mono ?_) | (with_reducible refine (HW2.out _).mono ?_) | (with_reducible refine (HW3.out _).mono ?_) | (with_reducible refine (HW4.out _).mono ?_)); rintro e w1 ⟨rfl, rfl⟩)
                    | (go_at_call 36; (with_reducible refine (Calls.later HB0.out (HNM.out _)).mono ?_); rintro e w1 ⟨rfl, s, rfl⟩)
                    | (go_at_call 38; (with_reducible refine (Calls.later HB0.out (HCO.out _)).mono ?_); rintro e w1 ⟨rfl, s, rfl⟩)
                    | (go_at_call 39; (with_reducible refine (Calls.later HB0.out (HAL.out _)).mono ?_); rintro e w1 ⟨rfl, s, rfl⟩)
                    | (go_at_call 40; (with_reducible refine (Calls.later HB0.out (HVL.out (by first | trivial | rfl) _)).mono ?_); rintro e w1 ⟨rfl, s, rfl⟩)
                    | (go_at_call 41; (with_reducible refine (Calls.later HB0.out (HST.out _)).mono ?_); rintro e w1 ⟨rfl, s, rfl⟩)
                    | (go_at_call 42; (with_reducible refine (Calls.later HB0.out (HTR.out _)).mono ?_); rintro e w1 ⟨rfl, s, rfl⟩)
                    | (go_at_call 43; (with_reducible refine (Calls.later HB0.out (HIT.out _)).mono ?_); rintro e w1 ⟨rfl, s, rfl⟩)
                    | (refine wpList_load_by (HL.out _) rfl rfl rfl ?_; simp only [Act.put, List.setIfInBounds_toArray, List.set_cons_succ, List.set_cons_zero])
                    | fail)
                  go_ret
                  refine ⟨?_, HBX.out.all _⟩
                  rw [HKO.out]
                  rfl
end Go.Proofs.YtpbbemmjodegkaaDoor
