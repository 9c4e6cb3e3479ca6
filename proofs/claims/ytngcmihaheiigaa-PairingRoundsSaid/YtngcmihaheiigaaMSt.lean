/-
  The model's start.
-/
import Derived.Test.YtngcmihaheiigaaMPr
import Derived.Test.YtngcmihaheiigaaHldP
set_option linter.unusedSimpArgs false
set_option linter.unusedVariables false
namespace Go.Proofs.Ytngcmihaheiigaa
open Go.RowKit

/-- The model's start's end: all but the model's own cells. -/
structure PreM (w : World) (B p : Nat) (y : MC) (n : Nat) (rounds : List (List D)) (scores : List (List Int)) (m : List D) (A4 : Option Addr) (c4 : Nat) (A6 : Option Addr) (c6 : Nat) (cs : Array Value) (RA : Option Addr) (rn rc : Nat) (rs : List Sl) (SA : Option Addr) (sn sc : Nat) (ss : List Sl) (W : World) : Prop where
  P : Blk W p 45 cs
  R : XOwns W B 29 1 RA rn rc (svs rs)
  S : XOwns W B 66 1 SA sn sc (svs ss)
  ird : ∀ (k : Nat) (s : Sl) (l : List D), y.rs[k]? = some s → rounds[k]? = some l → XOwns W B 33 2 s.A s.n s.c (dcells l)
  isc : ∀ (k : Nat) (s : Sl) (l : List Int), y.ss[k]? = some s → scores[k]? = some l → XOwns W B 34 1 s.A s.n s.c (ics l)
  Dl : XOwns W w.heap.size 33 2 A4 m.length c4 (dcells m)
  Z : XOwns W w.heap.size 34 1 A6 m.length c6 (ics (initS m))
  F : OnlyF (MutM p y) w W
section
variable {w W W' : World} {B p n c4 c6 rn rc sn sc : Nat} {y : MC} {rounds : List (List D)} {scores : List (List Int)} {m : List D} {A4 A6 RA SA : Option Addr} {cs : Array Value} {rs ss : List Sl}
theorem PreM.below (h : PreM w B p y n rounds scores m A4 c4 A6 c6 cs RA rn rc rs SA sn sc ss W) (hb : Below W.heap.size W W') : PreM w B p y n rounds scores m A4 c4 A6 c6 cs RA rn rc rs SA sn sc ss W' :=
  ⟨h.P.call hb, h.R.below hb, h.S.below hb, fun k s l h1 h2 => (h.ird k s l h1 h2).below hb, fun k s l h1 h2 => (h.isc k s l h1 h2).below hb, h.Dl.below hb, h.Z.below hb, h.F.then hb⟩
theorem PreM.appR (h : PreM w B p y n rounds scores m A4 c4 A6 c6 cs RA rn rc rs SA sn sc ss W) (hg : W.grownBy W' (blkOf RA)) {RA' : Option Addr} {rn' rc' : Nat} {rs' : List Sl} (hR : XOwns W' B 29 1 RA' rn' rc' (svs rs')) (hF : ∀ i, blkOf RA = some i → MutM p y i) : PreM w B p y n rounds scores m A4 c4 A6 c6 cs RA' rn' rc' rs' SA sn sc ss W' :=
  ⟨h.P.grown hg (Ne.symm (h.R.apart_blk h.P (by decide))), hR, h.S.grown hg (h.S.apart h.R (by decide)), fun k s l h1 h2 => (h.ird k s l h1 h2).grown hg ((h.ird k s l h1 h2).apart h.R (by decide)), fun k s l h1 h2 => (h.isc k s l h1 h2).grown hg ((h.isc k s l h1 h2).apart h.R (by decide)), h.Dl.grown hg (h.Dl.apart h.R (by decide)), h.Z.grown hg (h.Z.apart h.R (by decide)), h.F.trans (OnlyF.of_grown (F := MutM p y) hg hF) (fun _ hf _ => hf)⟩
theorem PreM.appS (h : PreM w B p y n rounds scores m A4 c4 A6 c6 cs RA rn rc rs SA sn sc ss W) (hg : W.grownBy W' (blkOf SA)) {SA' : Option Addr} {sn' sc' : Nat} {ss' : List Sl} (hS : XOwns W' B 66 1 SA' sn' sc' (svs ss')) (hF : ∀ i, blkOf SA = some i → MutM p y i) : PreM w B p y n rounds scores m A4 c4 A6 c6 cs RA rn rc rs SA' sn' sc' ss' W' :=
  ⟨h.P.grown hg (Ne.symm (h.S.apart_blk h.P (by decide))), h.R.grown hg (h.R.apart h.S (by decide)), hS, fun k s l h1 h2 => (h.ird k s l h1 h2).grown hg ((h.ird k s l h1 h2).apart h.S (by decide)), fun k s l h1 h2 => (h.isc k s l h1 h2).grown hg ((h.isc k s l h1 h2).apart h.S (by decide)), h.Dl.grown hg (h.Dl.apart h.S (by decide)), h.Z.grown hg (h.Z.apart h.S (by decide)), h.F.trans (OnlyF.of_grown (F := MutM p y) hg hF) (fun _ hf _ => hf)⟩
theorem PreM.put (h : PreM w B p y n rounds scores m A4 c4 A6 c6 cs RA rn rc rs SA sn sc ss W) (i : Nat) (u : Value) : PreM w B p y n rounds scores m A4 c4 A6 c6 (cs.setIfInBounds i u) RA rn rc rs SA sn sc ss (W.setCell ⟨p, i, none⟩ u) :=
  ⟨h.P.put i u, h.R.put (h.R.apart_blk h.P (by decide)), h.S.put (h.S.apart_blk h.P (by decide)), fun k s l h1 h2 => (h.ird k s l h1 h2).put ((h.ird k s l h1 h2).apart_blk h.P (by decide)), fun k s l h1 h2 => (h.isc k s l h1 h2).put ((h.isc k s l h1 h2).apart_blk h.P (by decide)), h.Dl.put (h.Dl.apart_blk h.P (by decide)), h.Z.put (h.Z.apart_blk h.P (by decide)), h.F.put (p := ⟨p, i, none⟩) (.inl (.inl rfl)) u⟩
end
theorem mstart_fin {w W : World} {B p c4 c6 gR cR gS cS : Nat} {y : MC} {st : TS} {m : List D} {A4 A6 : Option Addr} (hT : Mn w B p st y) (hWF : (⟨st.n, st.rounds ++ [m], st.scores ++ [initS m], true⟩ : TS).WF) (hBw : B ≤ w.heap.size)
    (H : PreM w B p y st.n st.rounds st.scores m A4 c4 A6 c6 #[.int .i64 st.n, .slice (some ⟨gR, 0, none⟩) (st.rounds.length + 1) cR, .slice (some ⟨gS, 0, none⟩) (st.rounds.length + 1) cS, .bool true] (some ⟨gR, 0, none⟩) (st.rounds.length + 1) cR (y.rs ++ [⟨A4, m.length, c4⟩]) (some ⟨gS, 0, none⟩) (st.rounds.length + 1) cS (y.ss ++ [⟨A6, m.length, c6⟩]) W)
    (iR : blkOf y.RA = some gR ∨ w.heap.size ≤ gR) (iS : blkOf y.SA = some gS ∨ w.heap.size ≤ gS) :
    ∃ y', Mn W B p ⟨st.n, st.rounds ++ [m], st.scores ++ [initS m], true⟩ y' ∧ OnlyF (MutM p y) w W ∧ ∀ i, FootM p y' i → FootM p y i ∨ w.heap.size ≤ i := by
  have hrl := hT.rs_len
  have hsl := hT.ss_len
  refine ⟨⟨some ⟨gR, 0, none⟩, cR, y.rs ++ [⟨A4, m.length, c4⟩], some ⟨gS, 0, none⟩, cS, y.ss ++ [⟨A6, m.length, c6⟩]⟩, ⟨?_, hT.base, ?_, ?_, ?_, ?_, hWF⟩, H.F, ?_⟩
  · have := H.P
    simpa using this
  · have := H.R
    simpa using this
  · have := H.S
    simpa using this
  · intro k s l g1 g2
    rcases append_get g1 with h1 | ⟨hk, rfl⟩
    · rcases append_get g2 with h2 | ⟨hk, rfl⟩
      · exact H.ird k s l h1 h2
      · have h3 : k < y.rs.length := (List.getElem?_eq_some_iff.1 h1).1
        have hk' : k = st.rounds.length := hk
        omega
    · have hk' : k = y.rs.length := hk
      rcases append_get g2 with h2 | ⟨_, rfl⟩
      · have h3 : k < st.rounds.length := (List.getElem?_eq_some_iff.1 h2).1
        omega
      · exact H.Dl.more hBw
  · intro k s l g1 g2
    have hlen := hT.ok.len
    rcases append_get g1 with h1 | ⟨hk, rfl⟩
    · rcases append_get g2 with h2 | ⟨hk, rfl⟩
      · exact H.isc k s l h1 h2
      · have h3 : k < y.ss.length := (List.getElem?_eq_some_iff.1 h1).1
        have hk' : k = st.scores.length := hk
        omega
    · have hk' : k = y.ss.length := hk
      rcases append_get g2 with h2 | ⟨_, rfl⟩
      · have h3 : k < st.scores.length := (List.getElem?_eq_some_iff.1 h2).1
        omega
      · exact H.Z.more hBw
  · rintro i ((rfl | hi | hi) | ⟨k, s, hk, hi⟩ | ⟨k, s, hk, hi⟩)
    · exact .inl (.inl (.inl rfl))
    · injection hi with hi
      subst hi
      exact iR.imp (fun h => .inl (.inr (.inl h))) id
    · injection hi with hi
      subst hi
      exact iS.imp (fun h => .inl (.inr (.inr h))) id
    · rcases append_get hk with hk | ⟨_, rfl⟩
      · exact .inl (.inr (.inl ⟨k, s, hk, hi⟩))
      · exact .inr (H.Dl.lt i hi).1
    · rcases append_get hk with hk | ⟨_, rfl⟩
      · exact .inl (.inr (.inr ⟨k, s, hk, hi⟩))
      · exact .inr (H.Z.lt i hi).1
/-- What the model's start hands back. -/
def MStartEnd (B p : Nat) (st : TS) (y : MC) (w : World) (e : Ending) (w' : World) : Prop :=
  ∃ y' A c, e = .returned (.tuple #[.slice A st.sList.length c, .int .i64 st.sErr]) ∧ XOwns w' w.heap.size 33 2 A st.sList.length c (dcells st.sList) ∧ Mn w' B p st.start y' ∧ OnlyF (MutM p y) w w' ∧ ∀ i, FootM p y' i → FootM p y i ∨ w.heap.size ≤ i
theorem MStartEnd.bad {B p : Nat} {st : TS} {y : MC} {w w' : World} {n : Int} (h : Mn w B p st y) (he : st.sErr = n) (hn : n ≠ 0) (hb : Below w.heap.size w w') : MStartEnd B p st y w (.returned (.tuple #[.slice none 0 0, .int .i64 n])) w' := by
  have h1 : st.sList = [] := by unfold TS.sList; rw [if_neg (by omega)]
  have h2 : st.start = st := by unfold TS.start; rw [if_neg (by omega)]
  unfold MStartEnd
  rw [h1, h2, he]
  exact ⟨y, none, 0, rfl, XOwns.nil_ _ _ _ _, h.below hb, OnlyF.of_below hb, fun i hi => .inl hi⟩
theorem initS_snoc {l : List D} {d : D} : initS (l ++ [d]) = initS l ++ [if d.b < 0 then 2 else -1] := by simp [initS]

set_option maxRecDepth 100000 in
set_option maxHeartbeats 1600000 in
theorem mstart_any (B p : Nat) (st : TS) (y : MC) (w : World) (h : Mn w B p st y) : Calls Try.prog 15 #[.pointer (some ⟨p, 0, none⟩)] w (MStartEnd B p st y w) := by
  obtain ⟨RA, rc, rs, SA, sq, sts⟩ := y
  have HT0 := Lib.hid h
  have x1 : w.cell? ⟨p, 1, none⟩ = some (.slice RA st.rounds.length rc) := (h.blk.at_ 1).trans rfl
  have x3 : w.cell? ⟨p, 3, none⟩ = some (.bool st.open_) := (h.blk.at_ 3).trans rfl
  have HOK := Lib.hid h.ok
  cases hop : st.open_ with
  | true =>
    have HE : Hid (st.sErr = 8) := Lib.hid (by unfold TS.sErr; rw [hop]; rfl)
    rw [hop] at x3
    clear h
    go_enter Try.func15, Try.ntmps15
    go_wp2
    go_ret2
    exact MStartEnd.bad HT0.out HE.out (by decide) (Below.refl _ _)
  | false =>
    rw [hop] at x3
    by_cases hc : 13 ≤ st.rounds.length
    · have HE : Hid (st.sErr = 7) := Lib.hid (by unfold TS.sErr; rw [hop, if_neg (by decide), if_pos hc])
      have hc' : (13 : Int) ≤ st.rounds.length := by omega
      clear h
      go_enter Try.func15, Try.ntmps15
      go_wp2
      go_ret2
      exact MStartEnd.bad HT0.out HE.out (by decide) (Below.refl _ _)
    · have hc' : ¬ (13 : Int) ≤ st.rounds.length := by omega
      have hc2 : decide ((13 : Int) ≤ st.rounds.length) = false := decide_eq_false hc'
      cases hw : st.whole with
      | none =>
        have HE : Hid (st.sErr = 9) := Lib.hid (by unfold TS.sErr; rw [hop, if_neg (by decide), if_neg hc, if_pos hw])
        have HW : Hid (wholeS (frS st) st.ord = none) := Lib.hid hw
        clear h hw
        go_enter Try.func15, Try.ntmps15
        go_wp2_with (go_at_call 32; refine (mpairing_any B p st _ _ HT0.out).mono ?_; rw [HW.out]; rintro e w3 ⟨rfl, hb3⟩)
        go_ret2
        exact MStartEnd.bad HT0.out HE.out (by decide) hb3
      | some m =>
        have HW : Hid (wholeS (frS st) st.ord = some m) := Lib.hid hw
        have hst := start_mid hop (by omega) hw
        have HE : Hid (st.sErr = 0) := Lib.hid hst.1
        have HSL : Hid (st.sList = m) := Lib.hid hst.2.1
        have HST : Hid (st.start = ⟨st.n, st.rounds ++ [m], st.scores ++ [initS m], true⟩) := Lib.hid hst.2.2
        have HWF := Lib.hid (start_wf HOK.out hw (by omega))
        have hRO := TS.round_ok HOK.out hw
        have HRO := Lib.hid hRO
        have hml := round_len hRO
        have hn2 := HOK.out.n0.2
        have hpw := h.blk.lt
        have hBw : B ≤ w.heap.size := by have := h.base; omega
        clear h hw hst hRO hop
        go_enter Try.func15, Try.ntmps15
        go_wp2_with (go_at_call 32; refine (mpairing_any B p st _ _ HT0.out).mono ?_; rw [HW.out]; rintro e w3 ⟨A4, c4, rfl, ho3, hb3⟩; have HD3 := Lib.hid ho3; have hz3 := hb3.size; clear ho3)
        go_loopw [6, 7] (fun s i W => ∃ (k : Nat) (S : Option Addr) (c : Nat), k ≤ m.length ∧ s = .slice S k c ∧ i = .int .i64 k ∧ XOwns W w3.heap.size 34 1 S k c (ics (initS (m.take k))) ∧ Below w3.heap.size w3 W) (fun _ i _ => m.length - (intOf i).toNat)
        case atStart => exact ⟨0, none, 0, Nat.zero_le _, rfl, rfl, XOwns.nil_ _ _ _ _, Below.refl _ _⟩
        case round =>
          obtain ⟨k, A6, c6, hk, rfl, rfl, hO, hB⟩ := hrel
          have hz := hB.size
          have HO := Lib.hid hO
          clear hO
          by_cases hlt : k < m.length
          · have hlt' : (k : Int) < m.length := by omega
            obtain ⟨ad, rfl, -, c0, c1⟩ := duel_at (HD3.out.below hB).reads hlt
            have hdk := HRO.out.1 _ (List.mem_of_getElem? (dth_get hlt))
            have hdb : (dth m k).b = -1 ∨ 0 ≤ (dth m k).b := by rcases hdk.2.2 with h | h <;> omega
            have HIS : Hid (initS (m.take (k + 1)) = initS (m.take k) ++ [if (dth m k).b < 0 then 2 else -1]) := Lib.hid (by rw [take_snocD hlt, initS_snoc])
            clear hdk c0
            generalize (dth m k).b = db at *
            rcases hdb with rfl | hdb
            · have hal : Below wr.heap.size wr (wr.alloc (.cells #[.int .i64 2] 34)) := (Below.refl _ _).alloc (Nat.le_refl _) _
              have HBL := Lib.hid (Blk.mk_ wr 34 #[.int .i64 2] _ rfl)
              go_wp2_with (at_builtin; refine append_xr (w := (wr.alloc (.cells #[.int .i64 2] 34))) ?_ (.tmp 37) (.tmp 38) 66 ?_ w3.heap.size 34 (.int .i64 0) 1 8 Try.info34 Try.underlying66 rfl (by decide) A6 k c6 (ics (initS (m.take k))) ?_ (HO.out.below hal) (some ⟨wr.heap.size, 0, none⟩) 1 1 (ics [2]) ?_ (fun h => by cases h) (reads_block HBL.out 1 1 rfl) (ics_one _) ?_ ?_ ?_ ?_; rfl; rfl; rfl; rfl; omega; omega; (simp; omega); intro A5 c5 w5 ho5 hb5)
              go_roundw
              case rel => exact ⟨k + 1, A5, c5, by omega, rfl, by go_num, by rw [HIS.out, if_pos (by decide)]; (have h := ho5; rw [show ics (initS (m.take k)) ++ ics [2] = ics (initS (m.take k) ++ [2]) by simp [ics]] at h; exact h), (hB.trans (hal.mono hz)).trans hb5⟩
              case measure => simp [intOf]; omega
            · have hal : Below wr.heap.size wr (wr.alloc (.cells #[.int .i64 (-1)] 34)) := (Below.refl _ _).alloc (Nat.le_refl _) _
              have HBL := Lib.hid (Blk.mk_ wr 34 #[.int .i64 (-1)] _ rfl)
              have hne : (db == -1) = false := by rw [beq_eq_false_iff_ne]; omega
              go_wp2_with (at_builtin; refine append_xr (w := (wr.alloc (.cells #[.int .i64 (-1)] 34))) ?_ (.tmp 40) (.tmp 41) 66 ?_ w3.heap.size 34 (.int .i64 0) 1 8 Try.info34 Try.underlying66 rfl (by decide) A6 k c6 (ics (initS (m.take k))) ?_ (HO.out.below hal) (some ⟨wr.heap.size, 0, none⟩) 1 1 (ics [-1]) ?_ (fun h => by cases h) (reads_block HBL.out 1 1 rfl) (ics_one _) ?_ ?_ ?_ ?_; rfl; rfl; rfl; rfl; omega; omega; (simp; omega); intro A5 c5 w5 ho5 hb5)
              go_roundw
              case rel => exact ⟨k + 1, A5, c5, by omega, rfl, by go_num, by rw [HIS.out, if_neg (by omega)]; (have h := ho5; rw [show ics (initS (m.take k)) ++ ics [-1] = ics (initS (m.take k) ++ [-1]) by simp [ics]] at h; exact h), (hB.trans (hal.mono hz)).trans hb5⟩
              case measure => simp [intOf]; omega
          · obtain rfl : k = m.length := by omega
            have hBB := hb3.trans (hB.mono hz3)
            have HT4 := Lib.hid (HT0.out.below hBB)
            have HPR : Hid (PreM w B p ⟨RA, rc, rs, SA, sq, sts⟩ st.n st.rounds st.scores m A4 c4 A6 c6 #[.int .i64 st.n, .slice RA st.rounds.length rc, .slice SA st.rounds.length sq, .bool st.open_] RA st.rounds.length rc rs SA st.rounds.length sq sts wr) := Lib.hid ⟨HT4.out.blk, HT4.out.rds, HT4.out.scs, HT4.out.ird, HT4.out.isc, HD3.out.below hB, (by have h := HO.out; rw [List.take_length] at h; exact h.more hz3), OnlyF.of_below hBB⟩
            have hmut : ∀ i, blkOf RA = some i → MutM p ⟨RA, rc, rs, SA, sq, sts⟩ i := fun i hi => .inr (.inl hi)
            have hmut2 : ∀ i, blkOf SA = some i → MutM p ⟨RA, rc, rs, SA, sq, sts⟩ i := fun i hi => .inr (.inr hi)
            clear HD3 HO hB hb3 hBB HT4
            go_wp2
            have hNE : Nonempty (In (fun W => Blk W p 45 #[.int .i64 st.n, .slice RA st.rounds.length rc, .slice SA st.rounds.length sq, .bool st.open_])) := ⟨⟨_, HPR.out.P⟩⟩
            have z1 : ∀ s : In (fun W => Blk W p 45 #[.int .i64 st.n, .slice RA st.rounds.length rc, .slice SA st.rounds.length sq, .bool st.open_]), s.W.cell? ⟨p, 1, none⟩ = some (.slice RA st.rounds.length rc) := fun s => (s.h.at_ 1).trans rfl
            have z2 : ∀ s : In (fun W => Blk W p 45 #[.int .i64 st.n, .slice RA st.rounds.length rc, .slice SA st.rounds.length sq, .bool st.open_]), s.W.cell? ⟨p, 2, none⟩ = some (.slice SA st.rounds.length sq) := fun s => (s.h.at_ 2).trans rfl
            refine wp_region_late (Ph (fun w' => ∃ s : In (fun W => Blk W p 45 #[.int .i64 st.n, .slice RA st.rounds.length rc, .slice SA st.rounds.length sq, .bool st.open_]), w' = s.W) (fun _ => True)) [19] [0,1,2,3,4,5,6,7,10,11,12,13,14] (.two 8 [] (.two 9 [] (.one 15 [] (.one 16 [17,18] (.one 19 [20,21] (.one 22 [23,24] (.one 25 [] .done))))) 15 [] (.one 9 [] (.one 16 [17,18] (.one 19 [20,21] (.one 22 [23,24] (.one 25 [] .done)))))) 15 [] (.one 8 [] (.one 9 [] (.one 16 [17,18] (.one 19 [20,21] (.one 22 [23,24] (.one 25 [] .done))))))) (by kernel_rfl) (by kernel_rfl) (fun d _ _ _ _ h => by cases d <;> exact h) ⟨⟨_, HPR.out.P.drew⟩, rfl⟩ ?_
            refine quiet_as (C' := (fun w' => ∃ s : In (fun W => Blk W p 45 #[.int .i64 st.n, .slice RA st.rounds.length rc, .slice SA st.rounds.length sq, .bool st.open_]), w' = s.W)) rfl ?_
            simp only [opsAt, List.getElem?_toArray, List.getElem?_cons_succ, List.getElem?_cons_zero]
            repeat (go_big_quiet_step (fail))
            refine wpQuiet_nil ?_
            refine (show ∀ A B : Prop, A → B → A ∧ B from fun _ _ a b => ⟨a, b⟩) _ _ ?_ ?_
            · refine eff_as (C' := (fun w' => ∃ s : In (fun W => Blk W p 45 #[.int .i64 st.n, .slice RA st.rounds.length rc, .slice SA st.rounds.length sq, .bool st.open_]), w' = s.W)) rfl ?_
              (refine eff_lit rfl rfl (fun K hK => ?_))
              go_big_op
              have HBL1 := Lib.hid ((Blk.mk_ wr 29 #[.slice A4 m.length c4] _ rfl).drew)
              have HA1 := Lib.hid ((HPR.out.below ((Below.refl _ _).alloc (Nat.le_refl _) (.cells #[.slice A4 m.length c4] 29))).below (Below.refl _ _).drew)
              refine hK _ _ ⟨⟨_, HA1.out.P⟩, rfl⟩ ?_
              clear hK K
              simp only [opsAt, List.getElem?_toArray, List.getElem?_cons_succ, List.getElem?_cons_zero]
              repeat (go_big_quiet_step (fail))
              refine wpQuiet_nil ?_
              refine (show ∀ A B : Prop, A → B → A ∧ B from fun _ _ a b => ⟨a, b⟩) _ _ ?_ ?_
              · refine eff_as (C' := (fun w' => ∃ s : In (fun W => Blk W p 45 #[.int .i64 st.n, .slice RA st.rounds.length rc, .slice SA st.rounds.length sq, .bool st.open_]), w' = s.W)) rfl ?_
                (refine eff_lit rfl rfl (fun K hK => ?_))
                refine append_x_op (.tmp 49) (.tmp 51) 42 rfl B 29 (.slice none 0 0) 1 24 Try.info29 Try.underlying42 rfl (by decide) RA st.rounds.length rc (svs rs) rfl HA1.out.R (some ⟨wr.heap.size, 0, none⟩) 1 1 [.slice A4 m.length c4] rfl (reads_block HBL1.out 1 1 rfl) (by simp [Value.oneCell']) (by decide) (by omega) (by omega) (by have := HA1.out.F.size; omega) _ rfl ?_
                intro gR cR w5 hoR hgR hiR hltR
                simp only [Act.put, List.setIfInBounds_toArray, List.set_cons_succ, List.set_cons_zero]
                have HA2 := Lib.hid (HA1.out.appR hgR (rs' := rs ++ [⟨A4, m.length, c4⟩]) (by simpa [svs, Sl.v] using hoR) hmut)
                have hiR' : blkOf RA = some gR ∨ w.heap.size ≤ gR := hiR.imp id (fun e => by have := HA1.out.F.size; omega)
                clear hoR hgR
                refine hK _ _ ⟨⟨_, HA2.out.P⟩, rfl⟩ ?_
                clear hK K
                simp only [opsAt, List.getElem?_toArray, List.getElem?_cons_succ, List.getElem?_cons_zero]
                repeat (go_big_quiet_step (fail))
                refine wpQuiet_nil ?_
                refine eff_as (C' := (fun w' => ∃ s : In (fun W => Blk W p 45 #[.int .i64 st.n, .slice RA st.rounds.length rc, .slice SA st.rounds.length sq, .bool st.open_]), w' = s.W)) rfl ?_
                (refine eff_lit rfl rfl (fun K hK => ?_))
                go_big_op
                have HBL2 := Lib.hid (Blk.mk_ w5 66 #[.slice A6 m.length c6] _ rfl)
                have HA3 := Lib.hid (HA2.out.below ((Below.refl _ _).alloc (Nat.le_refl _) (.cells #[.slice A6 m.length c6] 66)))
                refine hK _ _ ⟨⟨_, HA3.out.P⟩, rfl⟩ ?_
                clear hK K
                simp only [opsAt, List.getElem?_toArray, List.getElem?_cons_succ, List.getElem?_cons_zero]
                repeat (go_big_quiet_step (fail))
                refine wpQuiet_nil ?_
                refine eff_as (C' := (fun w' => ∃ s : In (fun W => Blk W p 45 #[.int .i64 st.n, .slice RA st.rounds.length rc, .slice SA st.rounds.length sq, .bool st.open_]), w' = s.W)) rfl ?_
                (refine eff_lit rfl rfl (fun K hK => ?_))
                refine append_x_op (.tmp 56) (.tmp 58) 43 rfl B 66 (.slice none 0 0) 1 24 Try.info66 Try.underlying43 rfl (by decide) SA st.rounds.length sq (svs sts) rfl HA3.out.S (some ⟨w5.heap.size, 0, none⟩) 1 1 [.slice A6 m.length c6] rfl (reads_block HBL2.out 1 1 rfl) (by simp [Value.oneCell']) (by decide) (by omega) (by omega) (by have := HA3.out.F.size; omega) _ rfl ?_
                intro gS cS w6 hoS hgS hiS hltS
                simp only [Act.put, List.setIfInBounds_toArray, List.set_cons_succ, List.set_cons_zero]
                have HPE := Lib.hid (HA3.out.appS hgS (ss' := sts ++ [⟨A6, m.length, c6⟩]) (by simpa [svs, Sl.v] using hoS) hmut2)
                have hiS' : blkOf SA = some gS ∨ w.heap.size ≤ gS := hiS.imp id (fun e => by have := HA3.out.F.size; omega)
                clear hoS hgS
                refine hK _ _ ⟨⟨_, HPE.out.P⟩, rfl⟩ ?_
                clear hK K
                simp only [opsAt, List.getElem?_toArray, List.getElem?_cons_succ, List.getElem?_cons_zero]
                repeat (go_big_quiet_step (fail))
                refine wpQuiet_nil ?_
                have e1 := (HPE.out.P.at_ 1).trans rfl
                have e2 := (HPE.out.P.at_ 2).trans rfl
                have e3 := (HPE.out.P.at_ 3).trans rfl
                have f1 := HPE.out.P.free 1
                have f2 := HPE.out.P.free 2
                have f3 := HPE.out.P.free 3
                have hp6 := HPE.out.P.lt
                refine eff_as (C' := fun _ => True) rfl ?_
                (refine eff_lit rfl rfl (fun K hK => ?_))
                go_big_op
                refine hK _ _ trivial ?_
                clear hK K z1 z2 hNE
                simp only [opsAt, List.getElem?_toArray, List.getElem?_cons_succ, List.getElem?_cons_zero]
                repeat (go_big_quiet_step (fail))
                refine wpQuiet_nil ?_
                refine eff_as (C' := fun _ => True) rfl ?_
                (refine eff_lit rfl rfl (fun K hK => ?_))
                go_big_op
                refine hK _ _ trivial ?_
                clear hK K
                simp only [opsAt, List.getElem?_toArray, List.getElem?_cons_succ, List.getElem?_cons_zero]
                repeat (go_big_quiet_step (fail))
                refine wpQuiet_nil ?_
                refine eff_as (C' := fun _ => True) rfl ?_
                (refine eff_lit rfl rfl (fun K hK => ?_))
                go_big_op
                refine hK _ _ trivial ?_
                clear hK K e1 e2 e3 f1 f2 f3 hp6
                simp only [opsAt, List.getElem?_toArray, List.getElem?_cons_succ, List.getElem?_cons_zero]
                refine wpQuiet_nil ?_
                refine effs_done ?_
                have HFI := Lib.hid (((HPE.out.put 1 (.slice (some ⟨gR, 0, none⟩) (st.rounds.length + 1) cR)).put 2 (.slice (some ⟨gS, 0, none⟩) (st.rounds.length + 1) cS)).put 3 (.bool true))
                go_wp2
                go_ret2
                have hfi := mstart_fin HT0.out HWF.out hBw HFI.out hiR' hiS'
                obtain ⟨x', hx1, hx2, hx3⟩ := hfi
                unfold MStartEnd
                rw [HSL.out, HE.out, HST.out]
                exact ⟨x', A4, c4, rfl, HFI.out.Dl, hx1, hx2, hx3⟩
              · refine eff_as (C' := (fun w' => ∃ s : In (fun W => Blk W p 45 #[.int .i64 st.n, .slice RA st.rounds.length rc, .slice SA st.rounds.length sq, .bool st.open_]), w' = s.W)) rfl ?_
                (refine eff_lit rfl rfl (fun K hK => ?_))
                go_big_op
                have HBL1 := Lib.hid (((Blk.mk_ wr 29 #[.slice A4 m.length c4] _ rfl).alloc (.cells #[.slice A6 m.length c6] 66)).drew)
                have HBL2 := Lib.hid ((Blk.mk_ (wr.alloc (.cells #[.slice A4 m.length c4] 29)) 66 #[.slice A6 m.length c6] (wr.heap.size + 1) (by simp)).drew)
                have HA2 := Lib.hid (((HPR.out.below ((Below.refl _ _).alloc (Nat.le_refl _) (.cells #[.slice A4 m.length c4] 29))).below ((Below.refl _ _).alloc (Nat.le_refl _) (.cells #[.slice A6 m.length c6] 66))).below (Below.refl _ _).drew)
                refine hK _ _ ⟨⟨_, HA2.out.P⟩, rfl⟩ ?_
                clear hK K
                simp only [opsAt, List.getElem?_toArray, List.getElem?_cons_succ, List.getElem?_cons_zero]
                repeat (go_big_quiet_step (fail))
                refine wpQuiet_nil ?_
                refine eff_as (C' := (fun w' => ∃ s : In (fun W => Blk W p 45 #[.int .i64 st.n, .slice RA st.rounds.length rc, .slice SA st.rounds.length sq, .bool st.open_]), w' = s.W)) rfl ?_
                (refine eff_lit rfl rfl (fun K hK => ?_))
                refine append_x_op (.tmp 49) (.tmp 51) 42 rfl B 29 (.slice none 0 0) 1 24 Try.info29 Try.underlying42 rfl (by decide) RA st.rounds.length rc (svs rs) rfl HA2.out.R (some ⟨wr.heap.size, 0, none⟩) 1 1 [.slice A4 m.length c4] rfl (reads_block HBL1.out 1 1 rfl) (by simp [Value.oneCell']) (by decide) (by omega) (by omega) (by have := HA2.out.F.size; omega) _ rfl ?_
                intro gR cR w5 hoR hgR hiR hltR
                simp only [Act.put, List.setIfInBounds_toArray, List.set_cons_succ, List.set_cons_zero]
                have HA3 := Lib.hid (HA2.out.appR hgR (rs' := rs ++ [⟨A4, m.length, c4⟩]) (by simpa [svs, Sl.v] using hoR) hmut)
                have HBL2 := Lib.hid (HBL2.out.grown hgR (Ne.symm (HA2.out.R.apart_blk HBL2.out (by decide))))
                have hiR' : blkOf RA = some gR ∨ w.heap.size ≤ gR := hiR.imp id (fun e => by have := HA2.out.F.size; omega)
                clear hoR hgR
                refine hK _ _ ⟨⟨_, HA3.out.P⟩, rfl⟩ ?_
                clear hK K
                simp only [opsAt, List.getElem?_toArray, List.getElem?_cons_succ, List.getElem?_cons_zero]
                repeat (go_big_quiet_step (fail))
                refine wpQuiet_nil ?_
                refine eff_as (C' := (fun w' => ∃ s : In (fun W => Blk W p 45 #[.int .i64 st.n, .slice RA st.rounds.length rc, .slice SA st.rounds.length sq, .bool st.open_]), w' = s.W)) rfl ?_
                (refine eff_lit rfl rfl (fun K hK => ?_))
                refine append_x_op (.tmp 56) (.tmp 58) 43 rfl B 66 (.slice none 0 0) 1 24 Try.info66 Try.underlying43 rfl (by decide) SA st.rounds.length sq (svs sts) rfl HA3.out.S (some ⟨wr.heap.size + 1, 0, none⟩) 1 1 [.slice A6 m.length c6] rfl (reads_block HBL2.out 1 1 rfl) (by simp [Value.oneCell']) (by decide) (by omega) (by omega) (by have := HA3.out.F.size; omega) _ rfl ?_
                intro gS cS w6 hoS hgS hiS hltS
                simp only [Act.put, List.setIfInBounds_toArray, List.set_cons_succ, List.set_cons_zero]
                have HPE := Lib.hid (HA3.out.appS hgS (ss' := sts ++ [⟨A6, m.length, c6⟩]) (by simpa [svs, Sl.v] using hoS) hmut2)
                have hiS' : blkOf SA = some gS ∨ w.heap.size ≤ gS := hiS.imp id (fun e => by have := HA3.out.F.size; omega)
                clear hoS hgS
                refine hK _ _ ⟨⟨_, HPE.out.P⟩, rfl⟩ ?_
                clear hK K
                simp only [opsAt, List.getElem?_toArray, List.getElem?_cons_succ, List.getElem?_cons_zero]
                repeat (go_big_quiet_step (fail))
                refine wpQuiet_nil ?_
                have e1 := (HPE.out.P.at_ 1).trans rfl
                have e2 := (HPE.out.P.at_ 2).trans rfl
                have e3 := (HPE.out.P.at_ 3).trans rfl
                have f1 := HPE.out.P.free 1
                have f2 := HPE.out.P.free 2
                have f3 := HPE.out.P.free 3
                have hp6 := HPE.out.P.lt
                refine eff_as (C' := fun _ => True) rfl ?_
                (refine eff_lit rfl rfl (fun K hK => ?_))
                go_big_op
                refine hK _ _ trivial ?_
                clear hK K z1 z2 hNE
                simp only [opsAt, List.getElem?_toArray, List.getElem?_cons_succ, List.getElem?_cons_zero]
                repeat (go_big_quiet_step (fail))
                refine wpQuiet_nil ?_
                refine eff_as (C' := fun _ => True) rfl ?_
                (refine eff_lit rfl rfl (fun K hK => ?_))
                go_big_op
                refine hK _ _ trivial ?_
                clear hK K
                simp only [opsAt, List.getElem?_toArray, List.getElem?_cons_succ, List.getElem?_cons_zero]
                repeat (go_big_quiet_step (fail))
                refine wpQuiet_nil ?_
                refine eff_as (C' := fun _ => True) rfl ?_
                (refine eff_lit rfl rfl (fun K hK => ?_))
                go_big_op
                refine hK _ _ trivial ?_
                clear hK K e1 e2 e3 f1 f2 f3 hp6
                simp only [opsAt, List.getElem?_toArray, List.getElem?_cons_succ, List.getElem?_cons_zero]
                refine wpQuiet_nil ?_
                refine effs_done ?_
                have HFI := Lib.hid (((HPE.out.put 1 (.slice (some ⟨gR, 0, none⟩) (st.rounds.length + 1) cR)).put 2 (.slice (some ⟨gS, 0, none⟩) (st.rounds.length + 1) cS)).put 3 (.bool true))
                go_wp2
                go_ret2
                have hfi := mstart_fin HT0.out HWF.out hBw HFI.out hiR' hiS'
                obtain ⟨x', hx1, hx2, hx3⟩ := hfi
                unfold MStartEnd
                rw [HSL.out, HE.out, HST.out]
                exact ⟨x', A4, c4, rfl, HFI.out.Dl, hx1, hx2, hx3⟩
            · refine eff_as (C' := (fun w' => ∃ s : In (fun W => Blk W p 45 #[.int .i64 st.n, .slice RA st.rounds.length rc, .slice SA st.rounds.length sq, .bool st.open_]), w' = s.W)) rfl ?_
              (refine eff_lit rfl rfl (fun K hK => ?_))
              go_big_op
              have HA1 := Lib.hid ((HPR.out.below ((Below.refl _ _).alloc (Nat.le_refl _) (.cells #[.slice A6 m.length c6] 66))).below (Below.refl _ _).drew)
              refine hK _ _ ⟨⟨_, HA1.out.P⟩, rfl⟩ ?_
              clear hK K
              simp only [opsAt, List.getElem?_toArray, List.getElem?_cons_succ, List.getElem?_cons_zero]
              repeat (go_big_quiet_step (fail))
              refine wpQuiet_nil ?_
              refine eff_as (C' := (fun w' => ∃ s : In (fun W => Blk W p 45 #[.int .i64 st.n, .slice RA st.rounds.length rc, .slice SA st.rounds.length sq, .bool st.open_]), w' = s.W)) rfl ?_
              (refine eff_lit rfl rfl (fun K hK => ?_))
              go_big_op
              have HBL2 := Lib.hid (((Blk.mk_ wr 66 #[.slice A6 m.length c6] _ rfl).alloc (.cells #[.slice A4 m.length c4] 29)).drew)
              have HBL1 := Lib.hid ((Blk.mk_ (wr.alloc (.cells #[.slice A6 m.length c6] 66)) 29 #[.slice A4 m.length c4] (wr.heap.size + 1) (by simp)).drew)
              have HA2 := Lib.hid (((HPR.out.below ((Below.refl _ _).alloc (Nat.le_refl _) (.cells #[.slice A6 m.length c6] 66))).below ((Below.refl _ _).alloc (Nat.le_refl _) (.cells #[.slice A4 m.length c4] 29))).below (Below.refl _ _).drew)
              refine hK _ _ ⟨⟨_, HA2.out.P⟩, rfl⟩ ?_
              clear hK K
              simp only [opsAt, List.getElem?_toArray, List.getElem?_cons_succ, List.getElem?_cons_zero]
              repeat (go_big_quiet_step (fail))
              refine wpQuiet_nil ?_
              refine eff_as (C' := (fun w' => ∃ s : In (fun W => Blk W p 45 #[.int .i64 st.n, .slice RA st.rounds.length rc, .slice SA st.rounds.length sq, .bool st.open_]), w' = s.W)) rfl ?_
              (refine eff_lit rfl rfl (fun K hK => ?_))
              refine append_x_op (.tmp 49) (.tmp 51) 42 rfl B 29 (.slice none 0 0) 1 24 Try.info29 Try.underlying42 rfl (by decide) RA st.rounds.length rc (svs rs) rfl HA2.out.R (some ⟨wr.heap.size + 1, 0, none⟩) 1 1 [.slice A4 m.length c4] rfl (reads_block HBL1.out 1 1 rfl) (by simp [Value.oneCell']) (by decide) (by omega) (by omega) (by have := HA2.out.F.size; omega) _ rfl ?_
              intro gR cR w5 hoR hgR hiR hltR
              simp only [Act.put, List.setIfInBounds_toArray, List.set_cons_succ, List.set_cons_zero]
              have HA3 := Lib.hid (HA2.out.appR hgR (rs' := rs ++ [⟨A4, m.length, c4⟩]) (by simpa [svs, Sl.v] using hoR) hmut)
              have HBL2 := Lib.hid (HBL2.out.grown hgR (Ne.symm (HA2.out.R.apart_blk HBL2.out (by decide))))
              have hiR' : blkOf RA = some gR ∨ w.heap.size ≤ gR := hiR.imp id (fun e => by have := HA2.out.F.size; omega)
              clear hoR hgR
              refine hK _ _ ⟨⟨_, HA3.out.P⟩, rfl⟩ ?_
              clear hK K
              simp only [opsAt, List.getElem?_toArray, List.getElem?_cons_succ, List.getElem?_cons_zero]
              repeat (go_big_quiet_step (fail))
              refine wpQuiet_nil ?_
              refine eff_as (C' := (fun w' => ∃ s : In (fun W => Blk W p 45 #[.int .i64 st.n, .slice RA st.rounds.length rc, .slice SA st.rounds.length sq, .bool st.open_]), w' = s.W)) rfl ?_
              (refine eff_lit rfl rfl (fun K hK => ?_))
              refine append_x_op (.tmp 56) (.tmp 58) 43 rfl B 66 (.slice none 0 0) 1 24 Try.info66 Try.underlying43 rfl (by decide) SA st.rounds.length sq (svs sts) rfl HA3.out.S (some ⟨wr.heap.size, 0, none⟩) 1 1 [.slice A6 m.length c6] rfl (reads_block HBL2.out 1 1 rfl) (by simp [Value.oneCell']) (by decide) (by omega) (by omega) (by have := HA3.out.F.size; omega) _ rfl ?_
              intro gS cS w6 hoS hgS hiS hltS
              simp only [Act.put, List.setIfInBounds_toArray, List.set_cons_succ, List.set_cons_zero]
              have HPE := Lib.hid (HA3.out.appS hgS (ss' := sts ++ [⟨A6, m.length, c6⟩]) (by simpa [svs, Sl.v] using hoS) hmut2)
              have hiS' : blkOf SA = some gS ∨ w.heap.size ≤ gS := hiS.imp id (fun e => by have := HA3.out.F.size; omega)
              clear hoS hgS
              refine hK _ _ ⟨⟨_, HPE.out.P⟩, rfl⟩ ?_
              clear hK K
              simp only [opsAt, List.getElem?_toArray, List.getElem?_cons_succ, List.getElem?_cons_zero]
              repeat (go_big_quiet_step (fail))
              refine wpQuiet_nil ?_
              have e1 := (HPE.out.P.at_ 1).trans rfl
              have e2 := (HPE.out.P.at_ 2).trans rfl
              have e3 := (HPE.out.P.at_ 3).trans rfl
              have f1 := HPE.out.P.free 1
              have f2 := HPE.out.P.free 2
              have f3 := HPE.out.P.free 3
              have hp6 := HPE.out.P.lt
              refine eff_as (C' := fun _ => True) rfl ?_
              (refine eff_lit rfl rfl (fun K hK => ?_))
              go_big_op
              refine hK _ _ trivial ?_
              clear hK K z1 z2 hNE
              simp only [opsAt, List.getElem?_toArray, List.getElem?_cons_succ, List.getElem?_cons_zero]
              repeat (go_big_quiet_step (fail))
              refine wpQuiet_nil ?_
              refine eff_as (C' := fun _ => True) rfl ?_
              (refine eff_lit rfl rfl (fun K hK => ?_))
              go_big_op
              refine hK _ _ trivial ?_
              clear hK K
              simp only [opsAt, List.getElem?_toArray, List.getElem?_cons_succ, List.getElem?_cons_zero]
              repeat (go_big_quiet_step (fail))
              refine wpQuiet_nil ?_
              refine eff_as (C' := fun _ => True) rfl ?_
              (refine eff_lit rfl rfl (fun K hK => ?_))
              go_big_op
              refine hK _ _ trivial ?_
              clear hK K e1 e2 e3 f1 f2 f3 hp6
              simp only [opsAt, List.getElem?_toArray, List.getElem?_cons_succ, List.getElem?_cons_zero]
              refine wpQuiet_nil ?_
              refine effs_done ?_
              have HFI := Lib.hid (((HPE.out.put 1 (.slice (some ⟨gR, 0, none⟩) (st.rounds.length + 1) cR)).put 2 (.slice (some ⟨gS, 0, none⟩) (st.rounds.length + 1) cS)).put 3 (.bool true))
              go_wp2
              go_ret2
              have hfi := mstart_fin HT0.out HWF.out hBw HFI.out hiR' hiS'
              obtain ⟨x', hx1, hx2, hx3⟩ := hfi
              unfold MStartEnd
              rw [HSL.out, HE.out, HST.out]
              exact ⟨x', A4, c4, rfl, HFI.out.Dl, hx1, hx2, hx3⟩
end Go.Proofs.Ytngcmihaheiigaa
