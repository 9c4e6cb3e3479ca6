/-
  Start, where there is a pairing.
-/
import Derived.Test.YtngcmihaheiigaaStB
set_option linter.unusedSimpArgs false
set_option linter.unusedVariables false
namespace Go.Proofs.Ytngcmihaheiigaa
open Go.RowKit

theorem or_val {m b : Nat} (hm : m < 65536) (hb : b < 16) : bits .or .u16 (m : Int) (IntKind.u16.wrap ((2 : Int) ^ b)) = ((m ||| 2 ^ b : Nat) : Int) := by
  have h1 : (2 : Nat) ^ b < 2 ^ 16 := Nat.pow_lt_pow_right (by decide) hb
  have h2 : ((2 : Int) ^ b) = ((2 ^ b : Nat) : Int) := by simp
  rw [h2, wraps_u16 _ (Int.natCast_nonneg _) (by exact_mod_cast h1)]
  exact (bits_nat .u16 16 (by decide) wraps_u16 m (2 ^ b) (by omega) h1).2
theorem set_lt {n : Nat} {ms : List Nat} {f : Int → Int → Bool} (h : MetP n ms f) {a b ma : Nat} (hma : ms[a]? = some ma) (ha : a < n) (hb : b < 16) {c : Nat} (hc : c < n) : ∃ mb, (ms.set a (ma ||| 2 ^ b))[c]? = some mb ∧ mb < 65536 := by
  obtain ⟨mb, h1, h2, _⟩ := (h.set (b := b) ha hb).2 c hc
  rw [getD_nat hma] at h1
  exact ⟨mb, h1, h2⟩
/-- Midway in a round of Start's loop. -/
structure MidT (w4 : World) (B b3 gm gs p n L mc bx : Nat) (cs : Array Value) (ms' : List Nat) (zs : List Int) (a b : Int) (W : World) : Prop where
  P : Blk W p 57 cs
  X : Blk W bx 33 #[.int .i64 a, .int .i64 b]
  M : XOwns W B 67 1 (some ⟨gm, 0, none⟩) n mc (mcs ms')
  Z : XOwns W b3 34 1 (some ⟨gs, 0, none⟩) L L (ics zs)
  F : OnlyF (fun i => i = gm ∨ i = gs) w4 W
section
variable {w4 W W' : World} {B b3 gm gs p n L mc bx : Nat} {cs : Array Value} {ms' : List Nat} {zs : List Int} {a b : Int}
theorem MidT.below (h : MidT w4 B b3 gm gs p n L mc bx cs ms' zs a b W) (hb : Below W.heap.size W W') : MidT w4 B b3 gm gs p n L mc bx cs ms' zs a b W' :=
  ⟨h.P.call hb, h.X.call hb, h.M.below hb, h.Z.below hb, h.F.then hb⟩
theorem XOwns.storeM {w : World} {base : Nat} {e : TypeId} {g n c : Nat} {xs : List Nat} (h : XOwns w base e 1 (some ⟨g, 0, none⟩) n c (mcs xs)) (j u : Nat) : XOwns (w.setCell ⟨g, j, none⟩ (.int .u16 u)) base e 1 (some ⟨g, 0, none⟩) n c (mcs (xs.set j u)) := by
  refine ⟨?_, h.2⟩
  rw [show mcs (xs.set j u) = (mcs xs).set j (.int .u16 u) by simp [mcs]]
  exact (h.1.stored j (.int .u16 u)).1
theorem MidT.putM (h : MidT w4 B b3 gm gs p n L mc bx cs ms' zs a b W) (i u : Nat) : MidT w4 B b3 gm gs p n L mc bx cs (ms'.set i u) zs a b (W.setCell ⟨gm, i, none⟩ (.int .u16 u)) :=
  ⟨h.P.far (fun e => h.M.apart_blk h.P (by decide) (by rw [e]; rfl)) _, h.X.far (fun e => h.M.apart_blk h.X (by decide) (by rw [e]; rfl)) _, h.M.storeM i u, h.Z.put (fun e => by
    have := h.Z.apart h.M (by decide)
    rcases this with h1 | h1
    · cases h1
    · exact h1 (by rw [e]; rfl)), h.F.put (p := ⟨gm, i, none⟩) (.inl (.inl rfl)) _⟩
theorem MidT.putZ (h : MidT w4 B b3 gm gs p n L mc bx cs ms' zs a b W) (i : Nat) (u : Int) : MidT w4 B b3 gm gs p n L mc bx cs ms' (zs.set i u) a b (W.setCell ⟨gs, i, none⟩ (.int .i64 u)) :=
  ⟨h.P.far (fun e => h.Z.apart_blk h.P (by decide) (by rw [e]; rfl)) _, h.X.far (fun e => h.Z.apart_blk h.X (by decide) (by rw [e]; rfl)) _, h.M.put (fun e => by
    have := h.M.apart h.Z (by decide)
    rcases this with h1 | h1
    · cases h1
    · exact h1 (by rw [e]; rfl)), h.Z.store i u, h.F.put (p := ⟨gs, i, none⟩) (.inl (.inr rfl)) _⟩
theorem MidT.putX (h : MidT w4 B b3 gm gs p n L mc bx cs ms' zs a b W) (hbx : w4.heap.size ≤ bx) (u : Int) : MidT w4 B b3 gm gs p n L mc bx cs ms' zs a u (W.setCell ⟨bx, 1, none⟩ (.int .i64 u)) := by
  refine ⟨h.P.far (fun e => ?_) _, h.X.put 1 _, h.M.put (h.M.apart_blk h.X (by decide)), h.Z.put (h.Z.apart_blk h.X (by decide)), h.F.put (p := ⟨bx, 1, none⟩) (.inr hbx) _⟩
  have h1 := h.P
  have h2 := h.X
  have e' : p = bx := e
  rw [e'] at h1
  unfold Blk at h1 h2
  rw [h1] at h2
  injection h2 with h2
  injection h2 with _ h2
  cases h2
end

/-- Start's end: all but the tournament's own cells. -/
structure PreT (w : World) (B p : Nat) (x : TC) (n : Nat) (rounds : List (List D)) (scores : List (List Int)) (m : List D) (A4 : Option Addr) (c4 gs : Nat) (cs : Array Value) (ms' : List Nat) (RA : Option Addr) (rn rc : Nat) (rs : List Sl) (SA : Option Addr) (sn sc : Nat) (ss : List Sl) (W : World) : Prop where
  P : Blk W p 57 cs
  M : XOwns W B 67 1 x.mA n x.mc (mcs ms')
  R : XOwns W B 29 1 RA rn rc (svs rs)
  S : XOwns W B 66 1 SA sn sc (svs ss)
  ird : ∀ (k : Nat) (s : Sl) (l : List D), x.rs[k]? = some s → rounds[k]? = some l → XOwns W B 33 2 s.A s.n s.c (dcells l)
  isc : ∀ (k : Nat) (s : Sl) (l : List Int), x.ss[k]? = some s → scores[k]? = some l → XOwns W B 34 1 s.A s.n s.c (ics l)
  Dl : XOwns W w.heap.size 33 2 A4 m.length c4 (dcells m)
  Z : XOwns W w.heap.size 34 1 (some ⟨gs, 0, none⟩) m.length m.length (ics (initS m))
  F : OnlyF (MutT p x) w W
section
variable {w W W' : World} {B p n c4 gs rn rc sn sc : Nat} {x : TC} {rounds : List (List D)} {scores : List (List Int)} {m : List D} {A4 RA SA : Option Addr} {cs : Array Value} {ms' : List Nat} {rs ss : List Sl}
theorem PreT.below (h : PreT w B p x n rounds scores m A4 c4 gs cs ms' RA rn rc rs SA sn sc ss W) (hb : Below W.heap.size W W') : PreT w B p x n rounds scores m A4 c4 gs cs ms' RA rn rc rs SA sn sc ss W' :=
  ⟨h.P.call hb, h.M.below hb, h.R.below hb, h.S.below hb, fun k s l h1 h2 => (h.ird k s l h1 h2).below hb, fun k s l h1 h2 => (h.isc k s l h1 h2).below hb, h.Dl.below hb, h.Z.below hb, h.F.then hb⟩
theorem PreT.appR (h : PreT w B p x n rounds scores m A4 c4 gs cs ms' RA rn rc rs SA sn sc ss W) (hg : W.grownBy W' (blkOf RA)) {RA' : Option Addr} {rn' rc' : Nat} {rs' : List Sl} (hR : XOwns W' B 29 1 RA' rn' rc' (svs rs')) (hF : ∀ i, blkOf RA = some i → MutT p x i) : PreT w B p x n rounds scores m A4 c4 gs cs ms' RA' rn' rc' rs' SA sn sc ss W' :=
  ⟨h.P.grown hg (Ne.symm (h.R.apart_blk h.P (by decide))), h.M.grown hg (h.M.apart h.R (by decide)), hR, h.S.grown hg (h.S.apart h.R (by decide)), fun k s l h1 h2 => (h.ird k s l h1 h2).grown hg ((h.ird k s l h1 h2).apart h.R (by decide)), fun k s l h1 h2 => (h.isc k s l h1 h2).grown hg ((h.isc k s l h1 h2).apart h.R (by decide)), h.Dl.grown hg (h.Dl.apart h.R (by decide)), h.Z.grown hg (h.Z.apart h.R (by decide)), h.F.trans (OnlyF.of_grown (F := MutT p x) hg hF) (fun _ hf _ => hf)⟩
theorem PreT.appS (h : PreT w B p x n rounds scores m A4 c4 gs cs ms' RA rn rc rs SA sn sc ss W) (hg : W.grownBy W' (blkOf SA)) {SA' : Option Addr} {sn' sc' : Nat} {ss' : List Sl} (hS : XOwns W' B 66 1 SA' sn' sc' (svs ss')) (hF : ∀ i, blkOf SA = some i → MutT p x i) : PreT w B p x n rounds scores m A4 c4 gs cs ms' RA rn rc rs SA' sn' sc' ss' W' :=
  ⟨h.P.grown hg (Ne.symm (h.S.apart_blk h.P (by decide))), h.M.grown hg (h.M.apart h.S (by decide)), h.R.grown hg (h.R.apart h.S (by decide)), hS, fun k s l h1 h2 => (h.ird k s l h1 h2).grown hg ((h.ird k s l h1 h2).apart h.S (by decide)), fun k s l h1 h2 => (h.isc k s l h1 h2).grown hg ((h.isc k s l h1 h2).apart h.S (by decide)), h.Dl.grown hg (h.Dl.apart h.S (by decide)), h.Z.grown hg (h.Z.apart h.S (by decide)), h.F.trans (OnlyF.of_grown (F := MutT p x) hg hF) (fun _ hf _ => hf)⟩
theorem PreT.put (h : PreT w B p x n rounds scores m A4 c4 gs cs ms' RA rn rc rs SA sn sc ss W) (i : Nat) (u : Value) : PreT w B p x n rounds scores m A4 c4 gs (cs.setIfInBounds i u) ms' RA rn rc rs SA sn sc ss (W.setCell ⟨p, i, none⟩ u) :=
  ⟨h.P.put i u, h.M.put (h.M.apart_blk h.P (by decide)), h.R.put (h.R.apart_blk h.P (by decide)), h.S.put (h.S.apart_blk h.P (by decide)), fun k s l h1 h2 => (h.ird k s l h1 h2).put ((h.ird k s l h1 h2).apart_blk h.P (by decide)), fun k s l h1 h2 => (h.isc k s l h1 h2).put ((h.isc k s l h1 h2).apart_blk h.P (by decide)), h.Dl.put (h.Dl.apart_blk h.P (by decide)), h.Z.put (h.Z.apart_blk h.P (by decide)), h.F.put (p := ⟨p, i, none⟩) (.inl (.inl rfl)) u⟩
end

theorem append_get {α : Type} {l : List α} {y z : α} {k : Nat} (h : (l ++ [y])[k]? = some z) : l[k]? = some z ∨ (k = l.length ∧ z = y) := by
  rcases Nat.lt_or_ge k l.length with hk | hk
  · rw [List.getElem?_append_left hk] at h
    exact .inl h
  · have hk2 := (List.getElem?_eq_some_iff.1 h).1
    simp at hk2
    have hk3 : k = l.length := by omega
    subst hk3
    rw [List.getElem?_append_right (Nat.le_refl _), Nat.sub_self] at h
    simp at h
    exact .inr ⟨rfl, h.symm⟩
theorem start_fin {w W : World} {B p c4 gs gR cR gS cS : Nat} {x : TC} {st : TS} {m : List D} {A4 : Option Addr} {ms' : List Nat} (hT : Tn w B p st x) (hWF : (⟨st.n, st.rounds ++ [m], st.scores ++ [initS m], true⟩ : TS).WF) (hMP : MetP st.n ms' (metJ st.rounds m)) (hBw : B ≤ w.heap.size)
    (H : PreT w B p x st.n st.rounds st.scores m A4 c4 gs #[.slice x.mA st.n x.mc, .slice (some ⟨gR, 0, none⟩) (st.rounds.length + 1) cR, .slice (some ⟨gS, 0, none⟩) (st.rounds.length + 1) cS, .bool true] ms' (some ⟨gR, 0, none⟩) (st.rounds.length + 1) cR (x.rs ++ [⟨A4, m.length, c4⟩]) (some ⟨gS, 0, none⟩) (st.rounds.length + 1) cS (x.ss ++ [⟨some ⟨gs, 0, none⟩, m.length, m.length⟩]) W)
    (iR : blkOf x.RA = some gR ∨ w.heap.size ≤ gR) (iS : blkOf x.SA = some gS ∨ w.heap.size ≤ gS) :
    ∃ x', Tn W B p ⟨st.n, st.rounds ++ [m], st.scores ++ [initS m], true⟩ x' ∧ OnlyF (MutT p x) w W ∧ ∀ i, FootT p x' i → FootT p x i ∨ w.heap.size ≤ i := by
  have hrl := hT.rs_len
  have hsl := hT.ss_len
  have hgs := (H.Z.lt gs rfl).1
  refine ⟨⟨x.mA, x.mc, ms', some ⟨gR, 0, none⟩, cR, x.rs ++ [⟨A4, m.length, c4⟩], some ⟨gS, 0, none⟩, cS, x.ss ++ [⟨some ⟨gs, 0, none⟩, m.length, m.length⟩]⟩, ⟨?_, hT.base, H.M, ?_, ?_, ?_, ?_, ?_, ?_, hWF⟩, H.F, ?_⟩
  · have := H.P
    simpa using this
  · have := H.R
    simpa using this
  · have := H.S
    simpa using this
  · intro k s l g1 g2
    rcases append_get g1 with h1 | ⟨hk, rfl⟩
    · rcases append_get g2 with h2 | ⟨hk, rfl⟩
      · exact H.ird k s l h1 h2
      · have h3 : k < x.rs.length := (List.getElem?_eq_some_iff.1 h1).1
        have hk' : k = st.rounds.length := hk
        omega
    · have hk' : k = x.rs.length := hk
      rcases append_get g2 with h2 | ⟨_, rfl⟩
      · have h3 : k < st.rounds.length := (List.getElem?_eq_some_iff.1 h2).1
        omega
      · exact H.Dl.more hBw
  · intro k s l g1 g2
    have hlen := hT.ok.len
    rcases append_get g1 with h1 | ⟨hk, rfl⟩
    · rcases append_get g2 with h2 | ⟨hk, rfl⟩
      · exact H.isc k s l h1 h2
      · have h3 : k < x.ss.length := (List.getElem?_eq_some_iff.1 h1).1
        have hk' : k = st.scores.length := hk
        omega
    · have hk' : k = x.ss.length := hk
      rcases append_get g2 with h2 | ⟨_, rfl⟩
      · have h3 : k < st.scores.length := (List.getElem?_eq_some_iff.1 h2).1
        omega
      · exact H.Z.more hBw
  · intro j k s t hjk g1 g2
    rcases append_get g1 with h1 | ⟨hj, rfl⟩
    · rcases append_get g2 with h2 | ⟨hk, rfl⟩
      · exact hT.sep j k s t hjk h1 h2
      · refine .inr fun e => ?_
        have := (hT.foot gs (.inl (.inr (.inr (.inr (.inr ⟨j, s, h1, e⟩)))))).2
        omega
    · have hj' : j = x.ss.length := hj
      rcases append_get g2 with h2 | ⟨hk, _⟩
      · have h3 : k < x.ss.length := (List.getElem?_eq_some_iff.1 h2).1
        omega
      · have hk' : k = x.ss.length := hk
        omega
  · exact MetP.congr hMP fun a b => metS_snoc.symm
  · rintro i ((rfl | hi | hi | hi | ⟨k, s, hk, hi⟩) | ⟨k, s, hk, hi⟩)
    · exact .inl (.inl (.inl rfl))
    · exact .inl (.inl (.inr (.inl hi)))
    · injection hi with hi
      subst hi
      exact iR.imp (fun h => .inl (.inr (.inr (.inl h)))) id
    · injection hi with hi
      subst hi
      exact iS.imp (fun h => .inl (.inr (.inr (.inr (.inl h))))) id
    · rcases append_get hk with hk | ⟨_, rfl⟩
      · exact .inl (.inl (.inr (.inr (.inr (.inr ⟨k, s, hk, hi⟩)))))
      · injection hi with hi
        subst hi
        exact .inr hgs
    · rcases append_get hk with hk | ⟨_, rfl⟩
      · exact .inl (.inr ⟨k, s, hk, hi⟩)
      · exact .inr (H.Dl.lt i hi).1

set_option maxRecDepth 100000 in
set_option maxHeartbeats 1600000 in
theorem start_ok (B p : Nat) (st : TS) (x : TC) (m : List D) (w : World) (h : Tn w B p st x) (hop : st.open_ = false) (hc : st.rounds.length < 13) (hm : st.whole = some m) : Calls Try.prog 10 #[.pointer (some ⟨p, 0, none⟩)] w (StartEnd B p st x w) := by
  have HE : Hid (st.sErr = 0) := Lib.hid (by unfold TS.sErr; rw [hop, if_neg (by decide), if_neg (by omega), hm, if_neg (by simp)])
  have HSL : Hid (st.sList = m) := Lib.hid (by unfold TS.sList; rw [if_pos HE.out, hm]; rfl)
  have HST : Hid (st.start = ⟨st.n, st.rounds ++ [m], st.scores ++ [initS m], true⟩) := Lib.hid (by unfold TS.start; rw [if_pos HE.out, hm]; rfl)
  have HWF := Lib.hid (start_wf h.ok hm hc)
  have HRO := Lib.hid (TS.round_ok h.ok hm)
  obtain ⟨mA, mc, ms, RA, rc, rs, SA, sq, sts⟩ := x
  have HT := Lib.hid h
  have x1 : w.cell? ⟨p, 1, none⟩ = some (.slice RA st.rounds.length rc) := (h.blk.at_ 1).trans rfl
  have x3 : w.cell? ⟨p, 3, none⟩ = some (.bool false) := (h.blk.at_ 3).trans (by rw [hop]; rfl)
  have hn := h.ok.n0
  have HOR := Lib.hid (TS.ord_mem h.ok)
  have HW : Hid (wholeS (frS st) st.ord = some m) := Lib.hid hm
  have hmn := round_len HRO.out
  have hc' : ¬ (13 : Int) ≤ st.rounds.length := by omega
  have hc2 : decide ((13 : Int) ≤ st.rounds.length) = false := decide_eq_false hc'
  have hmA : ∃ g, mA = some ⟨g, 0, none⟩ := by
    obtain ⟨u, hu, _⟩ := h.mok.2 0 (by omega)
    obtain ⟨g, hg, _⟩ := h.met.cell (j := 0) (u := .int .u16 u) (by simp only [mcs, List.getElem?_map]; rw [hu]; rfl)
    exact ⟨g, hg⟩
  obtain ⟨gm, rfl⟩ := hmA
  have HHOP := Lib.hid hop
  clear h hm hop
  obtain ⟨hn1, hn2⟩ := hn
  have hm14 : m.length ≤ 14 := by omega
  go_enter Try.func10, Try.ntmps10
  go_wp2_with (first
    | (go_at_call 25; refine (none_f B p st _ _ HT.out).mono ?_; rintro e w1 ⟨rfl, rfl⟩)
    | (go_at_call 20; refine (order_any B p st _ _ HT.out).mono ?_; rintro e w2 ⟨go, rfl, ho2, hb2⟩; have HT2 := Lib.hid (HT.out.below hb2); have HO2 := Lib.hid ho2; have hz2 := hb2.size; clear ho2)
    | (go_at_call 26; refine (whole_any B p st _ st.ord (by rw [HOR.out.2.2]; omega) _ st.n st.n _ HT2.out HO2.out.reads (Nat.le_refl _) (by omega) (fun h => by cases h) HOR.out.1).mono ?_; rw [HW.out]; rintro e w3 ⟨A4, c4, rfl, ho3, hb3⟩; have HO3 := Lib.hid ho3; have HT3 := Lib.hid (HT2.out.below hb3); have hB3 := below_call hb2 hb3 hz2; have hz3 := hB3.size; clear ho3)
    | (at_make; refine make_x _ rfl (.tmp 34) (.tmp 34) 66 rfl w3.heap.size 34 (.int .i64 0) 8 Try.info34 Try.underlying66 rfl .i64 .i64 _ _ m.length rfl rfl rfl rfl ?_ ?_ ?_ ?_; omega; omega; exact Nat.le_refl _; intro w4 ho4 hb4)
    | fail)
  have HS4 : Hid (XOwns w4 w3.heap.size 34 1 (some ⟨w3.heap.size, 0, none⟩) m.length m.length (ics (List.replicate m.length 0))) := Lib.hid (by simpa [ics] using ho4)
  have HT4 := Lib.hid (HT3.out.below hb4)
  have HD4 := Lib.hid (HO3.out.below hb4)
  have hB4 := below_call hB3 hb4 hz3
  have hz4 := hb4.size
  have hgs := (HS4.out.lt _ rfl).2
  have HDB : Hid (∀ W, OnlyF (fun i => i = gm ∨ i = w3.heap.size) w4 W → XOwns W w2.heap.size 33 2 A4 m.length c4 (dcells m)) := Lib.hid fun W hf => HD4.out.onlyF hf (fun i hi hh => by
    rcases hh with rfl | rfl
    · have h1 := HT2.out.foot i (.inl (.inr (.inl rfl)))
      have h2 := (HO3.out.lt i hi).1
      omega
    · have h2 := (HO3.out.lt _ hi).2
      omega)
  have hpm : p ≠ gm := fun e => by
    have := HT4.out.met.apart_blk HT4.out.blk (by decide)
    exact this (by rw [e]; rfl)
  have hpw : p < w.heap.size := HT.out.blk.lt
  have hgmw : gm < w.heap.size := (HT.out.met.lt gm rfl).2
  have HBL : Hid (∀ W, OnlyF (fun i => i = gm ∨ i = w3.heap.size) w4 W → Blk W p 57 #[.slice (some ⟨gm, 0, none⟩) st.n mc, .slice RA st.rounds.length rc, .slice SA st.rounds.length sq, .bool st.open_]) := Lib.hid fun W hf => HT4.out.blk.onlyF hf (by omega)
  have HM4 : Hid (XOwns w4 B 67 1 (some ⟨gm, 0, none⟩) st.n mc (mcs ms)) := Lib.hid HT4.out.met
  have HMP : Hid (MetP st.n ms (metJ st.rounds [])) := Lib.hid (MetP.congr HT.out.mok (fun a b => by simp [metJ, metL]))
  clear ho4 HO2 HT2 HT3 HO3 x1 x3
  go_loopw [38] (fun i W => ∃ (j : Nat) (ms' : List Nat) (zs : List Int), j ≤ m.length ∧ i = .int .i64 j ∧ XOwns W B 67 1 (some ⟨gm, 0, none⟩) st.n mc (mcs ms') ∧ Hid (MetP st.n ms' (metJ st.rounds (m.take j))) ∧ XOwns W w3.heap.size 34 1 (some ⟨w3.heap.size, 0, none⟩) m.length m.length (ics zs) ∧ zs.length = m.length ∧ Hid (∀ q, q < j → ith zs q = ith (initS m) q) ∧ OnlyF (fun i => i = gm ∨ i = w3.heap.size) w4 W) (fun i _ => m.length - (intOf i).toNat)
  case atStart => exact ⟨0, ms, _, Nat.zero_le _, rfl, HM4.out, HMP, HS4.out, by simp, Lib.hid (fun q h => absurd h (by omega)), OnlyF.refl _⟩
  case round =>
    obtain ⟨j, ms', zs, hj, rfl, hM, HP, hZ, hzl, HZ, hF⟩ := hrel
    have HM := Lib.hid hM
    have HZO := Lib.hid hZ
    have HFF := Lib.hid hF
    have hzw := hF.size
    have hgmr := (hM.lt gm rfl).2
    have hgsr := (hZ.lt _ rfl).2
    clear hM hZ hF HM4 HS4
    by_cases hlt : j < m.length
    · have hlt' : (j : Int) < m.length := by omega
      obtain ⟨ad, rfl, had, c0, c1⟩ := duel_at (HDB.out _ HFF.out).reads hlt
      have b0 : wr.cell? ⟨p, 0, none⟩ = some (.slice (some ⟨gm, 0, none⟩) st.n mc) := ((HBL.out _ HFF.out).at_ 0).trans rfl
      have hpr : p < wr.heap.size := (HBL.out _ HFF.out).lt
      have hd := HRO.out.1 _ (List.mem_of_getElem? (dth_get hlt))
      have HDG := Lib.hid (dth_get hlt)
      have HMU := Lib.hid (metU_ok HP.out hd (by omega))
      have HTS : Hid (m.take (j + 1) = m.take j ++ [dth m j]) := Lib.hid (by
        rw [List.take_add_one, HDG.out]; rfl)
      have HIS : Hid (ith (initS m) j = if (dth m j).b < 0 then 2 else -1) := Lib.hid (by
        unfold ith initS
        rw [List.getD_eq_getElem?_getD, List.getElem?_map, HDG.out]; rfl)
      obtain ⟨s0, f0⟩ := HZO.out.icell hlt
      generalize hdd : dth m j = d at *
      obtain ⟨da, db⟩ := d
      have hda := hd.1
      have hda2 := hd.2.1
      have hdb := hd.2.2
      simp only at hda hda2 hdb c0 c1 HIS
      obtain ⟨a, rfl⟩ : ∃ a : Nat, da = a := ⟨da.toNat, by omega⟩
      have han : a < st.n := by omega
      have han' : (a : Int) < st.n := by omega
      obtain ⟨ma, hma, hma2, _⟩ := HP.out.2 a han
      clear hdd hd
      by_cases hbn : db = -1
      · subst hbn
        go_wp2
        have HY0 : MidT w4 B w3.heap.size gm w3.heap.size p st.n m.length mc wr.heap.size #[.slice (some ⟨gm, 0, none⟩) st.n mc, .slice RA st.rounds.length rc, .slice SA st.rounds.length sq, .bool st.open_] ms' (zs.set j (-1)) a (-1) ((wr.setCell ⟨w3.heap.size, j, none⟩ (.int .i64 (-1))).alloc (.cells #[.int .i64 a, .int .i64 (-1)] 33)) := by
          have hal : Below (wr.setCell ⟨w3.heap.size, j, none⟩ (.int .i64 (-1))).heap.size (wr.setCell ⟨w3.heap.size, j, none⟩ (.int .i64 (-1))) ((wr.setCell ⟨w3.heap.size, j, none⟩ (.int .i64 (-1))).alloc (.cells #[.int .i64 a, .int .i64 (-1)] 33)) := (Below.refl _ _).alloc (Nat.le_refl _) _
          have hap := HM.out.apart HZO.out (by decide)
          have hmz : gm ≠ w3.heap.size := by omega
          refine ⟨((HBL.out _ HFF.out).far (by show p ≠ w3.heap.size; omega) _).call hal, Blk.mk_ _ _ _ _ (by simp), (HM.out.put (by intro e; injection e with e; exact hmz e)).below hal, (HZO.out.store j (-1)).below hal, (HFF.out.put (p := ⟨w3.heap.size, j, none⟩) (.inl (.inr rfl)) _).then hal⟩
        generalize hwy : (wr.setCell ⟨w3.heap.size, j, none⟩ (.int .i64 (-1))).alloc (.cells #[.int .i64 a, .int .i64 (-1)] 33) = wy at *
        have HY := Lib.hid HY0
        have hcm0 : wy.cell? ⟨gm, a, none⟩ = some (.int .u16 ma) := HY0.M.cellAt (by simp only [mcs, List.getElem?_map]; rw [hma]; rfl)
        clear HY0 hwy
        have hNE : Nonempty (In (fun W => W.cell? ⟨wr.heap.size, 0, none⟩ = some (.int .i64 a))) := ⟨⟨_, (HY.out.X.at_ 0).trans rfl⟩⟩
        have z0 : ∀ s : In (fun W => W.cell? ⟨wr.heap.size, 0, none⟩ = some (.int .i64 a)), s.W.cell? ⟨wr.heap.size, 0, none⟩ = some (.int .i64 a) := fun s => s.h
        obtain ⟨q0, g0⟩ := HY.out.Z.icell hlt
        have q1 := (HY.out.X.at_ 1).trans rfl
        have g1 := HY.out.X.free 1
        have hbx := HY.out.X.lt
        refine wp_region_sched (fun w' => ∃ s : In (fun W => W.cell? ⟨wr.heap.size, 0, none⟩ = some (.int .i64 a)), w' = s.W) [0,1,2,3,4] (.one 5 [6] (.one 7 [] .done)) (by kernel_rfl) (by kernel_rfl) (fun d _ _ _ _ h => by cases d <;> exact h) ⟨⟨_, (show wy.drew.cell? ⟨wr.heap.size, 0, none⟩ = some (.int .i64 a) from (HY.out.X.at_ 0).trans rfl)⟩, rfl⟩ ?_
        simp only [opsAt, List.getElem?_toArray, List.getElem?_cons_succ, List.getElem?_cons_zero]
        repeat (go_big_quiet_step (fail))
        refine wpQuiet_nil ?_
        (refine eff_lit rfl rfl (fun K hK => ?_))
        go_big_op
        have hbw : w4.heap.size ≤ wr.heap.size := hzw
        have HY1 := Lib.hid ((HY.out.putZ j 2).below (Below.refl _ _).drew)
        refine hK _ _ ⟨⟨_, (HY1.out.X.at_ 0).trans rfl⟩, rfl⟩ ?_
        clear hK K
        simp only [opsAt, List.getElem?_toArray, List.getElem?_cons_succ, List.getElem?_cons_zero]
        repeat (go_big_quiet_step (fail))
        refine wpQuiet_nil ?_
        have q2 := (HY1.out.X.at_ 1).trans rfl
        have g2 := HY1.out.X.free 1
        have hbx2 := HY1.out.X.lt
        (refine eff_lit rfl rfl (fun K hK => ?_))
        go_big_op
        have HY2 := Lib.hid (((HY.out.putZ j 2).putX hbw a).below (Below.refl _ _).drew)
        refine hK _ _ ⟨⟨_, (HY2.out.X.at_ 0).trans rfl⟩, rfl⟩ ?_
        clear hK K
        simp only [opsAt, List.getElem?_toArray, List.getElem?_cons_succ, List.getElem?_cons_zero]
        refine wpQuiet_nil ?_
        refine effs_done ?_
        clear z0 hNE q0 g0 q1 g1 hbx q2 g2 hbx2 HY1
        have HU0 := HY2.out
        rw [List.set_set] at HU0
        generalize hwu : ((wy.setCell ⟨w3.heap.size, j, none⟩ (.int .i64 2)).setCell ⟨wr.heap.size, 1, none⟩ (.int .i64 a)).drew = wu at *
        have HU := Lib.hid HU0
        have hcm : wu.cell? ⟨gm, a, none⟩ = some (.int .u16 ma) := HU0.M.cellAt (by simp only [mcs, List.getElem?_map]; rw [hma]; rfl)
        clear HU0 hwu HY2 HY hcm0
        obtain ⟨mb, hmb, hmb2⟩ := set_lt HP.out hma han (show a < 16 by omega) han
        have HOB := Lib.hid (or_val hma2 (show a < 16 by omega))
        have HOA := Lib.hid (or_val hmb2 (show a < 16 by omega))
        have HME : Hid (metU ms' ⟨a, -1⟩ = (ms'.set a (ma ||| 2 ^ a)).set a (mb ||| 2 ^ a)) := Lib.hid (by
          unfold metU
          simp only [Int.toNat_natCast]
          rw [if_pos (by omega), getD_nat hma, getD_nat hmb])
        have y0 : ∀ s : Later wu.heap.size wu, s.W.cell? ⟨p, 0, none⟩ = some (.slice (some ⟨gm, 0, none⟩) st.n mc) := fun s => ((HU.out.P.below s.h HU.out.P.lt).at_ 0).trans rfl
        have y1 : ∀ s : Later wu.heap.size wu, s.W.cell? ⟨wr.heap.size, 0, none⟩ = some (.int .i64 a) := fun s => ((HU.out.X.below s.h HU.out.X.lt).at_ 0).trans rfl
        have y2 : ∀ s : Later wu.heap.size wu, s.W.cell? ⟨wr.heap.size, 1, none⟩ = some (.int .i64 a) := fun s => ((HU.out.X.below s.h HU.out.X.lt).at_ 1).trans rfl
        have y3 : ∀ s : Later wu.heap.size wu, s.W.cell? ⟨gm, a, none⟩ = some (.int .u16 ma) := fun s => (s.h.cell (p := ⟨gm, a, none⟩) (HU.out.M.lt gm rfl).2).trans hcm
        have hgf := HU.out.M.1.frozenAt a
        have hgl := (HU.out.M.lt gm rfl).2
        go_wp2
        refine wp_region_late (Ph (fun w' => ∃ s : Later wu.heap.size wu, w' = s.W) (fun _ => True)) [13] [0,1,2,3,4,5,6,7,8,9,10,11,12] (.one 13 [] .done) (by kernel_rfl) (by kernel_rfl) (fun d _ _ _ _ h => by cases d <;> exact h) ⟨⟨_, (Below.refl _ _).drew⟩, rfl⟩ ?_
        refine quiet_as (C' := (fun w' => ∃ s : Later wu.heap.size wu, w' = s.W)) rfl ?_
        simp only [opsAt, List.getElem?_toArray, List.getElem?_cons_succ, List.getElem?_cons_zero]
        repeat (go_big_quiet_step (fail))
        refine wpQuiet_nil ?_
        refine eff_as (C' := fun _ => True) rfl ?_
        (refine eff_lit rfl rfl (fun K hK => ?_))
        go_big_op
        rw [HOB.out]
        refine hK _ _ trivial ?_
        clear hK K y0 y1 y2 y3 hgf hgl
        simp only [opsAt, List.getElem?_toArray, List.getElem?_cons_succ, List.getElem?_cons_zero]
        refine wpQuiet_nil ?_
        refine effs_done ?_
        have HV0 := (HU.out.putM a (ma ||| 2 ^ a)).below (Below.refl _ _).drew
        generalize hwv : (wu.setCell ⟨gm, a, none⟩ (.int .u16 ((ma ||| 2 ^ a : Nat) : Int))).drew = wv at *
        have HV := Lib.hid HV0
        have hcb : wv.cell? ⟨gm, a, none⟩ = some (.int .u16 mb) := HV0.M.cellAt (by simp only [mcs, List.getElem?_map]; rw [hmb]; rfl)
        clear HV0 hwv hcm HU
        have y0 : ∀ s : Later wv.heap.size wv, s.W.cell? ⟨p, 0, none⟩ = some (.slice (some ⟨gm, 0, none⟩) st.n mc) := fun s => ((HV.out.P.below s.h HV.out.P.lt).at_ 0).trans rfl
        have y1 : ∀ s : Later wv.heap.size wv, s.W.cell? ⟨wr.heap.size, 0, none⟩ = some (.int .i64 a) := fun s => ((HV.out.X.below s.h HV.out.X.lt).at_ 0).trans rfl
        have y2 : ∀ s : Later wv.heap.size wv, s.W.cell? ⟨wr.heap.size, 1, none⟩ = some (.int .i64 a) := fun s => ((HV.out.X.below s.h HV.out.X.lt).at_ 1).trans rfl
        have y3 : ∀ s : Later wv.heap.size wv, s.W.cell? ⟨gm, a, none⟩ = some (.int .u16 mb) := fun s => (s.h.cell (p := ⟨gm, a, none⟩) (HV.out.M.lt gm rfl).2).trans hcb
        have hgf := HV.out.M.1.frozenAt a
        have hgl := (HV.out.M.lt gm rfl).2
        go_wp2
        refine wp_region_late (Ph (fun w' => ∃ s : Later wv.heap.size wv, w' = s.W) (fun _ => True)) [13] [0,1,2,3,4,5,6,7,8,9,10,11,12] (.one 13 [] .done) (by kernel_rfl) (by kernel_rfl) (fun d _ _ _ _ h => by cases d <;> exact h) ⟨⟨_, (Below.refl _ _).drew⟩, rfl⟩ ?_
        refine quiet_as (C' := (fun w' => ∃ s : Later wv.heap.size wv, w' = s.W)) rfl ?_
        simp only [opsAt, List.getElem?_toArray, List.getElem?_cons_succ, List.getElem?_cons_zero]
        repeat (go_big_quiet_step (fail))
        refine wpQuiet_nil ?_
        refine eff_as (C' := fun _ => True) rfl ?_
        (refine eff_lit rfl rfl (fun K hK => ?_))
        go_big_op
        rw [HOA.out]
        refine hK _ _ trivial ?_
        clear hK K y0 y1 y2 y3 hgf hgl
        simp only [opsAt, List.getElem?_toArray, List.getElem?_cons_succ, List.getElem?_cons_zero]
        refine wpQuiet_nil ?_
        refine effs_done ?_
        have HE2 := Lib.hid ((HV.out.putM a (mb ||| 2 ^ a)).below (Below.refl _ _).drew)
        go_wp2
        go_roundw
        case rel => exact ⟨j + 1, _, zs.set j 2, by omega, by go_num, HE2.out.M, Lib.hid (by rw [← HME.out, HTS.out]; exact MetP.congr HMU.out (fun x y => metJ_snoc.symm)), HE2.out.Z, by simp [hzl], Lib.hid (fun q hq => by
          rw [ith_set (by omega)]
          split
          · rename_i e; rw [e, HIS.out, if_pos (by omega)]
          · exact HZ.out q (by omega)), HE2.out.F⟩
        case measure => simp [intOf]; omega
      · obtain ⟨b, rfl⟩ : ∃ b : Nat, db = b := ⟨db.toNat, by omega⟩
        have hbn2 : b < st.n := by omega
        have hbn' : (b : Int) < st.n := by omega
        have hbp : (0 : Int) ≤ b := by omega
        have habn : a ≠ b := by omega
        clear hbn
        go_wp2
        have HY0 : MidT w4 B w3.heap.size gm w3.heap.size p st.n m.length mc wr.heap.size #[.slice (some ⟨gm, 0, none⟩) st.n mc, .slice RA st.rounds.length rc, .slice SA st.rounds.length sq, .bool st.open_] ms' (zs.set j (-1)) a b ((wr.setCell ⟨w3.heap.size, j, none⟩ (.int .i64 (-1))).alloc (.cells #[.int .i64 a, .int .i64 b] 33)) := by
          have hal : Below (wr.setCell ⟨w3.heap.size, j, none⟩ (.int .i64 (-1))).heap.size (wr.setCell ⟨w3.heap.size, j, none⟩ (.int .i64 (-1))) ((wr.setCell ⟨w3.heap.size, j, none⟩ (.int .i64 (-1))).alloc (.cells #[.int .i64 a, .int .i64 b] 33)) := (Below.refl _ _).alloc (Nat.le_refl _) _
          have hap := HM.out.apart HZO.out (by decide)
          have hmz : gm ≠ w3.heap.size := by omega
          refine ⟨((HBL.out _ HFF.out).far (by show p ≠ w3.heap.size; omega) _).call hal, Blk.mk_ _ _ _ _ (by simp), (HM.out.put (by intro e; injection e with e; exact hmz e)).below hal, (HZO.out.store j (-1)).below hal, (HFF.out.put (p := ⟨w3.heap.size, j, none⟩) (.inl (.inr rfl)) _).then hal⟩
        generalize hwy : (wr.setCell ⟨w3.heap.size, j, none⟩ (.int .i64 (-1))).alloc (.cells #[.int .i64 a, .int .i64 b] 33) = wy at *
        have HY := Lib.hid HY0
        have hcm : wy.cell? ⟨gm, a, none⟩ = some (.int .u16 ma) := HY0.M.cellAt (by simp only [mcs, List.getElem?_map]; rw [hma]; rfl)
        clear HY0 hwy
        obtain ⟨mb, hmb, hmb2⟩ := set_lt HP.out hma han (show b < 16 by omega) hbn2
        have HOB := Lib.hid (or_val hma2 (show b < 16 by omega))
        have HOA := Lib.hid (or_val hmb2 (show a < 16 by omega))
        have HME : Hid (metU ms' ⟨a, b⟩ = (ms'.set a (ma ||| 2 ^ b)).set b (mb ||| 2 ^ a)) := Lib.hid (by
          unfold metU
          simp only [Int.toNat_natCast]
          rw [if_neg (by omega), getD_nat hma, getD_nat hmb])
        have y0 : ∀ s : Later wy.heap.size wy, s.W.cell? ⟨p, 0, none⟩ = some (.slice (some ⟨gm, 0, none⟩) st.n mc) := fun s => ((HY.out.P.below s.h HY.out.P.lt).at_ 0).trans rfl
        have y1 : ∀ s : Later wy.heap.size wy, s.W.cell? ⟨wr.heap.size, 0, none⟩ = some (.int .i64 a) := fun s => ((HY.out.X.below s.h HY.out.X.lt).at_ 0).trans rfl
        have y2 : ∀ s : Later wy.heap.size wy, s.W.cell? ⟨wr.heap.size, 1, none⟩ = some (.int .i64 b) := fun s => ((HY.out.X.below s.h HY.out.X.lt).at_ 1).trans rfl
        have y3 : ∀ s : Later wy.heap.size wy, s.W.cell? ⟨gm, a, none⟩ = some (.int .u16 ma) := fun s => (s.h.cell (p := ⟨gm, a, none⟩) (HY.out.M.lt gm rfl).2).trans hcm
        have hgf := HY.out.M.1.frozenAt a
        have hgl := (HY.out.M.lt gm rfl).2
        go_wp2
        refine wp_region_late (Ph (fun w' => ∃ s : Later wy.heap.size wy, w' = s.W) (fun _ => True)) [13] [0,1,2,3,4,5,6,7,8,9,10,11,12] (.one 13 [] .done) (by kernel_rfl) (by kernel_rfl) (fun d _ _ _ _ h => by cases d <;> exact h) ⟨⟨_, (Below.refl _ _).drew⟩, rfl⟩ ?_
        refine quiet_as (C' := (fun w' => ∃ s : Later wy.heap.size wy, w' = s.W)) rfl ?_
        simp only [opsAt, List.getElem?_toArray, List.getElem?_cons_succ, List.getElem?_cons_zero]
        repeat (go_big_quiet_step (fail))
        refine wpQuiet_nil ?_
        refine eff_as (C' := fun _ => True) rfl ?_
        (refine eff_lit rfl rfl (fun K hK => ?_))
        go_big_op
        rw [HOB.out]
        refine hK _ _ trivial ?_
        clear hK K y0 y1 y2 y3 hgf hgl
        simp only [opsAt, List.getElem?_toArray, List.getElem?_cons_succ, List.getElem?_cons_zero]
        refine wpQuiet_nil ?_
        refine effs_done ?_
        have HV0 := (HY.out.putM a (ma ||| 2 ^ b)).below (Below.refl _ _).drew
        generalize hwv : (wy.setCell ⟨gm, a, none⟩ (.int .u16 ((ma ||| 2 ^ b : Nat) : Int))).drew = wv at *
        have HV := Lib.hid HV0
        have hcb : wv.cell? ⟨gm, b, none⟩ = some (.int .u16 mb) := HV0.M.cellAt (by simp only [mcs, List.getElem?_map]; rw [hmb]; rfl)
        clear HV0 hwv hcm HY
        have y0 : ∀ s : Later wv.heap.size wv, s.W.cell? ⟨p, 0, none⟩ = some (.slice (some ⟨gm, 0, none⟩) st.n mc) := fun s => ((HV.out.P.below s.h HV.out.P.lt).at_ 0).trans rfl
        have y1 : ∀ s : Later wv.heap.size wv, s.W.cell? ⟨wr.heap.size, 0, none⟩ = some (.int .i64 a) := fun s => ((HV.out.X.below s.h HV.out.X.lt).at_ 0).trans rfl
        have y2 : ∀ s : Later wv.heap.size wv, s.W.cell? ⟨wr.heap.size, 1, none⟩ = some (.int .i64 b) := fun s => ((HV.out.X.below s.h HV.out.X.lt).at_ 1).trans rfl
        have y3 : ∀ s : Later wv.heap.size wv, s.W.cell? ⟨gm, b, none⟩ = some (.int .u16 mb) := fun s => (s.h.cell (p := ⟨gm, b, none⟩) (HV.out.M.lt gm rfl).2).trans hcb
        have hgf := HV.out.M.1.frozenAt b
        have hgl := (HV.out.M.lt gm rfl).2
        go_wp2
        refine wp_region_late (Ph (fun w' => ∃ s : Later wv.heap.size wv, w' = s.W) (fun _ => True)) [13] [0,1,2,3,4,5,6,7,8,9,10,11,12] (.one 13 [] .done) (by kernel_rfl) (by kernel_rfl) (fun d _ _ _ _ h => by cases d <;> exact h) ⟨⟨_, (Below.refl _ _).drew⟩, rfl⟩ ?_
        refine quiet_as (C' := (fun w' => ∃ s : Later wv.heap.size wv, w' = s.W)) rfl ?_
        simp only [opsAt, List.getElem?_toArray, List.getElem?_cons_succ, List.getElem?_cons_zero]
        repeat (go_big_quiet_step (fail))
        refine wpQuiet_nil ?_
        refine eff_as (C' := fun _ => True) rfl ?_
        (refine eff_lit rfl rfl (fun K hK => ?_))
        go_big_op
        rw [HOA.out]
        refine hK _ _ trivial ?_
        clear hK K y0 y1 y2 y3 hgf hgl
        simp only [opsAt, List.getElem?_toArray, List.getElem?_cons_succ, List.getElem?_cons_zero]
        refine wpQuiet_nil ?_
        refine effs_done ?_
        have HE2 := Lib.hid ((HV.out.putM b (mb ||| 2 ^ a)).below (Below.refl _ _).drew)
        go_wp2
        go_roundw
        case rel => exact ⟨j + 1, _, zs.set j (-1), by omega, by go_num, HE2.out.M, Lib.hid (by rw [← HME.out, HTS.out]; exact MetP.congr HMU.out (fun x y => metJ_snoc.symm)), HE2.out.Z, by simp [hzl], Lib.hid (fun q hq => by
          rw [ith_set (by omega)]
          split
          · rename_i e; rw [e, HIS.out, if_neg (by omega)]
          · exact HZ.out q (by omega)), HE2.out.F⟩
        case measure => simp [intOf]; omega
    · obtain rfl : j = m.length := by omega
      have hzi : zs = initS m := ith_ext (by rw [hzl]; simp [initS]) (fun q hq => HZ.out q (by omega))
      have hOF : OnlyF (MutT p ⟨some ⟨gm, 0, none⟩, mc, ms, RA, rc, rs, SA, sq, sts⟩) w wr := (OnlyF.of_below (F := MutT p ⟨some ⟨gm, 0, none⟩, mc, ms, RA, rc, rs, SA, sq, sts⟩) hB4).trans HFF.out (fun i hi hlt => by
        rcases hi with rfl | rfl
        · exact .inr (.inl rfl)
        · omega)
      have hFT : ∀ i, FootT p ⟨some ⟨gm, 0, none⟩, mc, ms, RA, rc, rs, SA, sq, sts⟩ i → i < w.heap.size := fun i hi => (HT.out.foot i hi).2
      have HPR0 : PreT w B p ⟨some ⟨gm, 0, none⟩, mc, ms, RA, rc, rs, SA, sq, sts⟩ st.n st.rounds st.scores m A4 c4 w3.heap.size #[.slice (some ⟨gm, 0, none⟩) st.n mc, .slice RA st.rounds.length rc, .slice SA st.rounds.length sq, .bool st.open_] ms' RA st.rounds.length rc rs SA st.rounds.length sq sts wr := by
        refine ⟨HBL.out _ HFF.out, HM.out, HT4.out.rds.onlyF HFF.out (fun i hi hh => ?_), HT4.out.scs.onlyF HFF.out (fun i hi hh => ?_), fun k s l h1 h2 => (HT4.out.ird k s l h1 h2).onlyF HFF.out (fun i hi hh => ?_), fun k s l h1 h2 => (HT4.out.isc k s l h1 h2).onlyF HFF.out (fun i hi hh => ?_), (HDB.out _ HFF.out).more hz2, by rw [← hzi]; exact HZO.out.more hz3, hOF⟩
        · rcases hh with rfl | rfl
          · rcases HT4.out.met.apart HT4.out.rds (by decide) with h1 | h1
            · cases h1
            · exact h1 hi.symm
          · have := hFT _ (.inl (.inr (.inr (.inl hi)))); omega
        · rcases hh with rfl | rfl
          · rcases HT4.out.met.apart HT4.out.scs (by decide) with h1 | h1
            · cases h1
            · exact h1 hi.symm
          · have := hFT _ (.inl (.inr (.inr (.inr (.inl hi))))); omega
        · rcases hh with rfl | rfl
          · rcases HT4.out.met.apart (HT4.out.ird k s l h1 h2) (by decide) with h3 | h3
            · cases h3
            · exact h3 hi.symm
          · have := hFT _ (.inr ⟨k, s, h1, hi⟩); omega
        · rcases hh with rfl | rfl
          · rcases HT4.out.met.apart (HT4.out.isc k s l h1 h2) (by decide) with h3 | h3
            · cases h3
            · exact h3 hi.symm
          · have := hFT _ (.inl (.inr (.inr (.inr (.inr ⟨k, s, h1, hi⟩))))); omega
      have HPR := Lib.hid HPR0
      have HP2 : Hid (MetP st.n ms' (metJ st.rounds m)) := Lib.hid (by have h := HP.out; rwa [List.take_of_length_le (Nat.le_refl _)] at h)
      have hmut : ∀ i, blkOf RA = some i → MutT p ⟨some ⟨gm, 0, none⟩, mc, ms, RA, rc, rs, SA, sq, sts⟩ i := fun i hi => .inr (.inr (.inl hi))
      have hmut2 : ∀ i, blkOf SA = some i → MutT p ⟨some ⟨gm, 0, none⟩, mc, ms, RA, rc, rs, SA, sq, sts⟩ i := fun i hi => .inr (.inr (.inr (.inl hi)))
      clear HPR0 hzi HM HZO HP HZ hzl HBL HDB HD4 HT4 hOF hFT
      go_wp2
      have hBw : B ≤ w.heap.size := by have := HT.out.base; omega
      have hNE : Nonempty (In (fun W => Blk W p 57 #[.slice (some ⟨gm, 0, none⟩) st.n mc, .slice RA st.rounds.length rc, .slice SA st.rounds.length sq, .bool st.open_])) := ⟨⟨_, HPR.out.P⟩⟩
      have z1 : ∀ s : In (fun W => Blk W p 57 #[.slice (some ⟨gm, 0, none⟩) st.n mc, .slice RA st.rounds.length rc, .slice SA st.rounds.length sq, .bool st.open_]), s.W.cell? ⟨p, 1, none⟩ = some (.slice RA st.rounds.length rc) := fun s => (s.h.at_ 1).trans rfl
      have z2 : ∀ s : In (fun W => Blk W p 57 #[.slice (some ⟨gm, 0, none⟩) st.n mc, .slice RA st.rounds.length rc, .slice SA st.rounds.length sq, .bool st.open_]), s.W.cell? ⟨p, 2, none⟩ = some (.slice SA st.rounds.length sq) := fun s => (s.h.at_ 2).trans rfl
      refine wp_region_late (Ph (fun w' => ∃ s : In (fun W => Blk W p 57 #[.slice (some ⟨gm, 0, none⟩) st.n mc, .slice RA st.rounds.length rc, .slice SA st.rounds.length sq, .bool st.open_]), w' = s.W) (fun _ => True)) [19] [0,1,2,3,4,5,6,7,10,11,12,13,14] (.two 8 [] (.two 9 [] (.one 15 [] (.one 16 [17,18] (.one 19 [20,21] (.one 22 [23,24] (.one 25 [] .done))))) 15 [] (.one 9 [] (.one 16 [17,18] (.one 19 [20,21] (.one 22 [23,24] (.one 25 [] .done)))))) 15 [] (.one 8 [] (.one 9 [] (.one 16 [17,18] (.one 19 [20,21] (.one 22 [23,24] (.one 25 [] .done))))))) (by kernel_rfl) (by kernel_rfl) (fun d _ _ _ _ h => by cases d <;> exact h) ⟨⟨_, HPR.out.P.drew⟩, rfl⟩ ?_
      refine quiet_as (C' := (fun w' => ∃ s : In (fun W => Blk W p 57 #[.slice (some ⟨gm, 0, none⟩) st.n mc, .slice RA st.rounds.length rc, .slice SA st.rounds.length sq, .bool st.open_]), w' = s.W)) rfl ?_
      simp only [opsAt, List.getElem?_toArray, List.getElem?_cons_succ, List.getElem?_cons_zero]
      repeat (go_big_quiet_step (fail))
      refine wpQuiet_nil ?_
      refine (show ∀ A B : Prop, A → B → A ∧ B from fun _ _ a b => ⟨a, b⟩) _ _ ?_ ?_
      · refine eff_as (C' := (fun w' => ∃ s : In (fun W => Blk W p 57 #[.slice (some ⟨gm, 0, none⟩) st.n mc, .slice RA st.rounds.length rc, .slice SA st.rounds.length sq, .bool st.open_]), w' = s.W)) rfl ?_
        (refine eff_lit rfl rfl (fun K hK => ?_))
        go_big_op
        have HBL1 := Lib.hid ((Blk.mk_ wr 29 #[.slice A4 m.length c4] _ rfl).drew)
        have HA1 := Lib.hid ((HPR.out.below ((Below.refl _ _).alloc (Nat.le_refl _) (.cells #[.slice A4 m.length c4] 29))).below (Below.refl _ _).drew)
        refine hK _ _ ⟨⟨_, HA1.out.P⟩, rfl⟩ ?_
        clear hK K
        simp only [opsAt, List.getElem?_toArray, List.getElem?_cons_succ, List.getElem?_cons_zero]
        repeat (go_big_quiet_step (fail))
        refine wpQuiet_nil ?_
        refine (show ∀ A B : Prop, A → B → A ∧ B from fun _ _ a b => ⟨a, b⟩) _ _ ?_ ?_
        · refine eff_as (C' := (fun w' => ∃ s : In (fun W => Blk W p 57 #[.slice (some ⟨gm, 0, none⟩) st.n mc, .slice RA st.rounds.length rc, .slice SA st.rounds.length sq, .bool st.open_]), w' = s.W)) rfl ?_
          (refine eff_lit rfl rfl (fun K hK => ?_))
          refine append_x_op (.tmp 88) (.tmp 90) 42 rfl B 29 (.slice none 0 0) 1 24 Try.info29 Try.underlying42 rfl (by decide) RA st.rounds.length rc (svs rs) rfl HA1.out.R (some ⟨wr.heap.size, 0, none⟩) 1 1 [.slice A4 m.length c4] rfl (reads_block HBL1.out 1 1 rfl) (by simp [Value.oneCell']) (by decide) (by omega) (by omega) (by have := HA1.out.F.size; omega) _ rfl ?_
          intro gR cR w5 hoR hgR hiR hltR
          simp only [Act.put, List.setIfInBounds_toArray, List.set_cons_succ, List.set_cons_zero]
          have HA2 := Lib.hid (HA1.out.appR hgR (rs' := rs ++ [⟨A4, m.length, c4⟩]) (by simpa [svs, Sl.v] using hoR) hmut)
          have hiR' : blkOf RA = some gR ∨ w.heap.size ≤ gR := hiR.imp id (fun e => by have := HA1.out.F.size; omega)
          clear hoR hgR
          refine hK _ _ ⟨⟨_, HA2.out.P⟩, rfl⟩ ?_
          clear hK K
          simp only [opsAt, List.getElem?_toArray, List.getElem?_cons_succ, List.getElem?_cons_zero]
          repeat (go_big_quiet_step (fail))
          refine wpQuiet_nil ?_
          refine eff_as (C' := (fun w' => ∃ s : In (fun W => Blk W p 57 #[.slice (some ⟨gm, 0, none⟩) st.n mc, .slice RA st.rounds.length rc, .slice SA st.rounds.length sq, .bool st.open_]), w' = s.W)) rfl ?_
          (refine eff_lit rfl rfl (fun K hK => ?_))
          go_big_op
          have HBL2 := Lib.hid (Blk.mk_ w5 66 #[.slice (some ⟨w3.heap.size, 0, none⟩) m.length m.length] _ rfl)
          have HA3 := Lib.hid (HA2.out.below ((Below.refl _ _).alloc (Nat.le_refl _) (.cells #[.slice (some ⟨w3.heap.size, 0, none⟩) m.length m.length] 66)))
          refine hK _ _ ⟨⟨_, HA3.out.P⟩, rfl⟩ ?_
          clear hK K
          simp only [opsAt, List.getElem?_toArray, List.getElem?_cons_succ, List.getElem?_cons_zero]
          repeat (go_big_quiet_step (fail))
          refine wpQuiet_nil ?_
          refine eff_as (C' := (fun w' => ∃ s : In (fun W => Blk W p 57 #[.slice (some ⟨gm, 0, none⟩) st.n mc, .slice RA st.rounds.length rc, .slice SA st.rounds.length sq, .bool st.open_]), w' = s.W)) rfl ?_
          (refine eff_lit rfl rfl (fun K hK => ?_))
          refine append_x_op (.tmp 95) (.tmp 97) 43 rfl B 66 (.slice none 0 0) 1 24 Try.info66 Try.underlying43 rfl (by decide) SA st.rounds.length sq (svs sts) rfl HA3.out.S (some ⟨w5.heap.size, 0, none⟩) 1 1 [.slice (some ⟨w3.heap.size, 0, none⟩) m.length m.length] rfl (reads_block HBL2.out 1 1 rfl) (by simp [Value.oneCell']) (by decide) (by omega) (by omega) (by have := HA3.out.F.size; omega) _ rfl ?_
          intro gS cS w6 hoS hgS hiS hltS
          simp only [Act.put, List.setIfInBounds_toArray, List.set_cons_succ, List.set_cons_zero]
          have HPE := Lib.hid (HA3.out.appS hgS (ss' := sts ++ [⟨some ⟨w3.heap.size, 0, none⟩, m.length, m.length⟩]) (by simpa [svs, Sl.v] using hoS) hmut2)
          have hiS' : blkOf SA = some gS ∨ w.heap.size ≤ gS := hiS.imp id (fun e => by have := HA3.out.F.size; omega)
          clear hoS hgS
          refine hK _ _ ⟨⟨_, HPE.out.P⟩, rfl⟩ ?_
          clear hK K
          simp only [opsAt, List.getElem?_toArray, List.getElem?_cons_succ, List.getElem?_cons_zero]
          repeat (go_big_quiet_step (fail))
          refine wpQuiet_nil ?_
          have e1 := (HPE.out.P.at_ 1).trans rfl
          have e2 := (HPE.out.P.at_ 2).trans rfl
          have e3 := (HPE.out.P.at_ 3).trans rfl
          have f1 := HPE.out.P.free 1
          have f2 := HPE.out.P.free 2
          have f3 := HPE.out.P.free 3
          have hp6 := HPE.out.P.lt
          refine eff_as (C' := fun _ => True) rfl ?_
          (refine eff_lit rfl rfl (fun K hK => ?_))
          go_big_op
          refine hK _ _ trivial ?_
          clear hK K z1 z2 hNE
          simp only [opsAt, List.getElem?_toArray, List.getElem?_cons_succ, List.getElem?_cons_zero]
          repeat (go_big_quiet_step (fail))
          refine wpQuiet_nil ?_
          refine eff_as (C' := fun _ => True) rfl ?_
          (refine eff_lit rfl rfl (fun K hK => ?_))
          go_big_op
          refine hK _ _ trivial ?_
          clear hK K
          simp only [opsAt, List.getElem?_toArray, List.getElem?_cons_succ, List.getElem?_cons_zero]
          repeat (go_big_quiet_step (fail))
          refine wpQuiet_nil ?_
          refine eff_as (C' := fun _ => True) rfl ?_
          (refine eff_lit rfl rfl (fun K hK => ?_))
          go_big_op
          refine hK _ _ trivial ?_
          clear hK K e1 e2 e3 f1 f2 f3 hp6
          simp only [opsAt, List.getElem?_toArray, List.getElem?_cons_succ, List.getElem?_cons_zero]
          refine wpQuiet_nil ?_
          refine effs_done ?_
          have HFI := Lib.hid (((HPE.out.put 1 (.slice (some ⟨gR, 0, none⟩) (st.rounds.length + 1) cR)).put 2 (.slice (some ⟨gS, 0, none⟩) (st.rounds.length + 1) cS)).put 3 (.bool true))
          go_wp2_with fail
          refine (clone27 A4 m.length c4 (dcells m) _ HFI.out.Dl.reads (dcells_one _) HFI.out.Dl.2 (by omega)).mono ?_
          rintro e w7 ⟨A7, c7, rfl, ho7, hb7⟩
          go_wp2
          go_ret2
          have hfi := start_fin HT.out HWF.out HP2.out hBw HFI.out hiR' hiS'
          obtain ⟨x', hx1, hx2, hx3⟩ := hfi
          unfold StartEnd
          rw [HSL.out, HE.out, HST.out]
          exact ⟨x', A7, c7, rfl, ho7.more hx2.size, hx1.below hb7, hx2.then hb7, hx3, fun i hi hf => Nat.lt_irrefl _ (Nat.lt_of_lt_of_le (hx1.foot i hf).2 (ho7.lt i hi).1)⟩
        · refine eff_as (C' := (fun w' => ∃ s : In (fun W => Blk W p 57 #[.slice (some ⟨gm, 0, none⟩) st.n mc, .slice RA st.rounds.length rc, .slice SA st.rounds.length sq, .bool st.open_]), w' = s.W)) rfl ?_
          (refine eff_lit rfl rfl (fun K hK => ?_))
          go_big_op
          have HBL1 := Lib.hid (((Blk.mk_ wr 29 #[.slice A4 m.length c4] _ rfl).alloc (.cells #[.slice (some ⟨w3.heap.size, 0, none⟩) m.length m.length] 66)).drew)
          have HBL2 := Lib.hid ((Blk.mk_ (wr.alloc (.cells #[.slice A4 m.length c4] 29)) 66 #[.slice (some ⟨w3.heap.size, 0, none⟩) m.length m.length] (wr.heap.size + 1) (by simp)).drew)
          have HA2 := Lib.hid (((HPR.out.below ((Below.refl _ _).alloc (Nat.le_refl _) (.cells #[.slice A4 m.length c4] 29))).below ((Below.refl _ _).alloc (Nat.le_refl _) (.cells #[.slice (some ⟨w3.heap.size, 0, none⟩) m.length m.length] 66))).below (Below.refl _ _).drew)
          refine hK _ _ ⟨⟨_, HA2.out.P⟩, rfl⟩ ?_
          clear hK K
          simp only [opsAt, List.getElem?_toArray, List.getElem?_cons_succ, List.getElem?_cons_zero]
          repeat (go_big_quiet_step (fail))
          refine wpQuiet_nil ?_
          refine eff_as (C' := (fun w' => ∃ s : In (fun W => Blk W p 57 #[.slice (some ⟨gm, 0, none⟩) st.n mc, .slice RA st.rounds.length rc, .slice SA st.rounds.length sq, .bool st.open_]), w' = s.W)) rfl ?_
          (refine eff_lit rfl rfl (fun K hK => ?_))
          refine append_x_op (.tmp 88) (.tmp 90) 42 rfl B 29 (.slice none 0 0) 1 24 Try.info29 Try.underlying42 rfl (by decide) RA st.rounds.length rc (svs rs) rfl HA2.out.R (some ⟨wr.heap.size, 0, none⟩) 1 1 [.slice A4 m.length c4] rfl (reads_block HBL1.out 1 1 rfl) (by simp [Value.oneCell']) (by decide) (by omega) (by omega) (by have := HA2.out.F.size; omega) _ rfl ?_
          intro gR cR w5 hoR hgR hiR hltR
          simp only [Act.put, List.setIfInBounds_toArray, List.set_cons_succ, List.set_cons_zero]
          have HA3 := Lib.hid (HA2.out.appR hgR (rs' := rs ++ [⟨A4, m.length, c4⟩]) (by simpa [svs, Sl.v] using hoR) hmut)
          have HBL2 := Lib.hid (HBL2.out.grown hgR (Ne.symm (HA2.out.R.apart_blk HBL2.out (by decide))))
          have hiR' : blkOf RA = some gR ∨ w.heap.size ≤ gR := hiR.imp id (fun e => by have := HA2.out.F.size; omega)
          clear hoR hgR
          refine hK _ _ ⟨⟨_, HA3.out.P⟩, rfl⟩ ?_
          clear hK K
          simp only [opsAt, List.getElem?_toArray, List.getElem?_cons_succ, List.getElem?_cons_zero]
          repeat (go_big_quiet_step (fail))
          refine wpQuiet_nil ?_
          refine eff_as (C' := (fun w' => ∃ s : In (fun W => Blk W p 57 #[.slice (some ⟨gm, 0, none⟩) st.n mc, .slice RA st.rounds.length rc, .slice SA st.rounds.length sq, .bool st.open_]), w' = s.W)) rfl ?_
          (refine eff_lit rfl rfl (fun K hK => ?_))
          refine append_x_op (.tmp 95) (.tmp 97) 43 rfl B 66 (.slice none 0 0) 1 24 Try.info66 Try.underlying43 rfl (by decide) SA st.rounds.length sq (svs sts) rfl HA3.out.S (some ⟨wr.heap.size + 1, 0, none⟩) 1 1 [.slice (some ⟨w3.heap.size, 0, none⟩) m.length m.length] rfl (reads_block HBL2.out 1 1 rfl) (by simp [Value.oneCell']) (by decide) (by omega) (by omega) (by have := HA3.out.F.size; omega) _ rfl ?_
          intro gS cS w6 hoS hgS hiS hltS
          simp only [Act.put, List.setIfInBounds_toArray, List.set_cons_succ, List.set_cons_zero]
          have HPE := Lib.hid (HA3.out.appS hgS (ss' := sts ++ [⟨some ⟨w3.heap.size, 0, none⟩, m.length, m.length⟩]) (by simpa [svs, Sl.v] using hoS) hmut2)
          have hiS' : blkOf SA = some gS ∨ w.heap.size ≤ gS := hiS.imp id (fun e => by have := HA3.out.F.size; omega)
          clear hoS hgS
          refine hK _ _ ⟨⟨_, HPE.out.P⟩, rfl⟩ ?_
          clear hK K
          simp only [opsAt, List.getElem?_toArray, List.getElem?_cons_succ, List.getElem?_cons_zero]
          repeat (go_big_quiet_step (fail))
          refine wpQuiet_nil ?_
          have e1 := (HPE.out.P.at_ 1).trans rfl
          have e2 := (HPE.out.P.at_ 2).trans rfl
          have e3 := (HPE.out.P.at_ 3).trans rfl
          have f1 := HPE.out.P.free 1
          have f2 := HPE.out.P.free 2
          have f3 := HPE.out.P.free 3
          have hp6 := HPE.out.P.lt
          refine eff_as (C' := fun _ => True) rfl ?_
          (refine eff_lit rfl rfl (fun K hK => ?_))
          go_big_op
          refine hK _ _ trivial ?_
          clear hK K z1 z2 hNE
          simp only [opsAt, List.getElem?_toArray, List.getElem?_cons_succ, List.getElem?_cons_zero]
          repeat (go_big_quiet_step (fail))
          refine wpQuiet_nil ?_
          refine eff_as (C' := fun _ => True) rfl ?_
          (refine eff_lit rfl rfl (fun K hK => ?_))
          go_big_op
          refine hK _ _ trivial ?_
          clear hK K
          simp only [opsAt, List.getElem?_toArray, List.getElem?_cons_succ, List.getElem?_cons_zero]
          repeat (go_big_quiet_step (fail))
          refine wpQuiet_nil ?_
          refine eff_as (C' := fun _ => True) rfl ?_
          (refine eff_lit rfl rfl (fun K hK => ?_))
          go_big_op
          refine hK _ _ trivial ?_
          clear hK K e1 e2 e3 f1 f2 f3 hp6
          simp only [opsAt, List.getElem?_toArray, List.getElem?_cons_succ, List.getElem?_cons_zero]
          refine wpQuiet_nil ?_
          refine effs_done ?_
          have HFI := Lib.hid (((HPE.out.put 1 (.slice (some ⟨gR, 0, none⟩) (st.rounds.length + 1) cR)).put 2 (.slice (some ⟨gS, 0, none⟩) (st.rounds.length + 1) cS)).put 3 (.bool true))
          go_wp2_with fail
          refine (clone27 A4 m.length c4 (dcells m) _ HFI.out.Dl.reads (dcells_one _) HFI.out.Dl.2 (by omega)).mono ?_
          rintro e w7 ⟨A7, c7, rfl, ho7, hb7⟩
          go_wp2
          go_ret2
          have hfi := start_fin HT.out HWF.out HP2.out hBw HFI.out hiR' hiS'
          obtain ⟨x', hx1, hx2, hx3⟩ := hfi
          unfold StartEnd
          rw [HSL.out, HE.out, HST.out]
          exact ⟨x', A7, c7, rfl, ho7.more hx2.size, hx1.below hb7, hx2.then hb7, hx3, fun i hi hf => Nat.lt_irrefl _ (Nat.lt_of_lt_of_le (hx1.foot i hf).2 (ho7.lt i hi).1)⟩
      · refine eff_as (C' := (fun w' => ∃ s : In (fun W => Blk W p 57 #[.slice (some ⟨gm, 0, none⟩) st.n mc, .slice RA st.rounds.length rc, .slice SA st.rounds.length sq, .bool st.open_]), w' = s.W)) rfl ?_
        (refine eff_lit rfl rfl (fun K hK => ?_))
        go_big_op
        have HA1 := Lib.hid ((HPR.out.below ((Below.refl _ _).alloc (Nat.le_refl _) (.cells #[.slice (some ⟨w3.heap.size, 0, none⟩) m.length m.length] 66))).below (Below.refl _ _).drew)
        refine hK _ _ ⟨⟨_, HA1.out.P⟩, rfl⟩ ?_
        clear hK K
        simp only [opsAt, List.getElem?_toArray, List.getElem?_cons_succ, List.getElem?_cons_zero]
        repeat (go_big_quiet_step (fail))
        refine wpQuiet_nil ?_
        refine eff_as (C' := (fun w' => ∃ s : In (fun W => Blk W p 57 #[.slice (some ⟨gm, 0, none⟩) st.n mc, .slice RA st.rounds.length rc, .slice SA st.rounds.length sq, .bool st.open_]), w' = s.W)) rfl ?_
        (refine eff_lit rfl rfl (fun K hK => ?_))
        go_big_op
        have HBL2 := Lib.hid (((Blk.mk_ wr 66 #[.slice (some ⟨w3.heap.size, 0, none⟩) m.length m.length] _ rfl).alloc (.cells #[.slice A4 m.length c4] 29)).drew)
        have HBL1 := Lib.hid ((Blk.mk_ (wr.alloc (.cells #[.slice (some ⟨w3.heap.size, 0, none⟩) m.length m.length] 66)) 29 #[.slice A4 m.length c4] (wr.heap.size + 1) (by simp)).drew)
        have HA2 := Lib.hid (((HPR.out.below ((Below.refl _ _).alloc (Nat.le_refl _) (.cells #[.slice (some ⟨w3.heap.size, 0, none⟩) m.length m.length] 66))).below ((Below.refl _ _).alloc (Nat.le_refl _) (.cells #[.slice A4 m.length c4] 29))).below (Below.refl _ _).drew)
        refine hK _ _ ⟨⟨_, HA2.out.P⟩, rfl⟩ ?_
        clear hK K
        simp only [opsAt, List.getElem?_toArray, List.getElem?_cons_succ, List.getElem?_cons_zero]
        repeat (go_big_quiet_step (fail))
        refine wpQuiet_nil ?_
        refine eff_as (C' := (fun w' => ∃ s : In (fun W => Blk W p 57 #[.slice (some ⟨gm, 0, none⟩) st.n mc, .slice RA st.rounds.length rc, .slice SA st.rounds.length sq, .bool st.open_]), w' = s.W)) rfl ?_
        (refine eff_lit rfl rfl (fun K hK => ?_))
        refine append_x_op (.tmp 88) (.tmp 90) 42 rfl B 29 (.slice none 0 0) 1 24 Try.info29 Try.underlying42 rfl (by decide) RA st.rounds.length rc (svs rs) rfl HA2.out.R (some ⟨wr.heap.size + 1, 0, none⟩) 1 1 [.slice A4 m.length c4] rfl (reads_block HBL1.out 1 1 rfl) (by simp [Value.oneCell']) (by decide) (by omega) (by omega) (by have := HA2.out.F.size; omega) _ rfl ?_
        intro gR cR w5 hoR hgR hiR hltR
        simp only [Act.put, List.setIfInBounds_toArray, List.set_cons_succ, List.set_cons_zero]
        have HA3 := Lib.hid (HA2.out.appR hgR (rs' := rs ++ [⟨A4, m.length, c4⟩]) (by simpa [svs, Sl.v] using hoR) hmut)
        have HBL2 := Lib.hid (HBL2.out.grown hgR (Ne.symm (HA2.out.R.apart_blk HBL2.out (by decide))))
        have hiR' : blkOf RA = some gR ∨ w.heap.size ≤ gR := hiR.imp id (fun e => by have := HA2.out.F.size; omega)
        clear hoR hgR
        refine hK _ _ ⟨⟨_, HA3.out.P⟩, rfl⟩ ?_
        clear hK K
        simp only [opsAt, List.getElem?_toArray, List.getElem?_cons_succ, List.getElem?_cons_zero]
        repeat (go_big_quiet_step (fail))
        refine wpQuiet_nil ?_
        refine eff_as (C' := (fun w' => ∃ s : In (fun W => Blk W p 57 #[.slice (some ⟨gm, 0, none⟩) st.n mc, .slice RA st.rounds.length rc, .slice SA st.rounds.length sq, .bool st.open_]), w' = s.W)) rfl ?_
        (refine eff_lit rfl rfl (fun K hK => ?_))
        refine append_x_op (.tmp 95) (.tmp 97) 43 rfl B 66 (.slice none 0 0) 1 24 Try.info66 Try.underlying43 rfl (by decide) SA st.rounds.length sq (svs sts) rfl HA3.out.S (some ⟨wr.heap.size, 0, none⟩) 1 1 [.slice (some ⟨w3.heap.size, 0, none⟩) m.length m.length] rfl (reads_block HBL2.out 1 1 rfl) (by simp [Value.oneCell']) (by decide) (by omega) (by omega) (by have := HA3.out.F.size; omega) _ rfl ?_
        intro gS cS w6 hoS hgS hiS hltS
        simp only [Act.put, List.setIfInBounds_toArray, List.set_cons_succ, List.set_cons_zero]
        have HPE := Lib.hid (HA3.out.appS hgS (ss' := sts ++ [⟨some ⟨w3.heap.size, 0, none⟩, m.length, m.length⟩]) (by simpa [svs, Sl.v] using hoS) hmut2)
        have hiS' : blkOf SA = some gS ∨ w.heap.size ≤ gS := hiS.imp id (fun e => by have := HA3.out.F.size; omega)
        clear hoS hgS
        refine hK _ _ ⟨⟨_, HPE.out.P⟩, rfl⟩ ?_
        clear hK K
        simp only [opsAt, List.getElem?_toArray, List.getElem?_cons_succ, List.getElem?_cons_zero]
        repeat (go_big_quiet_step (fail))
        refine wpQuiet_nil ?_
        have e1 := (HPE.out.P.at_ 1).trans rfl
        have e2 := (HPE.out.P.at_ 2).trans rfl
        have e3 := (HPE.out.P.at_ 3).trans rfl
        have f1 := HPE.out.P.free 1
        have f2 := HPE.out.P.free 2
        have f3 := HPE.out.P.free 3
        have hp6 := HPE.out.P.lt
        refine eff_as (C' := fun _ => True) rfl ?_
        (refine eff_lit rfl rfl (fun K hK => ?_))
        go_big_op
        refine hK _ _ trivial ?_
        clear hK K z1 z2 hNE
        simp only [opsAt, List.getElem?_toArray, List.getElem?_cons_succ, List.getElem?_cons_zero]
        repeat (go_big_quiet_step (fail))
        refine wpQuiet_nil ?_
        refine eff_as (C' := fun _ => True) rfl ?_
        (refine eff_lit rfl rfl (fun K hK => ?_))
        go_big_op
        refine hK _ _ trivial ?_
        clear hK K
        simp only [opsAt, List.getElem?_toArray, List.getElem?_cons_succ, List.getElem?_cons_zero]
        repeat (go_big_quiet_step (fail))
        refine wpQuiet_nil ?_
        refine eff_as (C' := fun _ => True) rfl ?_
        (refine eff_lit rfl rfl (fun K hK => ?_))
        go_big_op
        refine hK _ _ trivial ?_
        clear hK K e1 e2 e3 f1 f2 f3 hp6
        simp only [opsAt, List.getElem?_toArray, List.getElem?_cons_succ, List.getElem?_cons_zero]
        refine wpQuiet_nil ?_
        refine effs_done ?_
        have HFI := Lib.hid (((HPE.out.put 1 (.slice (some ⟨gR, 0, none⟩) (st.rounds.length + 1) cR)).put 2 (.slice (some ⟨gS, 0, none⟩) (st.rounds.length + 1) cS)).put 3 (.bool true))
        go_wp2_with fail
        refine (clone27 A4 m.length c4 (dcells m) _ HFI.out.Dl.reads (dcells_one _) HFI.out.Dl.2 (by omega)).mono ?_
        rintro e w7 ⟨A7, c7, rfl, ho7, hb7⟩
        go_wp2
        go_ret2
        have hfi := start_fin HT.out HWF.out HP2.out hBw HFI.out hiR' hiS'
        obtain ⟨x', hx1, hx2, hx3⟩ := hfi
        unfold StartEnd
        rw [HSL.out, HE.out, HST.out]
        exact ⟨x', A7, c7, rfl, ho7.more hx2.size, hx1.below hb7, hx2.then hb7, hx3, fun i hi hf => Nat.lt_irrefl _ (Nat.lt_of_lt_of_le (hx1.foot i hf).2 (ho7.lt i hi).1)⟩
end Go.Proofs.Ytngcmihaheiigaa
