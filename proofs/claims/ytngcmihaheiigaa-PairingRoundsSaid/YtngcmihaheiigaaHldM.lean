/-
  The stage's theorem: memory within a round.
-/
import Derived.Test.YtngcmihaheiigaaHldP
import Derived.Test.YtngcmihaheiigaaAlk
set_option linter.unusedSimpArgs false
set_option linter.unusedVariables false
namespace Go.Proofs.Ytngcmihaheiigaa
open Go.RowKit

def bls (l : List Bool) : List Value := l.map Value.bool
theorem XOwns.storeB {w : World} {base : Nat} {e : TypeId} {g n c : Nat} {xs : List Bool} (h : XOwns w base e 1 (some ⟨g, 0, none⟩) n c (bls xs)) (j : Nat) (u : Bool) : XOwns (w.setCell ⟨g, j, none⟩ (.bool u)) base e 1 (some ⟨g, 0, none⟩) n c (bls (xs.set j u)) := by
  have := h.setX j (.bool u)
  rwa [show (bls xs).set j (.bool u) = bls (xs.set j u) by simp [bls]] at this
theorem XOwns.bcell {w : World} {base : Nat} {e : TypeId} {g n c : Nat} {xs : List Bool} (h : XOwns w base e 1 (some ⟨g, 0, none⟩) n c (bls xs)) {j : Nat} (hj : j < n) : w.cell? ⟨g, j, none⟩ = some (.bool (bth xs j)) ∧ w.frozen? ⟨g, j, none⟩ = false := by
  have hl : xs.length = n := by have := h.len; simpa [bls] using this
  obtain ⟨g', hg, _, _, hc, hf⟩ := h.cell (j := j) (u := .bool (bth xs j)) (by rw [bls, List.getElem?_map, bth_get (by omega)]; rfl)
  injection hg with hg
  injection hg with hg
  subst hg
  exact ⟨hc, hf⟩
/-- Rows of other elements than a tournament's lie apart from it. -/
theorem Tn.apart {w : World} {B p : Nat} {st : TS} {x : TC} (h : Tn w B p st x) {b : Nat} {e : TypeId} {size : Nat} {A : Option Addr} {n c : Nat} {xs : List Value} (ho : XOwns w b e size A n c xs) (h1 : e ≠ 57) (h2 : e ≠ 67) (h3 : e ≠ 29) (h4 : e ≠ 66) (h5 : e ≠ 34) : ∀ i, MutT p x i → blkOf A ≠ some i := by
  have two : ∀ {A' : Option Addr} {b' size' n' c' : Nat} {e' : TypeId} {ys : List Value} {i : Nat}, XOwns w b' e' size' A' n' c' ys → e ≠ e' → blkOf A' = some i → blkOf A ≠ some i := fun hy hne hi he => by
    rcases ho.apart hy hne with h0 | h0
    · rw [h0] at he; cases he
    · exact h0 (he.trans hi.symm)
  rintro i (rfl | hi | hi | hi | ⟨k, s, hk, hi⟩)
  · exact ho.apart_blk h.blk h1
  · exact two h.met h2 hi
  · exact two h.rds h3 hi
  · exact two h.scs h4 hi
  · have hl : k < st.scores.length := by rw [h.ok.len, ← h.ss_len]; exact (List.getElem?_eq_some_iff.1 hk).1
    exact two (h.isc k s _ hk (List.getElem?_eq_getElem hl)) h5 hi
theorem Tn.apartF {w : World} {B p : Nat} {st : TS} {x : TC} (h : Tn w B p st x) {b : Nat} {e : TypeId} {size : Nat} {A : Option Addr} {n c : Nat} {xs : List Value} (ho : XOwns w b e size A n c xs) (h1 : e ≠ 57) (h2 : e ≠ 67) (h3 : e ≠ 29) (h4 : e ≠ 66) (h5 : e ≠ 34) (h6 : e ≠ 33) : ∀ i, FootT p x i → blkOf A ≠ some i := by
  rintro i (hi | ⟨k, s, hk, hi⟩)
  · exact h.apart ho h1 h2 h3 h4 h5 i hi
  · have hl : k < st.rounds.length := by rw [← h.rs_len]; exact (List.getElem?_eq_some_iff.1 hk).1
    intro he
    rcases ho.apart (h.ird k s _ hk (List.getElem?_eq_getElem hl)) h6 with h0 | h0
    · rw [h0] at he; cases he
    · exact h0 (he.trans hi.symm)
theorem Tn.put {w : World} {B p : Nat} {st : TS} {x : TC} (h : Tn w B p st x) {g i : Nat} {u : Value} (hg : ∀ i, FootT p x i → some g ≠ some i) : Tn (w.setCell ⟨g, i, none⟩ u) B p st x :=
  h.onlyF (F := (g = ·)) ((OnlyF.refl w).put (p := ⟨g, i, none⟩) (.inl rfl) u) (fun j hj e => hg j hj (by rw [e]))

/-- Midway in a round. -/
structure HMid (w w4 : World) (gP gm gs n N2 L c : Nat) (A : Option Addr) (st : TS) (m : List D) (sc : List Int) (x : TC) (sn mt : List Bool) (W : World) : Prop where
  T : Tn W w.heap.size gP (midT st m sc) x
  M : XOwns W w.heap.size 4 1 (some ⟨gm, 0, none⟩) N2 N2 (bls mt)
  S : XOwns W w4.heap.size 4 1 (some ⟨gs, 0, none⟩) n n (bls sn)
  R : XOwns W w.heap.size 33 2 A L c (dcells m)
  Bl : Below w.heap.size w W
section
variable {w w4 W W' : World} {gP gm gs n N2 L c : Nat} {A : Option Addr} {st : TS} {m : List D} {sc : List Int} {x : TC} {sn mt : List Bool}
theorem HMid.below (h : HMid w w4 gP gm gs n N2 L c A st m sc x sn mt W) (hb : Below W.heap.size W W') : HMid w w4 gP gm gs n N2 L c A st m sc x sn mt W' :=
  ⟨h.T.below hb, h.M.below hb, h.S.below hb, h.R.below hb, below_call h.Bl hb h.Bl.size⟩
theorem HMid.putS (h : HMid w w4 gP gm gs n N2 L c A st m sc x sn mt W) (hne : gm ≠ gs) (hw : w.heap.size ≤ gs) (i : Nat) : HMid w w4 gP gm gs n N2 L c A st m sc x (sn.set i true) mt (W.setCell ⟨gs, i, none⟩ (.bool true)) :=
  ⟨h.T.put (h.T.apartF h.S (by decide) (by decide) (by decide) (by decide) (by decide) (by decide)), h.M.put (by intro e; injection e with e; exact hne e), h.S.storeB i true, h.R.put (by
    rcases h.R.apart h.S (by decide) with h1 | h1
    · rw [h1]; intro e; cases e
    · exact h1), h.Bl.setCell (p := ⟨gs, i, none⟩) hw _⟩
theorem HMid.putM (h : HMid w w4 gP gm gs n N2 L c A st m sc x sn mt W) (hne : gm ≠ gs) (hw : w.heap.size ≤ gm) (i : Nat) : HMid w w4 gP gm gs n N2 L c A st m sc x sn (mt.set i true) (W.setCell ⟨gm, i, none⟩ (.bool true)) :=
  ⟨h.T.put (h.T.apartF h.M (by decide) (by decide) (by decide) (by decide) (by decide) (by decide)), h.M.storeB i true, h.S.put (by intro e; injection e with e; exact hne e.symm), h.R.put (by
    rcases h.R.apart h.M (by decide) with h1 | h1
    · rw [h1]; intro e; cases e
    · exact h1), h.Bl.setCell (p := ⟨gm, i, none⟩) hw _⟩
theorem HMid.turn (h : HMid w w4 gP gm gs n N2 L c A st m sc x sn mt W) {sc' : List Int} (hT : Tn W' w.heap.size gP (midT st m sc') x) (hF : OnlyF (MutT gP x) W W') : HMid w w4 gP gm gs n N2 L c A st m sc' x sn mt W' :=
  ⟨hT, h.M.onlyF hF (fun i hi hm => h.T.apart h.M (by decide) (by decide) (by decide) (by decide) (by decide) i hm hi), h.S.onlyF hF (fun i hi hm => h.T.apart h.S (by decide) (by decide) (by decide) (by decide) (by decide) i hm hi),
    h.R.onlyF hF (fun i hi hm => h.T.apart h.R (by decide) (by decide) (by decide) (by decide) (by decide) i hm hi), h.Bl.trans (hF.below h.Bl.size (fun i hi => (h.T.foot i (.inl hi)).1))⟩
end
/-- At the head of a round. -/
structure HHead (w : World) (gP gm n N2 k : Nat) (st : TS) (x : TC) (mt : List Bool) (sm : Int) (W : World) : Prop where
  T : Tn W w.heap.size gP st x
  G : XOwns W w.heap.size 4 1 (some ⟨gm, 0, none⟩) N2 N2 (bls mt)
  Bl : Below w.heap.size w W
  sn : st.n = n
  so : st.open_ = false
  sk : st.rounds.length = k
  mt_ : MtOk n st.rounds [] mt
  sum : sm = (ptsS st.n st.rounds st.scores).sum
/-- Within a round, ahead of the duel q. -/
structure HIn (w w4 : World) (gP gm gs n N2 c : Nat) (A : Option Addr) (st : TS) (m : List D) (q : Nat) (sc : List Int) (x : TC) (sn mt : List Bool) (W : World) : Prop where
  mid : HMid w w4 gP gm gs n N2 m.length c A st m sc x sn mt W
  sc_ : ScOk m q sc
  mt_ : MtOk n st.rounds (m.take q) mt
  sn_ : SnOk n (m.take q) sn
section
variable {w w4 W W' : World} {gP gm gs n N2 c : Nat} {A : Option Addr} {st : TS} {m : List D} {q : Nat} {sc : List Int} {x : TC} {sn mt : List Bool}
theorem HIn.below (h : HIn w w4 gP gm gs n N2 c A st m q sc x sn mt W) (hb : Below W.heap.size W W') : HIn w w4 gP gm gs n N2 c A st m q sc x sn mt W' := ⟨h.mid.below hb, h.sc_, h.mt_, h.sn_⟩
theorem HIn.stored (h : HIn w w4 gP gm gs n N2 c A st m q sc x sn mt W) (hq : q < m.length) (hd : DOk n (dth m q)) {a b i j : Nat} (ha : (dth m q).a = a) (hb : (dth m q).c = b) (hi : a * n + b = i) (hj : b * n + a = j) (hne : gm ≠ gs) (h1 : w.heap.size ≤ gm) (h2 : w.heap.size ≤ gs) :
    HMid w w4 gP gm gs n N2 m.length c A st m sc x ((sn.set a true).set b true) ((mt.set i true).set j true) ((((W.setCell ⟨gs, a, none⟩ (.bool true)).setCell ⟨gs, b, none⟩ (.bool true)).setCell ⟨gm, i, none⟩ (.bool true)).setCell ⟨gm, j, none⟩ (.bool true)) ∧
      MtOk n st.rounds (m.take (q + 1)) ((mt.set i true).set j true) ∧ SnOk n (m.take (q + 1)) ((sn.set a true).set b true) := by
  refine ⟨(((h.mid.putS hne h2 a).putS hne h2 b).putM hne h1 i).putM hne h1 j, ?_, ?_⟩
  · rw [take_snocD hq, ← hi, ← hj]; exact h.mt_.step hd ha hb
  · rw [take_snocD hq]; exact h.sn_.step hd ha hb
theorem HIn.bye (h : HIn w w4 gP gm gs n N2 c A st m q sc x sn mt W) (hq : q < m.length) (hd : DOk n (dth m q)) {a i : Nat} (ha : (dth m q).a = a) (hb : (dth m q).b < 0) (hi : a * n + a = i) (hne : gm ≠ gs) (h1 : w.heap.size ≤ gm) (h2 : w.heap.size ≤ gs) :
    HIn w w4 gP gm gs n N2 c A st m (q + 1) sc x ((sn.set a true).set a true) ((mt.set i true).set i true) ((((W.setCell ⟨gs, a, none⟩ (.bool true)).setCell ⟨gs, a, none⟩ (.bool true)).setCell ⟨gm, i, none⟩ (.bool true)).setCell ⟨gm, i, none⟩ (.bool true)) := by
  have hc : (dth m q).c = a := by unfold D.c; rw [if_pos hb]; exact ha
  obtain ⟨g1, g2, g3⟩ := h.stored hq hd ha hc hi hi hne h1 h2
  exact ⟨g1, h.sc_.bye hb, g2, g3⟩
theorem HIn.init {w4 : World} (hT : Tn W w.heap.size gP (midT st m (initS m)) x) (hG : XOwns W w.heap.size 4 1 (some ⟨gm, 0, none⟩) N2 N2 (bls mt)) (hS : XOwns W w4.heap.size 4 1 (some ⟨gs, 0, none⟩) n n (bls (List.replicate n false))) (hR : XOwns W w.heap.size 33 2 A m.length c (dcells m)) (hB : Below w.heap.size w W) (hM : MtOk n st.rounds [] mt) : HIn w w4 gP gm gs n N2 c A st m 0 (initS m) x (List.replicate n false) mt W :=
  ⟨⟨hT, hG, hS, hR, hB⟩, ScOk.init m, hM, SnOk.init n⟩
/-- What the walk needs of the next duel. -/
theorem HIn.next (h : HIn w w4 gP gm gs n N2 c A st m q sc x sn mt W) (hw : st.whole = some m) (hwf : st.WF) (hn : st.n = n) (hq : q < m.length) {a b : Nat} (ha : (dth m q).a = a) (hb : (dth m q).c = b) : bth sn a = false ∧ bth sn b = false ∧ bth mt (a * n + b) = false := by
  have hd := (TS.round_ok hwf hw).1 _ (List.mem_of_getElem? (dth_get hq))
  have h1 := hd.2.1
  have h2 := (D.c_ok hd).2
  obtain ⟨f1, f2, f3⟩ := round_fresh hwf hw hq
  rw [ha] at f1 f3
  rw [hb] at f2 f3
  rw [h.sn_.2 a (by omega), h.sn_.2 b (by omega), h.mt_.2 a b (by omega) (by omega)]
  exact ⟨decide_eq_false f1, decide_eq_false f2, f3⟩
theorem HIn.rep (h : HMid w w4 gP gm gs n N2 m.length c A st m sc x sn mt W) (hs : ScOk m q sc) (h1 : MtOk n st.rounds (m.take (q + 1)) mt) (h2 : SnOk n (m.take (q + 1)) sn) (hq : q < m.length) (hb : ¬ (dth m q).b < 0) {s : Int} (hs2 : 0 ≤ s ∧ s ≤ 2) (hT : Tn W' w.heap.size gP (midT st m (sc.set q s)) x) (hF : OnlyF (MutT gP x) W W') :
    HIn w w4 gP gm gs n N2 c A st m (q + 1) (sc.set q s) x sn mt W' := ⟨h.turn hT hF, hs.rep hq hs2 hb, h1, h2⟩
/-- Behind a round: the next one's head. -/
theorem HIn.next_head (h : HIn w w4 gP gm gs n N2 c A st m m.length sc x sn mt W) (hwf : st.WF) (hw : st.whole = some m) (hn : st.n = n) {k : Nat} (hk : st.rounds.length = k) {sm : Int} (hs : sm = (ptsS st.n st.rounds st.scores).sum) (hT : Tn W' w.heap.size gP (endT st m sc) x) (hF : OnlyF (MutT gP x) W W') :
    HHead w gP gm n N2 (k + 1) (endT st m sc) x mt (sm + 2 * (m.length : Int)) W' :=
  ⟨hT, h.mid.M.onlyF hF (fun i hi hm => h.mid.T.apart h.mid.M (by decide) (by decide) (by decide) (by decide) (by decide) i hm hi), h.mid.Bl.trans (hF.below h.mid.Bl.size (fun i hi => (h.mid.T.foot i (.inl hi)).1)), hn, rfl, by simp [endT, hk], by have := h.mt_.next; rwa [List.take_length] at this, by
    have := end_sum hwf (TS.round_ok hwf hw) h.sc_
    rw [hs]
    exact this.symm⟩
theorem HHead.below {k : Nat} {sm : Int} (h : HHead w gP gm n N2 k st x mt sm W) (hb : Below W.heap.size W W') : HHead w gP gm n N2 k st x mt sm W' :=
  ⟨h.T.below hb, h.G.below hb, below_call h.Bl hb h.Bl.size, h.sn, h.so, h.sk, h.mt_, h.sum⟩
end
end Go.Proofs.Ytngcmihaheiigaa
