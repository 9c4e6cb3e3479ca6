/-
  starts; the states of the chapter's examples.
-/
import Derived.Test.YtngcmihaheiigaaCpy
set_option linter.unusedSimpArgs false
set_option linter.unusedVariables false
namespace Go.Proofs.Ytngcmihaheiigaa
open Go.RowKit

theorem TS.sList_len {st : TS} (h : st.WF) : st.sList.length ≤ 7 := by
  unfold TS.sList
  split
  · cases hm : st.whole with
    | none => simp
    | some m =>
      have h1 := (TS.whole_ok' h hm).len
      have h2 := (TS.ord_mem h).2.2
      have h3 := h.n0
      simp only [Option.getD_some]
      omega
  · simp
/-- What starts hands back, if it is asked for what Start returns. -/
def StartsEnd (B p : Nat) (st : TS) (x : TC) (w : World) (e : Ending) (w' : World) : Prop :=
  ∃ x', e = .returned (.bool true) ∧ Tn w' B p st.start x' ∧ OnlyF (MutT p x) w w' ∧ ∀ i, FootT p x' i → FootT p x i ∨ w.heap.size ≤ i
set_option maxHeartbeats 800000 in
theorem starts_any (B p : Nat) (st : TS) (x : TC) (A : Option Addr) (nw c : Nat) (w : World) (h : Tn w B p st x) (hx : Reads w 2 A nw (dcells st.sList)) (hsep : 0 < nw → ∀ i, blkOf A = some i → ¬ MutT p x i) : Calls Try.prog 16 #[.pointer (some ⟨p, 0, none⟩), .slice A nw c, .int .i64 st.sErr] w (StartsEnd B p st x w) := by
  have HT := Lib.hid h
  have HX := Lib.hid hx
  have HL := Lib.hid (TS.sList_len h.ok)
  have HS := Lib.hid hsep
  clear h hx hsep
  go_enter Try.func16, Try.ntmps16
  go_wp2_with (first
    | (go_at_call 10; refine (start_any B p st x _ HT.out).mono ?_; rintro e w1 ⟨x1, A1, c1, rfl, ho1, ht1, hf1, hft1, _⟩; have HO1 := Lib.hid ho1; have HT1 := Lib.hid ht1; have HF1 := Lib.hid hf1; have HFT1 := Lib.hid hft1; clear ho1 ht1 hf1 hft1)
    | (go_at_call 31; refine (duels_any A1 A _ c1 nw c st.sList st.sList _ HO1.out.reads (HX.out.onlyF HF1.out HS.out) (by have := HL.out; omega)).mono ?_; rw [decide_eq_true (rfl : st.sList = st.sList)]; rintro e w2 ⟨rfl, hb2⟩)
    | fail)
  go_ret
  exact ⟨x1, rfl, HT1.out.below hb2, HF1.out.then hb2, HFT1.out⟩

/-! ### The chapter's examples -/
def K0 : TS := ts0 5
def Ka : TS := ⟨5, [[⟨0, 1⟩, ⟨2, 3⟩, ⟨4, -1⟩]], [[-1, -1, 2]], true⟩
def Kb : TS := ⟨5, [[⟨0, 1⟩, ⟨2, 3⟩, ⟨4, -1⟩]], [[2, -1, 2]], true⟩
def Kc : TS := ⟨5, [[⟨0, 1⟩, ⟨2, 3⟩, ⟨4, -1⟩]], [[2, 1, 2]], true⟩
def Kd : TS := ⟨5, [[⟨0, 1⟩, ⟨2, 3⟩, ⟨4, -1⟩]], [[2, 1, 2]], false⟩
def Ke : TS := ⟨5, [[⟨0, 1⟩, ⟨2, 3⟩, ⟨4, -1⟩], [⟨0, 2⟩, ⟨4, 3⟩, ⟨1, -1⟩]], [[2, 1, 2], [-1, -1, 2]], true⟩
def Kf : TS := ⟨5, [[⟨0, 1⟩, ⟨2, 3⟩, ⟨4, -1⟩], [⟨0, 2⟩, ⟨4, 3⟩, ⟨1, -1⟩]], [[2, 1, 2], [0, -1, 2]], true⟩
def Kg : TS := ⟨5, [[⟨0, 1⟩, ⟨2, 3⟩, ⟨4, -1⟩], [⟨0, 2⟩, ⟨4, 3⟩, ⟨1, -1⟩]], [[2, 1, 2], [0, 2, 2]], true⟩
def Kh : TS := ⟨5, [[⟨0, 1⟩, ⟨2, 3⟩, ⟨4, -1⟩], [⟨0, 2⟩, ⟨4, 3⟩, ⟨1, -1⟩]], [[2, 1, 2], [0, 2, 2]], false⟩
theorem Ka_start : K0.start = Ka := by kernel_rfl
theorem Ka_err : K0.sErr = 0 := by kernel_rfl
theorem Ka_list : K0.sList = [⟨0, 1⟩, ⟨2, 3⟩, ⟨4, -1⟩] := by kernel_rfl
theorem Kb_rep : Ka.report 0 2 = Kb := by kernel_rfl
theorem Kb_err : Ka.rErr 0 2 = 0 := by kernel_rfl
theorem Kc_rep : Kb.report 1 1 = Kc := by kernel_rfl
theorem Kc_err : Kb.rErr 1 1 = 0 := by kernel_rfl
theorem Kc_pts : ptsS 5 Kc.rounds Kc.scores = [2, 0, 1, 1, 2] := by kernel_rfl
theorem Kd_close : Kc.close = Kd := by kernel_rfl
theorem Kd_err : Kc.cErr = 0 := by kernel_rfl
theorem Kd_ord : Kd.ord = [0, 4, 2, 3, 1] := by kernel_rfl
theorem Ke_start : Kd.start = Ke := by kernel_rfl
theorem Ke_err : Kd.sErr = 0 := by kernel_rfl
theorem Ke_list : Kd.sList = [⟨0, 2⟩, ⟨4, 3⟩, ⟨1, -1⟩] := by kernel_rfl
theorem Ke_same : Ke.start = Ke := by kernel_rfl
theorem Ke_err8 : Ke.sErr = 8 := by kernel_rfl
theorem Ke_nil : Ke.sList = [] := by kernel_rfl
theorem Ke_close : Ke.close = Ke := by kernel_rfl
theorem Ke_err10 : Ke.cErr = 10 := by kernel_rfl
theorem Ke_rep : Ke.report 2 2 = Ke := by kernel_rfl
theorem Ke_err9 : Ke.rErr 2 2 = 9 := by kernel_rfl
theorem Kf_rep : Ke.report 0 0 = Kf := by kernel_rfl
theorem Kf_err : Ke.rErr 0 0 = 0 := by kernel_rfl
theorem Kg_rep : Kf.report 1 2 = Kg := by kernel_rfl
theorem Kg_err : Kf.rErr 1 2 = 0 := by kernel_rfl
theorem Kh_close : Kg.close = Kh := by kernel_rfl
theorem Kh_err : Kg.cErr = 0 := by kernel_rfl
theorem Kh_pts : ptsS 5 Kh.rounds Kh.scores = [2, 2, 3, 1, 4] := by kernel_rfl
theorem Kh_ord : Kh.ord = [4, 2, 0, 1, 3] := by kernel_rfl

/-- A call that turns the tournament. -/
def PlayEnd (B p : Nat) (st' : TS) (v : Value) (w : World) (e : Ending) (w' : World) : Prop := ∃ x', e = .returned v ∧ Tn w' B p st' x' ∧ Below B w w'
section
variable {B p : Nat} {st st' : TS} {x : TC} {w : World}
theorem starts_g {g n c : Nat} {l : List D} {no : Int} (h : Tn w B p st x) (hx : Reads w 2 (some ⟨g, 0, none⟩) n (dcells l)) (hg : ∀ i, FootT p x i → i ≠ g) (hl : st.sList = l) (hno : st.sErr = no) (hst : st.start = st') :
    Calls Try.prog 16 #[.pointer (some ⟨p, 0, none⟩), .slice (some ⟨g, 0, none⟩) n c, .int .i64 no] w (PlayEnd B p st' (.bool true) w) := by
  subst hl hno hst
  have hbz : B ≤ w.heap.size := by have := h.base; have := h.blk.lt; omega
  exact (starts_any B p st x _ n c w h hx (fun _ i hi hm => hg i (.inl hm) (by injection hi with hi; exact hi.symm))).mono fun e w' ⟨x', h1, h2, h3, _⟩ => ⟨x', h1, h2, h3.below hbz (fun i hi => (h.foot i (.inl hi)).1)⟩
theorem starts_n {no : Int} (h : Tn w B p st x) (hl : st.sList = []) (hno : st.sErr = no) (hst : st.start = st') :
    Calls Try.prog 16 #[.pointer (some ⟨p, 0, none⟩), .slice none 0 0, .int .i64 no] w (PlayEnd B p st' (.bool true) w) := by
  subst hno hst
  have hbz : B ≤ w.heap.size := by have := h.base; have := h.blk.lt; omega
  exact (starts_any B p st x none 0 0 w h (by rw [hl]; exact Reads.none_) (fun h => absurd h (by omega))).mono fun e w' ⟨x', h1, h2, h3, _⟩ => ⟨x', h1, h2, h3.below hbz (fun i hi => (h.foot i (.inl hi)).1)⟩
theorem report_g {d s no : Int} (h : Tn w B p st x) (hno : st.rErr d s = no) (hst : st.report d s = st') : Calls Try.prog 11 #[.pointer (some ⟨p, 0, none⟩), .int .i64 d, .int .i64 s] w (PlayEnd B p st' (.int .i64 no) w) := by
  subst hno hst
  have hbz : B ≤ w.heap.size := by have := h.base; have := h.blk.lt; omega
  exact (report_any B p st x d s w h).mono fun e w' ⟨h1, h2, h3⟩ => ⟨x, h1, h2, h3.below hbz (fun i hi => (h.foot i (.inl hi)).1)⟩
theorem close_g {no : Int} (h : Tn w B p st x) (hno : st.cErr = no) (hst : st.close = st') : Calls Try.prog 12 #[.pointer (some ⟨p, 0, none⟩)] w (PlayEnd B p st' (.int .i64 no) w) := by
  subst hno hst
  have hbz : B ≤ w.heap.size := by have := h.base; have := h.blk.lt; omega
  exact (close_any B p st x w h).mono fun e w' ⟨h1, h2, h3⟩ => ⟨x, h1, h2, h3.below hbz (fun i hi => (h.foot i (.inl hi)).1)⟩
theorem points_g {l : List Int} (h : Tn w B p st x) (hl : ptsS st.n st.rounds st.scores = l) : Calls Try.prog 13 #[.pointer (some ⟨p, 0, none⟩)] w fun e w' => ∃ g, e = .returned (.slice (some ⟨g, 0, none⟩) st.n st.n) ∧ Reads w' 1 (some ⟨g, 0, none⟩) st.n (ics l) ∧ Below w.heap.size w w' := by
  subst hl
  exact (points_any B p st x w h).mono fun e w' ⟨g, h1, h2, h3⟩ => ⟨g, h1, h2.reads, h3⟩
theorem order_g {l : List Int} (h : Tn w B p st x) (hl : st.ord = l) : Calls Try.prog 20 #[.pointer (some ⟨p, 0, none⟩)] w fun e w' => ∃ g, e = .returned (.slice (some ⟨g, 0, none⟩) st.n st.n) ∧ Reads w' 1 (some ⟨g, 0, none⟩) st.n (ics l) ∧ Below w.heap.size w w' := by
  subst hl
  exact (order_any B p st x w h).mono fun e w' ⟨g, h1, h2, h3⟩ => ⟨g, h1, h2.reads, h3⟩
theorem ints_g {g g2 n m c c2 : Nat} {l : List Int} (hx : Reads w 1 (some ⟨g, 0, none⟩) n (ics l)) (hy : Reads w 1 (some ⟨g2, 0, none⟩) m (ics l)) (hn : n ≤ 1000000) : Calls Try.prog 24 #[.slice (some ⟨g, 0, none⟩) n c, .slice (some ⟨g2, 0, none⟩) m c2] w fun e w' => e = .returned (.bool true) ∧ Below w.heap.size w w' := by
  have h := ints_any _ _ n c m c2 l l w hx hy hn
  rw [decide_eq_true (rfl : l = l)] at h
  exact h
end
end Go.Proofs.Ytngcmihaheiigaa
