/-
  Start.
-/
import Derived.Test.YtngcmihaheiigaaStP
import Derived.Test.YtngcmihaheiigaaOrd
set_option linter.unusedSimpArgs false
set_option linter.unusedVariables false
namespace Go.Proofs.Ytngcmihaheiigaa
open Go.RowKit

/-- What Start hands back. -/
def StartEnd (B p : Nat) (st : TS) (x : TC) (w : World) (e : Ending) (w' : World) : Prop :=
  ∃ x' A c, e = .returned (.tuple #[.slice A st.sList.length c, .int .i64 st.sErr]) ∧ XOwns w' w.heap.size 33 2 A st.sList.length c (dcells st.sList) ∧ Tn w' B p st.start x' ∧ OnlyF (MutT p x) w w' ∧ (∀ i, FootT p x' i → FootT p x i ∨ w.heap.size ≤ i) ∧ ∀ i, blkOf A = some i → ¬ FootT p x' i
theorem StartEnd.bad {B p : Nat} {st : TS} {x : TC} {w w' : World} {n : Int} (h : Tn w B p st x) (he : st.sErr = n) (hn : n ≠ 0) (hb : Below w.heap.size w w') : StartEnd B p st x w (.returned (.tuple #[.slice none 0 0, .int .i64 n])) w' := by
  have h1 : st.sList = [] := by unfold TS.sList; rw [if_neg (by omega)]
  have h2 : st.start = st := by unfold TS.start; rw [if_neg (by omega)]
  unfold StartEnd
  rw [h1, h2, he]
  exact ⟨x, none, 0, rfl, XOwns.nil_ _ _ _ _, h.below hb, OnlyF.of_below hb, (fun i hi => .inl hi), fun i hi => by cases hi⟩

set_option maxHeartbeats 800000 in
theorem start_bad (B p : Nat) (st : TS) (x : TC) (w : World) (h : Tn w B p st x) (he : st.sErr ≠ 0) : Calls Try.prog 10 #[.pointer (some ⟨p, 0, none⟩)] w (StartEnd B p st x w) := by
  have HT := Lib.hid h
  have x1 := (h.blk.at_ 1).trans rfl
  have x3 := (h.blk.at_ 3).trans rfl
  have hn := h.ok.n0
  have HOR := Lib.hid (TS.ord_mem h.ok)
  cases hop : st.open_ with
  | true =>
    have HE : Hid (st.sErr = 8) := Lib.hid (by unfold TS.sErr; rw [hop]; rfl)
    rw [hop] at x3
    clear h he
    go_enter Try.func10, Try.ntmps10
    go_wp2_with (go_at_call 25; refine (none_f B p st x _ HT.out).mono ?_; rintro e w1 ⟨rfl, rfl⟩)
    go_ret2
    exact StartEnd.bad HT.out HE.out (by decide) (Below.refl _ _)
  | false =>
    rw [hop] at x3
    by_cases hc : 13 ≤ st.rounds.length
    · have HE : Hid (st.sErr = 7) := Lib.hid (by unfold TS.sErr; rw [hop, if_neg (by decide), if_pos hc])
      have hc' : (13 : Int) ≤ st.rounds.length := by omega
      clear h he
      go_enter Try.func10, Try.ntmps10
      go_wp2_with (go_at_call 25; refine (none_f B p st x _ HT.out).mono ?_; rintro e w1 ⟨rfl, rfl⟩)
      go_ret2
      exact StartEnd.bad HT.out HE.out (by decide) (Below.refl _ _)
    · have hw : st.whole = none := by
        cases hw : st.whole with
        | none => rfl
        | some m => exact absurd (by unfold TS.sErr; rw [hop, if_neg (by decide), if_neg hc, hw]; rfl) he
      have HE : Hid (st.sErr = 9) := Lib.hid (by unfold TS.sErr; rw [hop, if_neg (by decide), if_neg hc, if_pos hw])
      have HW : Hid (wholeS (frS st) st.ord = none) := Lib.hid hw
      have hc' : ¬ (13 : Int) ≤ st.rounds.length := by omega
      have hc2 : decide ((13 : Int) ≤ st.rounds.length) = false := decide_eq_false hc'
      clear h he hw
      go_enter Try.func10, Try.ntmps10
      go_wp2_with (first
        | (go_at_call 25; refine (none_f B p st x _ HT.out).mono ?_; rintro e w1 ⟨rfl, rfl⟩)
        | (go_at_call 20; refine (order_any B p st x _ HT.out).mono ?_; rintro e w2 ⟨go, rfl, ho2, hb2⟩; have HT2 := Lib.hid (HT.out.below hb2); have HO2 := Lib.hid ho2; have hz2 := hb2.size; clear ho2)
        | (go_at_call 26; refine (whole_any B p st x st.ord (by rw [HOR.out.2.2]; omega) _ st.n st.n _ HT2.out HO2.out.reads (Nat.le_refl _) (by omega) (fun h => by cases h) HOR.out.1).mono ?_; rw [HW.out]; rintro e w3 ⟨rfl, hb3⟩)
        | fail)
      go_ret2
      exact StartEnd.bad HT.out HE.out (by decide) (below_call hb2 hb3 hz2)
end Go.Proofs.Ytngcmihaheiigaa
