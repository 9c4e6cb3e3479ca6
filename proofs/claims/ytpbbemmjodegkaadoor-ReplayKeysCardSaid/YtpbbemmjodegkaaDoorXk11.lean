/-
  Texts: Sched2.
-/
import Derived.Test.YtpbbemmjodegkaaDoorXk10
set_option linter.unusedVariables false
namespace Go.Proofs.YtpbbemmjodegkaaDoor
open Go.RowKit
section
variable {P : Program} {ops : Array Oper} {Q : Exit → Act → World → Prop} {md : Region.Mode} {late : List Nat} {T : Bool → World → Prop}

def pureB (md : Region.Mode) (ops : Array Oper) (late : List Nat) : List Nat → Array Bool → Option (Array Bool)
  | [], l => some l
  | i :: is, l => if (Region.ready md ops l).contains i && Region.free md ops l i && ((ops[i]?).map (valOp ·.op)).getD false && !late.contains i then pureB md ops late is (l.setIfInBounds i true) else none
theorem pure_take (hsel : Region.noSelect ops = true) (hQ : ∀ d v c a w, Q (.panic c) (Act.put a d v) w → Q (.panic c) a w) {b : Bool} {w : World} (hT : T b w) {C : World → Prop} (hC : ∀ w, C w) {Qa : Act → Prop} {f : Nat} {l' : Array Bool}
    (hk : ∀ a', Closed md ops l' → early late l' = b → Qa a' → wpG P md ops Q late T f l' a' w) : ∀ (hs : List Nat) (l : Array Bool) (a : Act), Closed md ops l → early late l = b → pureB md ops late hs l = some l' → wpQuiet P ops C Qa (opsAt ops hs) a → wpG P md ops Q late T (hs.length + f) l a w
  | [], l, a, hc, he, hB, h => by
    simp only [pureB, Option.some.injEq] at hB
    subst hB
    simpa [opsAt, wpQuiet] using hk _ hc he h
  | i :: is, l, a, hc, he, hB, h => by
    simp only [pureB] at hB
    split at hB
    · rename_i hcond
      simp only [Bool.and_eq_true, Bool.not_eq_true'] at hcond
      obtain ⟨⟨⟨hr, hf⟩, hv⟩, hni⟩ := hcond
      cases ho : ops[i]? with
      | none => rw [ho] at hv; cases hv
      | some o =>
        rw [ho] at hv
        simp only [Option.map_some, Option.getD_some] at hv
        simp only [opsAt, ho, wpQuiet] at h
        have hrm : i ∈ Region.ready md ops l := by simpa using hr
        have hnext := fun v hn => pure_take hsel hQ hT hC hk is (l.setIfInBounds i true) (a.put o.dst v) (closed_set hc hrm) (by rw [early_set hni]; exact he) hB hn
        rw [show (i :: is).length + f = (is.length + f) + 1 by simp only [List.length_cons]; omega]
        by_cases hwt : Region.wanted o (yielded ops a.tmps) = true
        · rw [if_pos hwt] at h
          obtain ⟨v, hy, hn⟩ := yields_of_quiet hv hwt h
          exact wpG_first (C := C) (b := b) ho hsel hQ hni (fun _ _ _ _ w _ => hC w) _ l a w hc (fun hb => by rw [he, hb]) (Region.free_spec ho hf) hrm hy (by rw [he]; exact hT) (hnext v hn)
        · rw [if_neg hwt] at h
          exact wpG_first (C := C) (b := b) ho hsel hQ hni (fun _ _ _ _ w _ => hC w) _ l a w hc (fun hb => by rw [he, hb]) (Region.free_spec ho hf) hrm (.inr ⟨by simpa using hwt, rfl⟩) (by rw [he]; exact hT) (hnext undef h)
    · cases hB
theorem wp_region_late2 {id : Nat} {a : Act} {w : World} {l : List Oper} (T : Bool → World → Prop) (C : World → Prop) (hC : ∀ w, C w) (late : List Nat) (hsP hs0 : List Nat) (t : Tr) (hm : P.follows .mixedOrders = true)
    (hB : (Region.noSelect l.toArray && decide (hsP.length + hs0.length + schedLen t ≤ l.toArray.size) && match pureB .any l.toArray late hsP (Array.replicate l.toArray.size false) with
      | some l1 => (match heldB .any l.toArray late true hs0 l1 with | some l' => schedB .any l.toArray late t true l' | none => false)
      | none => false) = true)
    (hQ : ∀ d v c a w, Q (.panic c) (Act.put a d v) w → Q (.panic c) a w) (hT : T true w.drew)
    (h : wpQuiet P l.toArray C (fun a1 => wpQuiet P l.toArray (T true) (fun a' => wpEffs P l.toArray late T Q t true a' w.drew) (opsAt l.toArray hs0) a1) (opsAt l.toArray hsP) a) : (Code.region id l.toArray true).wp P Q a w := by
  simp only [Bool.and_eq_true, decide_eq_true_eq] at hB
  obtain ⟨⟨hsel, hlen⟩, hB⟩ := hB
  refine wp_region_any hm (wpAny_of_G (late := late) (T := T) _ _ _ _ ?_)
  have hg : ∀ j, (Array.replicate l.toArray.size false).getD j false = false := fun j => by
    simp only [Array.getD_eq_getD_getElem?, Array.getElem?_replicate]
    split <;> rfl
  have hc0 : Closed .any l.toArray (Array.replicate l.toArray.size false) := fun j o _ hj => by rw [hg j] at hj; cases hj
  have he0 : early late (Array.replicate l.toArray.size false) = true := by
    unfold early
    rw [List.all_eq_true]
    intro j _
    rw [hg j]
    rfl
  cases h1 : pureB .any l.toArray late hsP (Array.replicate l.toArray.size false) with
  | none => rw [h1] at hB; cases hB
  | some l1 =>
    rw [h1] at hB
    simp only at hB
    cases hh : heldB .any l.toArray late true hs0 l1 with
    | none => rw [hh] at hB; cases hB
    | some l' =>
      rw [hh] at hB
      simp only at hB
      have := pure_take (md := .any) (late := late) (T := T) (f := hs0.length + (l.toArray.size - hsP.length - hs0.length)) hsel hQ hT hC (fun a1 hc1 he1 ha1 =>
        held_take (md := .any) (late := late) (T := T) (f := l.toArray.size - hsP.length - hs0.length) hsel hQ hT (fun a' hc' he' ha => effs_walk hsel hQ t true (l.toArray.size - hsP.length - hs0.length) l' a' w.drew (by omega) hB hc' he' hT ha) hs0 l1 a1 hc1 he1 hh ha1) hsP _ a hc0 he0 h1 h
      rw [show hsP.length + (hs0.length + (l.toArray.size - hsP.length - hs0.length)) = l.toArray.size by omega] at this
      exact this
end
end Go.Proofs.YtpbbemmjodegkaaDoor
