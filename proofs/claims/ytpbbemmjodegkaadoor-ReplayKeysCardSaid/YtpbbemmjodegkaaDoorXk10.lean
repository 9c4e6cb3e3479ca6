/-
  Texts: Sched.
-/
import Derived.Test.YtpbbemmjodegkaaDoorXk1
import Derived.Deep.QuietTactic
import Derived.BigQuiet
import Derived.OrdersHeld
set_option linter.unusedVariables false
namespace Go.Proofs.YtpbbemmjodegkaaDoor
open Go.RowKit

def valOp : Op → Bool
  | .move _ | .assign _ | .pick .. | .load .. | .binOp .. | .unOp .. | .convert .. | .slice .. | .fieldAddr .. | .field .. | .indexAddr .. | .index .. | .extract .. | .build .. => true
  | .call { callee := .builtin .len, .. } | .call { callee := .builtin .cap, .. } | .call { callee := .builtin .min, .. } | .call { callee := .builtin .max, .. } => true
  | .nilCheck _ => true
  | _ => false

section
variable {P : Program} {ops : Array Oper} {Q : Exit → Act → World → Prop} {S : World → Prop} {md : Region.Mode}

theorem value_of_bind {s : Sem Value} {w w' : World} {n : Next} (h : (do pure (.value (← s)) : Sem Next).run P w = .ok n w') : ∃ v, n = .value v := by
  rw [Sem.run_bind] at h
  cases hs : s.run P w with
  | ok v w1 =>
    rw [hs] at h
    simp only [Result.andThen, Sem.run_pure] at h
    injection h with h
    exact ⟨v, h.symm⟩
  | halt x w1 =>
    rw [hs] at h
    simp [Result.andThen] at h
theorem value_of_bind' {α : Type} {s : Sem α} {f : α → Value} {w w' : World} {n : Next} (h : (do pure (.value (f (← s))) : Sem Next).run P w = .ok n w') : ∃ v, n = .value v := by
  rw [Sem.run_bind] at h
  cases hs : s.run P w with
  | ok v w1 =>
    rw [hs] at h
    simp only [Result.andThen, Sem.run_pure] at h
    injection h with h
    exact ⟨_, h.symm⟩
  | halt x w1 =>
    rw [hs] at h
    simp [Result.andThen] at h
theorem value_of_valOp {o : Oper} {ρ : Operand → Value} {w w' : World} {n : Next} (hv : valOp o.op = true) (h : (execOp ρ o).run P w = .ok n w') : ∃ v, n = .value v := by
  obtain ⟨dst, op, ty, pos, after, guard⟩ := o
  cases op <;> simp only [valOp, Bool.false_eq_true] at hv
  case move x => simp only [execOp, Sem.run_pure] at h; injection h with h; exact ⟨_, h.symm⟩
  case assign x => simp only [execOp, Sem.run_pure] at h; injection h with h; exact ⟨_, h.symm⟩
  case pick c a b => exact value_of_bind' (s := asBool (ρ c)) (f := fun u => if u then ρ a else ρ b) h
  case nilCheck x =>
    simp only [execOp] at h
    split at h
    · simp [runtimePanic, Sem.run_bind] at h
    · simp [runtimePanic, Sem.run_bind] at h
    · simp [runtimePanic, Sem.run_bind] at h
    · split at h
      · simp [runtimePanic, Sem.run_bind] at h
      · simp only [Sem.run_bind] at h
        generalize Sem.run P program w = r at h
        cases r with
        | halt x w1 => simp [Result.andThen] at h
        | ok p w1 =>
          simp only [Result.andThen] at h
          generalize Sem.run P (nilAhead _ _ _ _) w1 = r2 at h
          cases r2 with
          | halt x w2 => simp at h
          | ok q w2 =>
            simp only at h
            split at h
            · simp [unsupported, Result.andThen] at h
            · simp only [Sem.run_pure] at h
              injection h with h
              exact ⟨_, h.symm⟩
      · simp only [Sem.run_pure] at h
        injection h with h
        exact ⟨_, h.symm⟩
    · simp only [Sem.run_pure] at h
      injection h with h
      exact ⟨_, h.symm⟩
  case call c =>
    obtain ⟨callee, args, ats⟩ := c
    cases callee
    case builtin b =>
      cases b
      all_goals first
        | exact value_of_bind h
        | exact absurd hv Bool.false_ne_true
    all_goals exact absurd hv (by simp)
  all_goals exact value_of_bind h

theorem yields_of_quiet {o : Oper} {a : Act} {K : Act → Prop} {C : World → Prop} (hv : valOp o.op = true) (hw : Region.wanted o (yielded ops a.tmps) = true) (h : o.quiet P a C K) : ∃ v, YieldsIf P ops C o v a ∧ K (a.put o.dst v) := by
  obtain ⟨v, h1, h2⟩ := h
  refine ⟨v, .inl ⟨hw, fun w hw' => ?_⟩, h2⟩
  have h3 := h1 w hw'
  unfold Oper.quietAt at h3
  cases hr : (execOp a.eval o).run P w with
  | halt x w' => rw [hr] at h3; exact h3.elim
  | ok n w' =>
    rw [hr] at h3
    obtain ⟨u, rfl⟩ := value_of_valOp hv hr
    simp only [Oper.quietUpon] at h3
    rw [h3.1, h3.2]

/-! ### Two phases: till one of the late operations has come up, and from then on -/
variable {late : List Nat} {T : Bool → World → Prop}
def early (late : List Nat) (l : Array Bool) : Bool := late.all fun j => !l.getD j false
def waitsB (md : Region.Mode) (ops : Array Oper) (i : Nat) : Nat → Nat → Bool
  | 0, j => j == i
  | f + 1, j => j == i || ((ops[j]?).map fun o => o.after.any fun e => Region.binds md e && waitsB md ops i f e.on).getD false
def Closed (md : Region.Mode) (ops : Array Oper) (l : Array Bool) : Prop := ∀ j o, ops[j]? = some o → l.getD j false = true → ∀ e ∈ o.after, Region.binds md e = true → l.getD e.on false = true
theorem closed_waits {l : Array Bool} (hc : Closed md ops l) (i : Nat) : ∀ (f j : Nat), waitsB md ops i f j = true → l.getD j false = true → l.getD i false = true
  | 0, j, h, hj => by
    simp only [waitsB, beq_iff_eq] at h
    exact h ▸ hj
  | f + 1, j, h, hj => by
    simp only [waitsB, Bool.or_eq_true, beq_iff_eq] at h
    rcases h with h | h
    · exact h ▸ hj
    · cases ho : ops[j]? with
      | none => rw [ho] at h; cases h
      | some o =>
        rw [ho] at h
        simp only [Option.map_some, Option.getD_some] at h
        obtain ⟨q, hq, he⟩ := Array.any_eq_true.1 h
        simp only [Bool.and_eq_true] at he
        exact closed_waits hc i f _ he.2 (hc j o ho hj _ (Array.getElem_mem _) he.1)
theorem getD_listed {l : Array Bool} {i : Nat} (h : l.getD i true = false) : l.getD i false = false ∧ i < l.size := by
  rcases Nat.lt_or_ge i l.size with h' | h'
  · refine ⟨?_, h'⟩
    simp [h'] at h ⊢
    exact h
  · simp [Array.getElem?_eq_none h'] at h
theorem getD_set {l : Array Bool} {i j : Nat} : (l.setIfInBounds i true).getD j false = true ↔ l.getD j false = true ∨ (i = j ∧ i < l.size) := by
  simp only [Array.getD_eq_getD_getElem?, Array.getElem?_setIfInBounds]
  by_cases h : i = j
  · subst h
    by_cases hl : i < l.size
    · simp [hl]
    · simp [hl]
  · simp [h]
theorem early_set {l : Array Bool} {i : Nat} (hi : late.contains i = false) : early late (l.setIfInBounds i true) = early late l := by
  unfold early
  rw [Bool.eq_iff_iff, List.all_eq_true, List.all_eq_true]
  refine forall_congr' fun j => forall_congr' fun hj => ?_
  have hne : i ≠ j := by
    rintro rfl
    rw [List.contains_eq_mem, decide_eq_false_iff_not] at hi
    exact hi hj
  have := @getD_set l i j
  have h2 : (l.setIfInBounds i true).getD j false = l.getD j false := by
    rw [Bool.eq_iff_iff, this]
    exact ⟨fun h => h.resolve_right fun h => hne h.1, .inl⟩
  rw [h2]
theorem early_mono {l : Array Bool} {i : Nat} (h : early late l = false) : early late (l.setIfInBounds i true) = false := by
  rw [Bool.eq_false_iff] at h ⊢
  intro h'
  apply h
  unfold early at h' ⊢
  rw [List.all_eq_true] at h' ⊢
  intro j hj
  have := h' j hj
  rw [Bool.not_eq_true', Bool.eq_false_iff] at this ⊢
  exact fun q => this (getD_set.2 (.inl q))
theorem early_of {l : Array Bool} (hc : Closed md ops l) {i n : Nat} (hw : (late.all fun j => waitsB md ops i n j) = true) (hi : l.getD i true = false) : early late l = true := by
  unfold early
  rw [List.all_eq_true] at hw ⊢
  intro j hj
  rw [Bool.not_eq_true', Bool.eq_false_iff]
  intro h
  have := (getD_listed hi).1
  rw [closed_waits hc i n j (hw j hj) h] at this
  cases this
theorem closed_set {l : Array Bool} (hc : Closed md ops l) {i : Nat} (hr : i ∈ Region.ready md ops l) : Closed md ops (l.setIfInBounds i true) := by
  intro j o ho hj e he hb
  rcases getD_set.1 hj with hj | ⟨rfl, _⟩
  · exact getD_set.2 (.inl (hc j o ho hj e he hb))
  · obtain ⟨_, o', ho', hall⟩ := mem_ready.1 hr
    rw [ho] at ho'
    injection ho' with ho'
    subst ho'
    exact getD_set.2 (.inl (hall e he hb))

def wpG (P : Program) (md : Region.Mode) (ops : Array Oper) (Q : Exit → Act → World → Prop) (late : List Nat) (T : Bool → World → Prop) : Nat → Array Bool → Act → World → Prop
  | 0, l, a, w => Region.ready md ops l = [] ∧ Q .normal a w
  | f + 1, l, a, w => (Region.ready md ops l = [] → Q .normal a w) ∧
    ∀ i ∈ Region.ready md ops l, wpOp P ops Q i (fun a' w' => T (early late (l.setIfInBounds i true)) w' ∧ wpG P md ops Q late T f (l.setIfInBounds i true) a' w') a w
theorem wpAny_of_G : ∀ (f : Nat) (l : Array Bool) (a : Act) (w : World), wpG P md ops Q late T f l a w → wpAny P md ops Q f l a w
  | 0, _, _, _, h => h
  | f + 1, _, _, _, h => ⟨h.1, fun i hi => wpOp_mono (fun a' w' h' => wpAny_of_G f _ a' w' h'.2) (h.2 i hi)⟩
theorem wpG_done {l : Array Bool} {a : Act} {w : World} (hr : Region.ready md ops l = []) (h : Q .normal a w) : ∀ f, wpG P md ops Q late T f l a w
  | 0 => ⟨hr, h⟩
  | _ + 1 => ⟨fun _ => h, fun i hi => by rw [hr] at hi; cases hi⟩

theorem wpG_first {i : Nat} {oi : Oper} {v : Value} {b : Bool} {C : World → Prop} (hi : ops[i]? = some oi) (hsel : Region.noSelect ops = true) (hQ : ∀ d v c a w, Q (.panic c) (Act.put a d v) w → Q (.panic c) a w)
    (hl : late.contains i = false) (hC : ∀ l, Closed md ops l → (b = false → early late l = false) → l.getD i true = false → ∀ w, T (early late l) w → C w) :
    ∀ (f : Nat) (l : Array Bool) (a : Act) (w : World), Closed md ops l → (b = false → early late l = false) →
      (∀ j oj, ops[j]? = some oj → j ≠ i → l.getD j true = false → (∀ e ∈ oj.after, Region.binds md e = true → e.on ≠ i) → oi.apart ops oj = true) →
      i ∈ Region.ready md ops l → YieldsIf P ops C oi v a → T (early late l) w →
      wpG P md ops Q late T f (l.setIfInBounds i true) (a.put oi.dst v) w → wpG P md ops Q late T (f + 1) l a w := by
  intro f
  induction f with
  | zero =>
    intro l a w hc h0 _ hr hy hT H
    refine ⟨(fun h => by rw [h] at hr; cases hr), fun j hj => ?_⟩
    by_cases hji : j = i
    · subst hji
      exact hy.wpOp hi (hC l hc h0 (mem_ready.1 hr).1 w hT) ⟨by rw [early_set hl]; exact hT, H⟩
    · have h1 := ready_mono hj hji
      rw [H.1] at h1
      cases h1
  | succ f ih =>
    intro l a w hc h0 hfree hr hy hT H
    refine ⟨(fun h => by rw [h] at hr; cases hr), fun j hj => ?_⟩
    by_cases hji : j = i
    · subst hji
      exact hy.wpOp hi (hC l hc h0 (mem_ready.1 hr).1 w hT) ⟨by rw [early_set hl]; exact hT, H⟩
    · have h1 := H.2 j (ready_mono hj hji)
      obtain ⟨hjl, oj, hoj, hall⟩ := mem_ready.1 hj
      have hil := getD_listed (mem_ready.1 hr).1
      have hnot : ∀ e ∈ oj.after, Region.binds md e = true → e.on ≠ i := fun e he hbd heq => by
        have := hall e he hbd
        rw [heq, hil.1] at this
        cases this
      have hns := Region.noSelect_spec hsel
      have h2 := wpOp_putIf hoj (hfree j oj hoj hji hjl hnot) (fun cs b => hns i oi cs b hi) (fun cs b => hns j oj cs b hoj) (fun c a w => hQ _ _ c a w) hy h1
      refine wpOp_mono (fun a' w' h3 => ?_) h2
      obtain ⟨hy', hT', hG⟩ := h3
      rw [Array.setIfInBounds_comm _ _ (Ne.symm hji)] at hT' hG
      rw [early_set hl] at hT'
      refine ⟨hT', ih _ a' w' (closed_set hc hj) (fun hb0 => early_mono (h0 hb0)) (fun k ok hk hki hun hno => hfree k ok hk hki ?_ hno) (ready_mono hr (Ne.symm hji)) hy' hT' hG⟩
      by_cases hjk : j = k
      · subst hjk; exact hjl
      · rw [getD_set_ne true hjk] at hun; exact hun

theorem phase_of {i n : Nat} {b : Bool} (hb : b = true → (late.all fun j => waitsB md ops i n j) = true) : ∀ l, Closed md ops l → (b = false → early late l = false) → l.getD i true = false → ∀ w, T (early late l) w → T b w := by
  intro l hc h0 hi w hw
  cases b with
  | false => rw [h0 rfl] at hw; exact hw
  | true => rw [early_of hc (hb rfl) hi] at hw; exact hw
def moveOp : Op → Bool
  | .move _ | .assign _ => true
  | _ => false
theorem yields_of_move {o : Oper} {a : Act} {K : Act → Prop} {C : World → Prop} {w : World} (hv : moveOp o.op = true) (hw : Region.wanted o (yielded ops a.tmps) = true) (hC : C w) (h : o.quiet P a C K) : ∃ v, YieldsIf P ops (fun _ => True) o v a ∧ K (a.put o.dst v) := by
  have he : ∃ u, ∀ w, (execOp a.eval o).run P w = .ok (.value u) w := by
    obtain ⟨dst, op, ty, pos, after, guard⟩ := o
    cases op <;> simp only [moveOp, Bool.false_eq_true] at hv
    all_goals exact ⟨_, fun w => rfl⟩
  obtain ⟨u, hu⟩ := he
  obtain ⟨v, h1, h2⟩ := h
  have h3 := h1 w hC
  unfold Oper.quietAt at h3
  rw [hu w] at h3
  simp only [Oper.quietUpon] at h3
  rw [← h3.2] at h2
  exact ⟨u, .inl ⟨hw, fun w _ => hu w⟩, h2⟩

def opsAt (ops : Array Oper) : List Nat → List Oper
  | [] => []
  | i :: is => match ops[i]? with
    | some o => o :: opsAt ops is
    | none => opsAt ops is
def heldB (md : Region.Mode) (ops : Array Oper) (late : List Nat) (b : Bool) : List Nat → Array Bool → Option (Array Bool)
  | [], l => some l
  | i :: is, l => if (Region.ready md ops l).contains i && Region.free md ops l i && ((ops[i]?).map (valOp ·.op)).getD false && !late.contains i && (!b || (late.all fun j => waitsB md ops i ops.size j) || ((ops[i]?).map (moveOp ·.op)).getD false) then heldB md ops late b is (l.setIfInBounds i true) else none
inductive Tr where
  | done
  | one (e : Nat) (hs : List Nat) (n : Tr)
  | two (e1 : Nat) (hs1 : List Nat) (n1 : Tr) (e2 : Nat) (hs2 : List Nat) (n2 : Tr)
  | three (e1 : Nat) (hs1 : List Nat) (n1 : Tr) (e2 : Nat) (hs2 : List Nat) (n2 : Tr) (e3 : Nat) (hs3 : List Nat) (n3 : Tr)
def stepB (md : Region.Mode) (ops : Array Oper) (late : List Nat) (b : Bool) (e : Nat) (hs : List Nat) (l : Array Bool) (k : Bool → Array Bool → Bool) : Bool :=
  match heldB md ops late (b && !late.contains e) hs (l.setIfInBounds e true) with
  | some l' => k (b && !late.contains e) l'
  | none => false
def schedB (md : Region.Mode) (ops : Array Oper) (late : List Nat) : Tr → Bool → Array Bool → Bool
  | .done, _, l => (Region.ready md ops l).isEmpty
  | .one e hs n, b, l => (Region.ready md ops l == [e]) && stepB md ops late b e hs l (schedB md ops late n)
  | .two e1 hs1 n1 e2 hs2 n2, b, l => (Region.ready md ops l == [e1, e2]) && stepB md ops late b e1 hs1 l (schedB md ops late n1) && stepB md ops late b e2 hs2 l (schedB md ops late n2)
  | .three e1 hs1 n1 e2 hs2 n2 e3 hs3 n3, b, l => (Region.ready md ops l == [e1, e2, e3]) && stepB md ops late b e1 hs1 l (schedB md ops late n1) && stepB md ops late b e2 hs2 l (schedB md ops late n2) && stepB md ops late b e3 hs3 l (schedB md ops late n3)
def schedLen : Tr → Nat
  | .done => 0
  | .one _ hs n => 1 + hs.length + schedLen n
  | .two _ hs1 n1 _ hs2 n2 => max (1 + hs1.length + schedLen n1) (1 + hs2.length + schedLen n2)
  | .three _ hs1 n1 _ hs2 n2 _ hs3 n3 => max (1 + hs1.length + schedLen n1) (max (1 + hs2.length + schedLen n2) (1 + hs3.length + schedLen n3))

def effAt (P : Program) (ops : Array Oper) (C : World → Prop) (Q : Exit → Act → World → Prop) (e : Nat) (hs : List Nat) (k : Act → World → Prop) (a : Act) (w : World) : Prop := match ops[e]? with
  | none => False
  | some o => if Region.wanted o (yielded ops a.tmps) then o.wp P a w (fun a' w' => C w' ∧ wpQuiet P ops C (fun a'' => k a'' w') (opsAt ops hs) a') Q
    else C w ∧ wpQuiet P ops C (fun a'' => k a'' w) (opsAt ops hs) (a.put o.dst undef)
def wpEffs (P : Program) (ops : Array Oper) (late : List Nat) (T : Bool → World → Prop) (Q : Exit → Act → World → Prop) : Tr → Bool → Act → World → Prop
  | .done, _, a, w => Q .normal a w
  | .one e hs n, b, a, w => effAt P ops (T (b && !late.contains e)) Q e hs (wpEffs P ops late T Q n (b && !late.contains e)) a w
  | .two e1 hs1 n1 e2 hs2 n2, b, a, w => effAt P ops (T (b && !late.contains e1)) Q e1 hs1 (wpEffs P ops late T Q n1 (b && !late.contains e1)) a w ∧ effAt P ops (T (b && !late.contains e2)) Q e2 hs2 (wpEffs P ops late T Q n2 (b && !late.contains e2)) a w
  | .three e1 hs1 n1 e2 hs2 n2 e3 hs3 n3, b, a, w => effAt P ops (T (b && !late.contains e1)) Q e1 hs1 (wpEffs P ops late T Q n1 (b && !late.contains e1)) a w ∧ effAt P ops (T (b && !late.contains e2)) Q e2 hs2 (wpEffs P ops late T Q n2 (b && !late.contains e2)) a w ∧
    effAt P ops (T (b && !late.contains e3)) Q e3 hs3 (wpEffs P ops late T Q n3 (b && !late.contains e3)) a w

theorem held_take (hsel : Region.noSelect ops = true) (hQ : ∀ d v c a w, Q (.panic c) (Act.put a d v) w → Q (.panic c) a w) {b : Bool} {w : World} (hT : T b w) {Qa : Act → Prop} {f : Nat} {l' : Array Bool}
    (hk : ∀ a', Closed md ops l' → early late l' = b → Qa a' → wpG P md ops Q late T f l' a' w) : ∀ (hs : List Nat) (l : Array Bool) (a : Act), Closed md ops l → early late l = b → heldB md ops late b hs l = some l' → wpQuiet P ops (T b) Qa (opsAt ops hs) a → wpG P md ops Q late T (hs.length + f) l a w
  | [], l, a, hc, he, hB, h => by
    simp only [heldB, Option.some.injEq] at hB
    subst hB
    simpa [opsAt, wpQuiet] using hk _ hc he h
  | i :: is, l, a, hc, he, hB, h => by
    simp only [heldB] at hB
    split at hB
    · rename_i hcond
      simp only [Bool.and_eq_true, Bool.not_eq_true', Bool.or_eq_true] at hcond
      obtain ⟨⟨⟨⟨hr, hf⟩, hv⟩, hni⟩, hw⟩ := hcond
      cases ho : ops[i]? with
      | none => rw [ho] at hv; cases hv
      | some o =>
        rw [ho] at hv hw
        simp only [Option.map_some, Option.getD_some] at hv hw
        simp only [opsAt, ho, wpQuiet] at h
        have hrm : i ∈ Region.ready md ops l := by simpa using hr
        have hnext := fun v hn => held_take hsel hQ hT hk is (l.setIfInBounds i true) (a.put o.dst v) (closed_set hc hrm) (by rw [early_set hni]; exact he) hB hn
        rw [show (i :: is).length + f = (is.length + f) + 1 by simp only [List.length_cons]; omega]
        by_cases hwt : Region.wanted o (yielded ops a.tmps) = true
        · rw [if_pos hwt] at h
          rcases hw with hw | hw
          · obtain ⟨v, hy, hn⟩ := yields_of_quiet hv hwt h
            exact wpG_first (C := T b) (b := b) ho hsel hQ hni (phase_of (n := ops.size) (fun hb => by
              rcases hw with hw | hw
              · rw [hb] at hw; cases hw
              · exact hw)) _ l a w hc (fun hb => by rw [he, hb]) (Region.free_spec ho hf) hrm hy (by rw [he]; exact hT) (hnext v hn)
          · obtain ⟨v, hy, hn⟩ := yields_of_move hw hwt hT h
            exact wpG_first (C := fun _ => True) (b := b) ho hsel hQ hni (fun _ _ _ _ _ _ => trivial) _ l a w hc (fun hb => by rw [he, hb]) (Region.free_spec ho hf) hrm hy (by rw [he]; exact hT) (hnext v hn)
        · rw [if_neg hwt] at h
          exact wpG_first (C := fun _ => True) (b := b) ho hsel hQ hni (fun _ _ _ _ _ _ => trivial) _ l a w hc (fun hb => by rw [he, hb]) (Region.free_spec ho hf) hrm (.inr ⟨by simpa using hwt, rfl⟩) (by rw [he]; exact hT) (hnext undef h)
    · cases hB
theorem eff_op (hsel : Region.noSelect ops = true) (hQ : ∀ d v c a w, Q (.panic c) (Act.put a d v) w → Q (.panic c) a w) {b : Bool} {e : Nat} {hs : List Nat} {k : Act → World → Prop} {f : Nat} {l : Array Bool} {kb : Bool → Array Bool → Bool} {a : Act} {w : World}
    (hr : e ∈ Region.ready md ops l) (hc : Closed md ops l) (he : early late l = b)
    (hB : stepB md ops late b e hs l kb = true)
    (hk : ∀ l' a' w', kb (b && !late.contains e) l' = true → Closed md ops l' → early late l' = (b && !late.contains e) → T (b && !late.contains e) w' → k a' w' → wpG P md ops Q late T f l' a' w') (h : effAt P ops (T (b && !late.contains e)) Q e hs k a w) :
    wpOp P ops Q e (fun a' w' => T (early late (l.setIfInBounds e true)) w' ∧ wpG P md ops Q late T (hs.length + f) (l.setIfInBounds e true) a' w') a w := by
  have hes : early late (l.setIfInBounds e true) = (b && !late.contains e) := by
    by_cases hle : late.contains e = true
    · rw [hle]
      simp only [Bool.not_true, Bool.and_false]
      unfold early
      rw [List.all_eq_false]
      rw [List.contains_eq_mem, decide_eq_true_eq] at hle
      exact ⟨e, hle, by rw [getD_set.2 (.inr ⟨rfl, (getD_listed (mem_ready.1 hr).1).2⟩)]; decide⟩
    · have hle' : late.contains e = false := by simpa using hle
      rw [early_set hle', hle', he]
      simp
  unfold stepB at hB
  cases hh : heldB md ops late (b && !late.contains e) hs (l.setIfInBounds e true) with
  | none => rw [hh] at hB; cases hB
  | some l' =>
    rw [hh] at hB
    simp only at hB
    have next : ∀ a' w', T (b && !late.contains e) w' → wpQuiet P ops (T (b && !late.contains e)) (fun a'' => k a'' w') (opsAt ops hs) a' → wpG P md ops Q late T (hs.length + f) (l.setIfInBounds e true) a' w' := fun a' w' hT' hq =>
      held_take hsel hQ hT' (fun a'' hc' he' ha => hk l' a'' w' hB hc' he' hT' ha) hs _ a' (closed_set hc hr) hes hh hq
    unfold effAt at h
    unfold wpOp
    cases ho : ops[e]? with
    | none => rw [ho] at h; exact h.elim
    | some o =>
      rw [ho] at h
      simp only at h ⊢
      split
      · rename_i hw
        rw [if_pos hw] at h
        exact .inl (Oper.wp_mono (fun a' w' hq => ⟨by rw [hes]; exact hq.1, next a' w' hq.1 hq.2⟩) h)
      · rename_i hw
        rw [if_neg hw] at h
        exact ⟨by rw [hes]; exact h.1, next _ _ h.1 h.2⟩
theorem effs_walk (hsel : Region.noSelect ops = true) (hQ : ∀ d v c a w, Q (.panic c) (Act.put a d v) w → Q (.panic c) a w) : ∀ (t : Tr) (b : Bool) (f : Nat) (l : Array Bool) (a : Act) (w : World), schedLen t ≤ f → schedB md ops late t b l = true → Closed md ops l → early late l = b → T b w →
    wpEffs P ops late T Q t b a w → wpG P md ops Q late T f l a w
  | .done, b, f, l, a, w, _, hB, _, _, _, h => wpG_done (by simpa [schedB] using hB) h f
  | .one e hs n, b, f, l, a, w, hl, hB, hc, he, hT, h => by
    simp only [schedB, Bool.and_eq_true, beq_iff_eq] at hB
    obtain ⟨hr, hB⟩ := hB
    simp only [schedLen] at hl
    obtain ⟨g, rfl⟩ : ∃ g, f = (hs.length + g) + 1 := ⟨f - hs.length - 1, by omega⟩
    refine ⟨(fun h0 => by rw [hr] at h0; cases h0), fun i hi => ?_⟩
    have hi' := hi
    rw [hr, List.mem_singleton] at hi
    subst hi
    exact eff_op hsel hQ hi' hc he hB (fun l' a' w' hb' hc' he' hT' hk => effs_walk hsel hQ n _ g l' a' w' (by omega) hb' hc' he' hT' hk) h
  | .two e1 hs1 n1 e2 hs2 n2, b, f, l, a, w, hl, hB, hc, he, hT, h => by
    simp only [schedB, Bool.and_eq_true, beq_iff_eq] at hB
    obtain ⟨⟨hr, hB1⟩, hB2⟩ := hB
    simp only [schedLen] at hl
    obtain ⟨g, rfl⟩ : ∃ g, f = g + 1 := ⟨f - 1, by omega⟩
    refine ⟨(fun h0 => by rw [hr] at h0; cases h0), fun i hi => ?_⟩
    have hi' := hi
    rw [hr, List.mem_cons, List.mem_singleton] at hi
    rcases hi with hi | hi
    · subst hi
      obtain ⟨f, rfl⟩ : ∃ f, g = hs1.length + f := ⟨g - hs1.length, by omega⟩
      exact eff_op hsel hQ hi' hc he hB1 (fun l' a' w' hb' hc' he' hT' hk => effs_walk hsel hQ n1 _ f l' a' w' (by omega) hb' hc' he' hT' hk) h.1
    · subst hi
      obtain ⟨f, rfl⟩ : ∃ f, g = hs2.length + f := ⟨g - hs2.length, by omega⟩
      exact eff_op hsel hQ hi' hc he hB2 (fun l' a' w' hb' hc' he' hT' hk => effs_walk hsel hQ n2 _ f l' a' w' (by omega) hb' hc' he' hT' hk) h.2
  | .three e1 hs1 n1 e2 hs2 n2 e3 hs3 n3, b, f, l, a, w, hl, hB, hc, he, hT, h => by
    simp only [schedB, Bool.and_eq_true, beq_iff_eq] at hB
    obtain ⟨⟨⟨hr, hB1⟩, hB2⟩, hB3⟩ := hB
    simp only [schedLen] at hl
    obtain ⟨g, rfl⟩ : ∃ g, f = g + 1 := ⟨f - 1, by omega⟩
    refine ⟨(fun h0 => by rw [hr] at h0; cases h0), fun i hi => ?_⟩
    have hi' := hi
    rw [hr, List.mem_cons, List.mem_cons, List.mem_singleton] at hi
    rcases hi with hi | hi | hi
    · subst hi
      obtain ⟨f, rfl⟩ : ∃ f, g = hs1.length + f := ⟨g - hs1.length, by omega⟩
      exact eff_op hsel hQ hi' hc he hB1 (fun l' a' w' hb' hc' he' hT' hk => effs_walk hsel hQ n1 _ f l' a' w' (by omega) hb' hc' he' hT' hk) h.1
    · subst hi
      obtain ⟨f, rfl⟩ : ∃ f, g = hs2.length + f := ⟨g - hs2.length, by omega⟩
      exact eff_op hsel hQ hi' hc he hB2 (fun l' a' w' hb' hc' he' hT' hk => effs_walk hsel hQ n2 _ f l' a' w' (by omega) hb' hc' he' hT' hk) h.2.1
    · subst hi
      obtain ⟨f, rfl⟩ : ∃ f, g = hs3.length + f := ⟨g - hs3.length, by omega⟩
      exact eff_op hsel hQ hi' hc he hB3 (fun l' a' w' hb' hc' he' hT' hk => effs_walk hsel hQ n3 _ f l' a' w' (by omega) hb' hc' he' hT' hk) h.2.2

theorem wp_region_late {id : Nat} {a : Act} {w : World} {l : List Oper} (T : Bool → World → Prop) (late : List Nat) (hs0 : List Nat) (t : Tr) (hm : P.follows .mixedOrders = true)
    (hB : (Region.noSelect l.toArray && decide (hs0.length + schedLen t ≤ l.toArray.size) && match heldB .any l.toArray late true hs0 (Array.replicate l.toArray.size false) with | some l' => schedB .any l.toArray late t true l' | none => false) = true)
    (hQ : ∀ d v c a w, Q (.panic c) (Act.put a d v) w → Q (.panic c) a w) (hT : T true w.drew)
    (h : wpQuiet P l.toArray (T true) (fun a' => wpEffs P l.toArray late T Q t true a' w.drew) (opsAt l.toArray hs0) a) : (Code.region id l.toArray true).wp P Q a w := by
  simp only [Bool.and_eq_true, decide_eq_true_eq] at hB
  obtain ⟨⟨hsel, hlen⟩, hB⟩ := hB
  refine wp_region_any hm (wpAny_of_G (late := late) (T := T) _ _ _ _ ?_)
  have hg : ∀ j, (Array.replicate l.toArray.size false).getD j false = false := fun j => by
    simp only [Array.getD_eq_getD_getElem?, Array.getElem?_replicate]
    split <;> rfl
  have hc0 : Closed .any l.toArray (Array.replicate l.toArray.size false) := fun j o _ hj => by rw [hg j] at hj; cases hj
  have he0 : early late (Array.replicate l.toArray.size false) = true := by
    unfold early
    rw [List.all_eq_true]
    intro j _
    rw [hg j]
    rfl
  cases hh : heldB .any l.toArray late true hs0 (Array.replicate l.toArray.size false) with
  | none => rw [hh] at hB; cases hB
  | some l' =>
    rw [hh] at hB
    simp only at hB
    have := held_take (md := .any) (late := late) (T := T) (f := l.toArray.size - hs0.length) hsel hQ hT (fun a' hc' he' ha => effs_walk hsel hQ t true (l.toArray.size - hs0.length) l' a' w.drew (by omega) hB hc' he' hT ha) hs0 _ a hc0 he0 hh h
    rw [show hs0.length + (l.toArray.size - hs0.length) = l.toArray.size by omega] at this
    exact this
theorem wp_region_sched {id : Nat} {a : Act} {w : World} {l : List Oper} (S : World → Prop) (hs0 : List Nat) (t : Tr) (hm : P.follows .mixedOrders = true)
    (hB : (Region.noSelect l.toArray && decide (hs0.length + schedLen t ≤ l.toArray.size) && match heldB .any l.toArray [] true hs0 (Array.replicate l.toArray.size false) with | some l' => schedB .any l.toArray [] t true l' | none => false) = true)
    (hQ : ∀ d v c a w, Q (.panic c) (Act.put a d v) w → Q (.panic c) a w) (hS : S w.drew)
    (h : wpQuiet P l.toArray S (fun a' => wpEffs P l.toArray [] (fun _ => S) Q t true a' w.drew) (opsAt l.toArray hs0) a) : (Code.region id l.toArray true).wp P Q a w :=
  wp_region_late (fun _ => S) [] hs0 t hm hB hQ hS h
theorem eff_lit {C : World → Prop} {l l1 : List Oper} {o : Oper} {e : Nat} {hs : List Nat} {k : Act → World → Prop} {a : Act} {w : World} (ho : l.drop e = o :: l1) (hw : Region.wanted o (yielded l.toArray a.tmps) = true)
    (h : ∀ K : Act → World → Prop, (∀ a' w', C w' → wpQuiet P l.toArray C (fun a'' => k a'' w') (opsAt l.toArray hs) a' → K a' w') → o.wp P a w K Q) : effAt P l.toArray C Q e hs k a w := by
  have h1 : (l.drop e)[0]? = some o := by rw [ho]; rfl
  rw [List.getElem?_drop] at h1
  have h2 : l.toArray[e]? = some o := by simpa using h1
  simp only [effAt, h2]
  rw [if_pos hw]
  exact h _ fun a' w' h1 h2 => ⟨h1, h2⟩
theorem eff_as {C C' : World → Prop} {e : Nat} {hs : List Nat} {k : Act → World → Prop} {a : Act} {w : World} (hC : C = C') (h : effAt P ops C' Q e hs k a w) : effAt P ops C Q e hs k a w := hC ▸ h
theorem quiet_as {C C' : World → Prop} {Qa : Act → Prop} {l : List Oper} {a : Act} (hC : C = C') (h : wpQuiet P ops C' Qa l a) : wpQuiet P ops C Qa l a := hC ▸ h
def Ph (C1 C2 : World → Prop) : Bool → World → Prop
  | true => C1
  | false => C2
structure In (S : World → Prop) where
  W : World
  h : S W
theorem effs_done {b : Bool} {a : Act} {w : World} (h : Q .normal a w) : wpEffs P ops late T Q .done b a w := h
end
end Go.Proofs.YtpbbemmjodegkaaDoor
