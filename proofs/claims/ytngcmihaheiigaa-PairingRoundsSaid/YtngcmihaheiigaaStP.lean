/-
  The plain law of Start: what is paired is a round; who has met then.
-/
import Derived.Test.YtngcmihaheiigaaOrdP
import Derived.Test.YtngcmihaheiigaaWhole
set_option linter.unusedSimpArgs false
set_option linter.unusedVariables false
namespace Go.Proofs.Ytngcmihaheiigaa
open Go.RowKit

theorem perm_eraseIdx {l : List Int} {i : Nat} {y : Int} (h : l[i]? = some y) : (y :: l.eraseIdx i).Perm l := by
  induction l generalizing i with
  | nil => simp at h
  | cons a l ih =>
    cases i with
    | zero => simp at h; subst h; simp
    | succ i =>
      simp at h
      simp only [List.eraseIdx_cons_succ]
      exact (List.Perm.swap a y _).trans (List.Perm.cons a (ih h))
theorem getD_get {l : List Int} {i : Nat} (h : i < l.length) : l[i]? = some (l.getD i 0) := by simp [List.getD, List.getElem?_eq_getElem h]
/-- The duels are some of two players each, of these. -/
structure PairOk (fr : Int → Int → Bool) (n : Nat) (l : List Int) (m : List D) : Prop where
  ok : ∀ d ∈ m, DOk n d
  fr_ : ∀ d ∈ m, d.b ≠ -1 ∧ fr d.a d.b = true
  perm : (plist m).Perm l
theorem pair_ok' {fr : Int → Int → Bool} {n : Nat} : ∀ (k : Nat) (l : List Int) (m : List D), l.length ≤ k → (∀ z ∈ l, 0 ≤ z ∧ z < n) → l.Nodup → pairS fr l = some m → PairOk fr n l m := by
  intro k
  induction k with
  | zero =>
    intro l m hl _ _ h
    have : l = [] := List.eq_nil_of_length_eq_zero (by omega)
    subst this
    rw [pairS_nil] at h
    injection h with h
    subst h
    exact ⟨(fun _ h => by cases h), (fun _ h => by cases h), List.Perm.refl _⟩
  | succ k ih =>
    intro l m hl hr hn h
    cases l with
    | nil =>
      rw [pairS_nil] at h
      injection h with h
      subst h
      exact ⟨(fun _ h => by cases h), (fun _ h => by cases h), List.Perm.refl _⟩
    | cons x r =>
      rw [pairS_cons] at h
      obtain ⟨i, hi, hx⟩ := firstF_some_inv h
      unfold tryS at hx
      split at hx
      · rename_i hfr
        obtain ⟨l', hl', rfl⟩ := Option.map_eq_some_iff.1 hx
        have hg := getD_get hi
        have hp := perm_eraseIdx hg
        generalize r.getD i 0 = y at *
        have hyr := List.mem_of_getElem? hg
        have hxr := (List.nodup_cons.1 hn)
        have hi2 := ih (r.eraseIdx i) l' (by rw [List.length_eraseIdx_of_lt hi]; simp at hl; omega) (fun z hz => hr z (List.mem_cons_of_mem _ (List.mem_of_mem_eraseIdx hz))) (List.Sublist.nodup (List.eraseIdx_sublist ..) hxr.2) hl'
        have hx0 := hr x (List.mem_cons_self ..)
        have hy0 := hr y (List.mem_cons_of_mem _ hyr)
        have hxy : x ≠ y := fun e => hxr.1 (by rw [e]; exact hyr)
        refine ⟨fun d hd => ?_, fun d hd => ?_, ?_⟩
        · rcases List.mem_cons.1 hd with rfl | hd
          · exact ⟨hx0.1, hx0.2, .inr ⟨hy0.1, hy0.2, hxy⟩⟩
          · exact hi2.ok d hd
        · rcases List.mem_cons.1 hd with rfl | hd
          · exact ⟨by show y ≠ -1; omega, hfr⟩
          · exact hi2.fr_ d hd
        · unfold plist
          rw [List.flatMap_cons]
          have : D.pl ⟨x, y⟩ = [x, y] := by unfold D.pl; rw [if_neg (by show y ≠ -1; omega)]
          rw [this]
          exact List.Perm.cons x ((List.Perm.cons y hi2.perm).trans hp)
      · cases hx
theorem pair_ok {fr : Int → Int → Bool} {n : Nat} {l : List Int} {m : List D} (hr : ∀ z ∈ l, 0 ≤ z ∧ z < n) (hn : l.Nodup) (h : pairS fr l = some m) : PairOk fr n l m := pair_ok' l.length l m (Nat.le_refl _) hr hn h
/-- The round: all players. -/
structure WholeOk (fr : Int → Int → Bool) (n : Nat) (l : List Int) (m : List D) : Prop where
  ok : ∀ d ∈ m, DOk n d
  fr_ : ∀ d ∈ m, if d.b = -1 then fr d.a d.a = true else fr d.a d.b = true
  perm : (plist m).Perm l
  len : m.length = (l.length + 1) / 2
theorem whole_ok {fr : Int → Int → Bool} {n : Nat} {l : List Int} {m : List D} (hr : ∀ z ∈ l, 0 ≤ z ∧ z < n) (hn : l.Nodup) (h : wholeS fr l = some m) : WholeOk fr n l m := by
  unfold wholeS at h
  split at h
  · rename_i hev
    have hp := pair_ok hr hn h
    have hlen := pairS_len h
    exact ⟨hp.ok, fun d hd => by rw [if_neg (hp.fr_ d hd).1]; exact (hp.fr_ d hd).2, hp.perm, by omega⟩
  · rename_i hod
    obtain ⟨k, hk, hx⟩ := firstF_some_inv h
    unfold byeS at hx
    split at hx
    · rename_i hfr
      obtain ⟨m', hm', rfl⟩ := Option.map_eq_some_iff.1 hx
      generalize hj : l.length - 1 - k = j at *
      have hjl : j < l.length := by omega
      have hg := getD_get hjl
      have hp := perm_eraseIdx hg
      generalize l.getD j 0 = y at *
      have hy0 := hr y (List.mem_of_getElem? hg)
      have h1 := pair_ok (n := n) (fun z hz => hr z (List.mem_of_mem_eraseIdx hz)) (List.Sublist.nodup (List.eraseIdx_sublist ..) hn) hm'
      have hlen := pairS_len hm'
      rw [List.length_eraseIdx_of_lt hjl] at hlen
      refine ⟨fun d hd => ?_, fun d hd => ?_, ?_, by simp; omega⟩
      · rcases List.mem_append.1 hd with hd | hd
        · exact h1.ok d hd
        · rw [List.mem_singleton] at hd
          subst hd
          exact ⟨hy0.1, hy0.2, .inl rfl⟩
      · rcases List.mem_append.1 hd with hd | hd
        · rw [if_neg (h1.fr_ d hd).1]; exact (h1.fr_ d hd).2
        · rw [List.mem_singleton] at hd
          subst hd
          rw [if_pos rfl]; exact hfr
      · unfold plist
        rw [List.flatMap_append]
        have : [(⟨y, -1⟩ : D)].flatMap D.pl = [y] := by simp [D.pl]
        rw [this]
        exact (List.perm_append_singleton y _).trans ((List.Perm.cons y h1.perm).trans hp)
    · cases hx

/-! ### The tournament behind Start -/
def initS (l : List D) : List Int := l.map fun d => if d.b < 0 then 2 else -1
def TS.whole (st : TS) : Option (List D) := wholeS (frS st) st.ord
def TS.sErr (st : TS) : Int := if st.open_ = true then 8 else if 13 ≤ st.rounds.length then 7 else if st.whole = none then 9 else 0
def TS.sList (st : TS) : List D := if st.sErr = 0 then st.whole.getD [] else []
def TS.start (st : TS) : TS := if st.sErr = 0 then ⟨st.n, st.rounds ++ [st.whole.getD []], st.scores ++ [initS (st.whole.getD [])], true⟩ else st
theorem TS.ord_mem {st : TS} (h : st.WF) : (∀ z ∈ st.ord, 0 ≤ z ∧ z < st.n) ∧ st.ord.Nodup ∧ st.ord.length = st.n :=
  ⟨fun z hz => rangeI_mem ((TS.ord_perm h).mem_iff.1 hz), (TS.ord_perm h).nodup_iff.2 (rangeI_nodup _), by rw [(TS.ord_perm h).length_eq, rangeI_len]⟩
theorem TS.whole_ok' {st : TS} (h : st.WF) {m : List D} (hm : st.whole = some m) : WholeOk (frS st) st.n st.ord m := whole_ok (TS.ord_mem h).1 (TS.ord_mem h).2.1 hm
theorem TS.round_ok {st : TS} (h : st.WF) {m : List D} (hm : st.whole = some m) : RoundOk st.n m := ⟨(TS.whole_ok' h hm).ok, (TS.whole_ok' h hm).perm.trans (TS.ord_perm h)⟩
theorem start_wf {st : TS} (h : st.WF) {m : List D} (hm : st.whole = some m) (hc : st.rounds.length < 13) : (⟨st.n, st.rounds ++ [m], st.scores ++ [initS m], true⟩ : TS).WF := by
  refine ⟨h.n0, by simp [h.len], by simp; omega, fun l hl => ?_, fun k l s hl hs => ?_, fun _ => by simp⟩
  · rcases List.mem_append.1 hl with hl | hl
    · exact h.rnd l hl
    · rw [List.mem_singleton] at hl
      subst hl
      exact TS.round_ok h hm
  · rcases Nat.lt_or_ge k st.rounds.length with hk | hk
    · rw [List.getElem?_append_left hk] at hl
      rw [List.getElem?_append_left (by rw [h.len]; exact hk)] at hs
      exact h.sco k l s hl hs
    · have hk' : k = st.rounds.length := by
        have := (List.getElem?_eq_some_iff.1 hl).1
        simp at this
        omega
      subst hk'
      rw [List.getElem?_append_right (Nat.le_refl _), Nat.sub_self] at hl
      rw [List.getElem?_append_right (by rw [h.len]; exact Nat.le_refl _), h.len, Nat.sub_self] at hs
      simp at hl hs
      subst hl hs
      refine ⟨by simp [initS], fun x hx => ?_⟩
      simp only [initS, List.mem_map] at hx
      obtain ⟨d, _, rfl⟩ := hx
      split <;> omega

/-! ### Who has met -/
/-- The bits of one duel. -/
def metU (ms : List Nat) (d : D) : List Nat :=
  let a := d.a.toNat
  let b := if d.b < 0 then d.a.toNat else d.b.toNat
  let m1 := ms.set a (ms.getD a 0 ||| 2 ^ b)
  m1.set b (m1.getD b 0 ||| 2 ^ a)
def MetP (n : Nat) (ms : List Nat) (f : Int → Int → Bool) : Prop := ms.length = n ∧ ∀ a, a < n → ∃ m, ms[a]? = some m ∧ m < 65536 ∧ ∀ b, b < n → m.testBit b = f a b
theorem getD_nat {ms : List Nat} {a m : Nat} (h : ms[a]? = some m) : ms.getD a 0 = m := by simp [List.getD, h]
theorem or_bit (m b q : Nat) : (m ||| 2 ^ b).testBit q = (m.testBit q || decide (b = q)) := by rw [Nat.testBit_or, Nat.testBit_two_pow]
theorem MetP.set {n : Nat} {ms : List Nat} {f : Int → Int → Bool} (h : MetP n ms f) {a b : Nat} (ha : a < n) (hb : b < 16) : MetP n (ms.set a (ms.getD a 0 ||| 2 ^ b)) (fun x y => f x y || decide (x = a ∧ y = b)) := by
  refine ⟨by rw [List.length_set]; exact h.1, fun c hc => ?_⟩
  by_cases hca : a = c
  · subst hca
    obtain ⟨m, hm, hm2, hbit⟩ := h.2 a hc
    refine ⟨m ||| 2 ^ b, ?_, ?_, fun q hq => ?_⟩
    · rw [List.getElem?_set, if_pos rfl, if_pos (by rw [h.1]; exact ha), getD_nat hm]
    · have : (2 : Nat) ^ b < 2 ^ 16 := Nat.pow_lt_pow_right (by decide) hb
      exact Nat.or_lt_two_pow (n := 16) hm2 this
    · rw [or_bit, hbit q hq]
      dsimp only
      congr 1
      rw [decide_eq_decide]
      omega
  · obtain ⟨m, hm, hm2, hbit⟩ := h.2 c hc
    refine ⟨m, by rw [List.getElem?_set, if_neg hca]; exact hm, hm2, fun q hq => ?_⟩
    rw [hbit q hq]
    dsimp only
    have : decide ((c : Int) = a ∧ (q : Int) = b) = false := decide_eq_false (by omega)
    rw [this, Bool.or_false]
theorem metU_ok {n : Nat} {ms : List Nat} {f : Int → Int → Bool} {d : D} (h : MetP n ms f) (hd : DOk n d) (hn : n ≤ 14) : MetP n (metU ms d) (fun x y => f x y || metD d x y) := by
  obtain ⟨a, ha⟩ : ∃ a : Nat, d.a = a := ⟨d.a.toNat, by have := hd.1; omega⟩
  have han : a < n := by have := hd.2.1; omega
  unfold metU
  rw [ha, Int.toNat_natCast]
  by_cases hb : d.b < 0
  · have hb1 : d.b = -1 := by rcases hd.2.2 with h | h <;> omega
    simp only [if_pos hb]
    have h2 := (h.set (b := a) han (by omega)).set (b := a) han (by omega)
    refine ⟨h2.1, fun c hc => ?_⟩
    obtain ⟨m, hm, hm2, hbit⟩ := h2.2 c hc
    refine ⟨m, hm, hm2, fun q hq => ?_⟩
    rw [hbit q hq]
    dsimp only
    rw [Bool.or_assoc]
    congr 1
    unfold metD
    rw [Bool.eq_iff_iff, Bool.or_eq_true]
    simp only [decide_eq_true_eq, hb1, ha, and_true]
    omega
  · obtain ⟨b, hbb⟩ : ∃ b : Nat, d.b = b := ⟨d.b.toNat, by omega⟩
    have hbn : b < n := by rcases hd.2.2 with h | h <;> omega
    simp only [if_neg hb, hbb, Int.toNat_natCast]
    have h2 := (h.set (b := b) han (by omega)).set (b := a) hbn (by omega)
    refine ⟨h2.1, fun c hc => ?_⟩
    obtain ⟨m, hm, hm2, hbit⟩ := h2.2 c hc
    refine ⟨m, hm, hm2, fun q hq => ?_⟩
    rw [hbit q hq]
    dsimp only
    rw [Bool.or_assoc]
    congr 1
    unfold metD
    rw [Bool.eq_iff_iff, Bool.or_eq_true]
    simp only [decide_eq_true_eq, hbb, ha]
    omega
def metJ (rs : List (List D)) (l : List D) (a b : Int) : Bool := metS rs a b || metL l a b
theorem metJ_snoc {rs : List (List D)} {l : List D} {d : D} {a b : Int} : metJ rs (l ++ [d]) a b = (metJ rs l a b || metD d a b) := by
  unfold metJ metL
  rw [List.any_append]
  simp [Bool.or_assoc]
theorem MetP.congr {n : Nat} {ms : List Nat} {f g : Int → Int → Bool} (h : MetP n ms f) (e : ∀ a b, f a b = g a b) : MetP n ms g :=
  ⟨h.1, fun a ha => by obtain ⟨m, h1, h2, h3⟩ := h.2 a ha; exact ⟨m, h1, h2, fun b hb => by rw [h3 b hb, e]⟩⟩
theorem metS_snoc {rs : List (List D)} {l : List D} {a b : Int} : metS (rs ++ [l]) a b = metJ rs l a b := by
  unfold metS metJ
  rw [List.any_append]
  simp [metS]
end Go.Proofs.Ytngcmihaheiigaa
