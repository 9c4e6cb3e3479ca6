/-
  The plain law of the rows: one game more.
-/
import Derived.Test.YtekbjlihpmjlfaaMk
import Derived.IntWalk
set_option linter.unusedSimpArgs false
set_option linter.unusedVariables false
namespace Go.Proofs.Ytekbjlihpmjlfaa
open Go.RowKit

theorem gtake_snoc {l : List Gm} {k : Nat} (hk : k < l.length) : l.take (k + 1) = l.take k ++ [gth l k] := by
  rw [List.take_succ_eq_append_getElem hk]
  have := gth_get hk
  rw [List.getElem?_eq_getElem hk] at this
  injection this with this
  rw [this]
theorem sumS_snoc {l : List Gm} {g : Gm} {p : Int} : sumS (l ++ [g]) p = sumS l p + scS g p := by unfold sumS; simp
theorem cntS_snoc {v : Int} {l : List Gm} {g : Gm} {p : Int} : cntS v (l ++ [g]) p = cntS v l p + if Inv g p ∧ scS g p = v then 1 else 0 := by unfold cntS; simp
theorem amT_snoc {all l : List Gm} {g : Gm} {p : Int} : amT all (l ++ [g]) p = amT all l p + if sumS all g.a = sumS all g.b then scS g p else 0 := by unfold amT; simp
theorem scS_bd (g : Gm) (p : Int) : 0 ≤ scS g p ∧ scS g p ≤ 3 := by unfold scS; split <;> (try split) <;> (try split) <;> omega
theorem sumS_bd (l : List Gm) (p : Int) : 0 ≤ sumS l p ∧ sumS l p ≤ 3 * (l.length : Int) := by
  induction l with
  | nil => simp [sumS]
  | cons g l ih =>
    have h := scS_bd g p
    have e : sumS (g :: l) p = scS g p + sumS l p := by simp [sumS]
    rw [e, List.length_cons]
    omega
theorem cntS_bd (v : Int) (l : List Gm) (p : Int) : 0 ≤ cntS v l p ∧ cntS v l p ≤ (l.length : Int) := by
  induction l with
  | nil => simp [cntS]
  | cons g l ih =>
    have e : cntS v (g :: l) p = (if Inv g p ∧ scS g p = v then 1 else 0) + cntS v l p := by simp [cntS]
    rw [e, List.length_cons]
    split <;> omega
theorem amT_bd (all l : List Gm) (p : Int) : 0 ≤ amT all l p ∧ amT all l p ≤ 3 * (l.length : Int) := by
  induction l with
  | nil => simp [amT]
  | cons g l ih =>
    have h := scS_bd g p
    have e : amT all (g :: l) p = (if sumS all g.a = sumS all g.b then scS g p else 0) + amT all l p := by simp [amT]
    rw [e, List.length_cons]
    split <;> omega
theorem sc_a {g : Gm} (h : g.a ≠ g.b) : scS g g.a = if g.o = 3 then 1 else if g.o = 1 then 3 else 0 := by
  unfold scS Inv
  rw [if_neg (by simp)]
  simp
theorem sc_b {g : Gm} (h : g.a ≠ g.b) : scS g g.b = if g.o = 3 then 1 else if g.o = 1 then 0 else 3 := by
  unfold scS Inv
  rw [if_neg (by simp)]
  by_cases h3 : g.o = 3
  · simp [h3]
  · by_cases h1 : g.o = 1
    · simp [h1, h]
    · simp [h1, h3, h]
theorem sc_no {g : Gm} {p : Int} (h1 : p ≠ g.a) (h2 : p ≠ g.b) : scS g p = 0 := by
  unfold scS Inv
  rw [if_pos (by simp; exact ⟨fun e => h1 e.symm, fun e => h2 e.symm⟩)]
theorem inv_no {g : Gm} {p : Int} (h1 : p ≠ g.a) (h2 : p ≠ g.b) : ¬ Inv g p := by unfold Inv; simp; exact ⟨fun e => h1 e.symm, fun e => h2 e.symm⟩
theorem row0_no {t : List Gm} {g : Gm} {p : Int} (h1 : p ≠ g.a) (h2 : p ≠ g.b) : row0 (t ++ [g]) p = row0 t p := by
  unfold row0
  rw [sumS_snoc, cntS_snoc, cntS_snoc, cntS_snoc, sc_no h1 h2, if_neg (fun h => inv_no h1 h2 h.1), if_neg (fun h => inv_no h1 h2 h.1), if_neg (fun h => inv_no h1 h2 h.1)]
  simp
/-- Four stores. -/
def set4 (L : List Rw) (a b ja jb : Nat) (v1 v2 v3 v4 : Int) : List Rw :=
  let L1 := L.set a ((rth L a).put 1 v1)
  let L2 := L1.set b ((rth L1 b).put 1 v2)
  let L3 := L2.set a ((rth L2 a).put ja v3)
  L3.set b ((rth L3 b).put jb v4)
theorem set4_at {L : List Rw} {a b ja jb : Nat} {v1 v2 v3 v4 : Int} (ha : a < L.length) (hb : b < L.length) (hab : a ≠ b) (p : Nat) : rth (set4 L a b ja jb v1 v2 v3 v4) p = if p = a then ((rth L a).put 1 v1).put ja v3 else if p = b then ((rth L b).put 1 v2).put jb v4 else rth L p := by
  unfold set4
  simp only
  rw [rth_set (by simpa using hb)]
  by_cases h1 : p = b
  · rw [if_pos h1, if_neg (by omega), if_pos h1, rth_set (by simpa using ha), if_neg (Ne.symm hab), rth_set (by simpa using hb), if_pos rfl, rth_set ha, if_neg (Ne.symm hab)]
  · rw [if_neg h1, rth_set (by simpa using ha)]
    by_cases h2 : p = a
    · rw [if_pos h2, if_pos h2, rth_set (by simpa using hb), if_neg hab, rth_set ha, if_pos rfl]
    · rw [if_neg h2, if_neg h2, if_neg h1, rth_set (by simpa using hb), if_neg h1, rth_set ha, if_neg h2]
theorem set4_rows {n : Nat} {L : List Rw} {t : List Gm} {g : Gm} {a b ja jb : Nat} {v1 v2 v3 v4 : Int} (hl : L.length = n) (hL : ∀ p, p < n → rth L p = row0 t p) (hg : GOk n g) (ha : g.a = a) (hb : g.b = b)
    (h1 : v1 = sumS t a + scS g a) (h2 : v2 = sumS t b + scS g b)
    (h3 : (g.o = 1 ∧ ja = 3 ∧ jb = 5 ∧ v3 = cntS 3 t a + 1 ∧ v4 = cntS 0 t b + 1) ∨ (g.o = 2 ∧ ja = 5 ∧ jb = 3 ∧ v3 = cntS 0 t a + 1 ∧ v4 = cntS 3 t b + 1) ∨ (g.o = 3 ∧ ja = 4 ∧ jb = 4 ∧ v3 = cntS 1 t a + 1 ∧ v4 = cntS 1 t b + 1)) :
    ∀ p, p < n → rth (set4 L a b ja jb v1 v2 v3 v4) p = row0 (t ++ [g]) p := by
  obtain ⟨g1, g2, g3, g4, g5, g6, g7⟩ := hg
  intro p hp
  have hab : a ≠ b := by omega
  rw [set4_at (by omega) (by omega) hab]
  have ea := sc_a g5
  have eb := sc_b g5
  rw [ha] at ea
  rw [hb] at eb
  have ia : Inv g a := .inl ha
  have ib : Inv g b := .inr hb
  by_cases hpa : p = a
  · subst hpa
    rw [if_pos rfl, hL p hp]
    unfold row0
    rw [sumS_snoc, cntS_snoc, cntS_snoc, cntS_snoc]
    rcases h3 with ⟨ho, rfl, rfl, h4, h5⟩ | ⟨ho, rfl, rfl, h4, h5⟩ | ⟨ho, rfl, rfl, h4, h5⟩
    · rw [ho, if_neg (by decide), if_pos rfl] at ea
      simp [Rw.put, ea, ia, h1, h4]
    · rw [ho, if_neg (by decide), if_neg (by decide)] at ea
      simp [Rw.put, ea, ia, h1, h4]
    · rw [ho, if_pos rfl] at ea
      simp [Rw.put, ea, ia, h1, h4]
  · rw [if_neg hpa]
    by_cases hpb : p = b
    · subst hpb
      rw [if_pos rfl, hL p hp]
      unfold row0
      rw [sumS_snoc, cntS_snoc, cntS_snoc, cntS_snoc]
      rcases h3 with ⟨ho, rfl, rfl, h4, h5⟩ | ⟨ho, rfl, rfl, h4, h5⟩ | ⟨ho, rfl, rfl, h4, h5⟩
      · rw [ho, if_neg (by decide), if_pos rfl] at eb
        simp [Rw.put, eb, ib, h2, h5]
      · rw [ho, if_neg (by decide), if_neg (by decide)] at eb
        simp [Rw.put, eb, ib, h2, h5]
      · rw [ho, if_pos rfl] at eb
        simp [Rw.put, eb, ib, h2, h5]
    · rw [if_neg hpb, hL p hp, row0_no (by omega) (by omega)]
/-- Two stores to the points among equals. -/
def set2 (L : List Rw) (a b : Nat) (v1 v2 : Int) : List Rw :=
  let L1 := L.set a ((rth L a).put 2 v1)
  L1.set b ((rth L1 b).put 2 v2)
theorem set2_rows {n : Nat} {L : List Rw} {all t : List Gm} {g : Gm} {a b : Nat} {v1 v2 : Int} (hl : L.length = n) (hL : ∀ p, p < n → rth L p = rowA all t p) (hg : GOk n g) (ha : g.a = a) (hb : g.b = b) (he : sumS all g.a = sumS all g.b)
    (h1 : v1 = amT all t a + scS g a) (h2 : v2 = amT all t b + scS g b) :
    ∀ p, p < n → rth (set2 L a b v1 v2) p = rowA all (t ++ [g]) p := by
  obtain ⟨g1, g2, g3, g4, g5, g6, g7⟩ := hg
  intro p hp
  have hab : a ≠ b := by omega
  unfold set2
  simp only
  rw [rth_set (by simp; omega)]
  unfold rowA
  rw [amT_snoc, if_pos he]
  by_cases hpb : p = b
  · subst hpb
    rw [if_pos rfl, rth_set (by omega), if_neg (Ne.symm hab), hL p hp]
    simp [rowA, Rw.put, h2]
  · rw [if_neg hpb, rth_set (by omega)]
    by_cases hpa : p = a
    · subst hpa
      rw [if_pos rfl, hL p hp]
      simp [rowA, Rw.put, h1]
    · rw [if_neg hpa, hL p hp, sc_no (by omega) (by omega)]
      simp [rowA]
theorem rowA_same {all t : List Gm} {g : Gm} (h : sumS all g.a ≠ sumS all g.b) (p : Int) : rowA all (t ++ [g]) p = rowA all t p := by
  unfold rowA
  rw [amT_snoc, if_neg h]
  simp
end Go.Proofs.Ytekbjlihpmjlfaa
