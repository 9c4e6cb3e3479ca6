/-
  The plain law of LeagueHolds: who meets whom, sums over games, order does not matter.
-/
import Derived.Test.YtekbjlihpmjlfaaSLP
set_option linter.unusedSimpArgs false
set_option linter.unusedVariables false
namespace Go.Proofs.Ytekbjlihpmjlfaa
open Go.RowKit

/-! ### Who meets whom -/
def nodB : List Nat → Bool
  | [] => true
  | x :: l => l.all (fun y => !Nat.beq x y) && nodB l
def flatN (l : List (Nat × Nat)) : List Nat := l.flatMap fun d => [d.1, d.2]
def allN (n : Nat) : List (Nat × Nat) := (List.range (evN n - 1)).flatMap (schN n)
def codeN (n : Nat) (d : Nat × Nat) : Nat := min d.1 d.2 * n + max d.1 d.2
def codesN (n : Nat) : List Nat := (List.range (n * n)).filter fun c => Nat.blt (c / n) (c % n)
def metB (n : Nat) : Bool := ((allN n).map (codeN n)).isPerm (codesN n) && (List.range (evN n - 1)).all fun r => nodB (flatN (schN n r))
theorem all_met : ∀ n, n < 21 → 2 ≤ n → metB n = true := by decide +kernel
theorem nodB_nodup : ∀ l : List Nat, nodB l = true → l.Nodup
  | [], _ => List.nodup_nil
  | x :: l, h => by
    simp only [nodB, Bool.and_eq_true, List.all_eq_true, Bool.not_eq_true'] at h
    refine List.nodup_cons.2 ⟨fun hx => ?_, nodB_nodup l h.2⟩
    have := h.1 x hx
    simp at this

/-- How often two players meet. -/
def hitD (d : D) (a b : Int) : Int := (if d.a = a ∧ d.b = b then 1 else 0) + (if d.b = a ∧ d.a = b then 1 else 0)
def cntM (l : List D) (a b : Int) : Int := (l.map fun d => hitD d a b).sum
theorem cntM_snoc {l : List D} {d : D} {a b : Int} : cntM (l ++ [d]) a b = cntM l a b + hitD d a b := by unfold cntM; simp
theorem cntM_swap (l : List D) (a b : Int) : cntM l a b = cntM l b a := by
  unfold cntM
  congr 1
  refine List.map_congr_left fun d _ => ?_
  unfold hitD
  rw [Int.add_comm]
  congr 1
  · congr 1; simp [and_comm]
  · congr 1; simp [and_comm]
theorem cntM_bd (l : List D) (a b : Int) : 0 ≤ cntM l a b ∧ cntM l a b ≤ 2 * (l.length : Int) := by
  induction l with
  | nil => simp [cntM]
  | cons d l ih =>
    have e : cntM (d :: l) a b = hitD d a b + cntM l a b := by simp [cntM]
    have h : 0 ≤ hitD d a b ∧ hitD d a b ≤ 2 := by unfold hitD; split <;> split <;> omega
    rw [e, List.length_cons]
    omega
theorem cntM_self {l : List D} (h : ∀ d ∈ l, d.a ≠ d.b) (a : Int) : cntM l a a = 0 := by
  induction l with
  | nil => rfl
  | cons d l ih =>
    have e : cntM (d :: l) a a = hitD d a a + cntM l a a := by simp [cntM]
    have h0 := h d (List.mem_cons_self ..)
    rw [e, ih fun x hx => h x (List.mem_cons_of_mem _ hx)]
    unfold hitD
    rw [if_neg (by omega), if_neg (by omega)]
    rfl
theorem code_inj {n a b c d : Nat} (hb : b < n) (hd : d < n) : a * n + b = c * n + d ↔ a = c ∧ b = d := by
  constructor
  · intro h
    have h1 : (a * n + b) / n = (c * n + d) / n := by rw [h]
    have h2 : (a * n + b) % n = (c * n + d) % n := by rw [h]
    have hn : 0 < n := by omega
    rw [Nat.mul_comm a n, Nat.mul_comm c n, Nat.mul_add_div hn, Nat.mul_add_div hn, Nat.div_eq_of_lt hb, Nat.div_eq_of_lt hd] at h1
    rw [Nat.mul_comm a n, Nat.mul_comm c n, Nat.mul_add_mod, Nat.mul_add_mod, Nat.mod_eq_of_lt hb, Nat.mod_eq_of_lt hd] at h2
    omega
  · rintro ⟨rfl, rfl⟩; rfl
theorem cnt_count {n : Nat} {a b : Nat} (hab : a < b) (hb : b < n) : ∀ l : List (Nat × Nat), (∀ d ∈ l, d.1 < n ∧ d.2 < n ∧ d.1 ≠ d.2) → cntM (l.map D.of) a b = ((l.map (codeN n)).count (a * n + b) : Int)
  | [], _ => by simp [cntM]
  | d :: l, h => by
    have h0 := h d (List.mem_cons_self ..)
    have ih := cnt_count hab hb l fun x hx => h x (List.mem_cons_of_mem _ hx)
    obtain ⟨x, y⟩ := d
    simp only at h0
    have e : cntM ((D.of (x, y)) :: l.map D.of) a b = hitD (D.of (x, y)) a b + cntM (l.map D.of) a b := by simp [cntM]
    rw [List.map_cons, e, ih, List.map_cons, List.count_cons]
    have hc : ((codeN n (x, y) == a * n + b) = true) ↔ (min x y = a ∧ max x y = b) := by
      rw [beq_iff_eq]
      unfold codeN
      simp only
      exact code_inj (by omega) hb
    unfold hitD D.of
    simp only
    by_cases hm : min x y = a ∧ max x y = b
    · rw [if_pos (hc.2 hm)]
      rcases Nat.lt_or_ge x y with hxy | hxy
      · rw [if_pos (by omega), if_neg (by omega)]; omega
      · rw [if_neg (by omega), if_pos (by omega)]; omega
    · rw [if_neg (fun h => hm (hc.1 h)), if_neg (by omega), if_neg (by omega)]; omega
def allS (n : Nat) : List D := (allN n).map D.of
theorem allS_in {n : Nat} (hn : 2 ≤ n ∧ n ≤ 20) : ∀ d ∈ allN n, d.1 < n ∧ d.2 < n ∧ d.1 ≠ d.2 := by
  intro d hd
  obtain ⟨r, hr, hd⟩ := List.mem_flatMap.1 hd
  have hr' : r < evN n - 1 := List.mem_range.1 hr
  have h := sch_in (all_ok n (by omega) (by omega) r hr') (D.of d) (List.mem_map_of_mem hd)
  unfold D.of at h
  simp only at h
  omega
theorem met_all {n a b : Nat} (hn : 2 ≤ n ∧ n ≤ 20) (ha : a < n) (hb : b < n) : cntM (allS n) a b = if a = b then 0 else 1 := by
  have hin := allS_in hn
  have hB := all_met n (by omega) (by omega)
  unfold metB at hB
  rw [Bool.and_eq_true, List.isPerm_iff] at hB
  have key : ∀ a b : Nat, a < b → b < n → cntM (allS n) a b = 1 := by
    intro a b hab hb
    unfold allS
    rw [cnt_count hab hb _ hin, hB.1.count_eq]
    have hnd : (codesN n).Nodup := List.Pairwise.filter _ List.nodup_range
    rw [hnd.count, if_pos]
    · rfl
    · unfold codesN
      rw [List.mem_filter, List.mem_range]
      have hn0 : 0 < n := by omega
      have e1 : (a * n + b) / n = a := by rw [Nat.mul_comm, Nat.mul_add_div hn0, Nat.div_eq_of_lt hb]; rfl
      have e2 : (a * n + b) % n = b := by rw [Nat.mul_comm, Nat.mul_add_mod, Nat.mod_eq_of_lt hb]
      refine ⟨?_, ?_⟩
      · have := Nat.mul_le_mul_right n (show a + 1 ≤ n by omega)
        rw [Nat.add_mul] at this
        omega
      · rw [e1, e2]
        simp [Nat.blt, hab]; omega
  rcases Nat.lt_trichotomy a b with h | h | h
  · rw [if_neg (by omega)]; exact key a b h hb
  · subst h
    rw [if_pos rfl]
    refine cntM_self (fun d hd => ?_) _
    obtain ⟨x, hx, rfl⟩ := List.mem_map.1 hd
    have := hin x hx
    unfold D.of
    simp only
    omega
  · rw [if_neg (by omega), cntM_swap]; exact key b a h ha
/-- Nobody is twice in a round. -/
theorem round_once {n r : Nat} (hn : 2 ≤ n ∧ n ≤ 20) (hr : r < evN n - 1) : (flatN (schN n r)).Nodup := by
  have hB := all_met n (by omega) (by omega)
  unfold metB at hB
  rw [Bool.and_eq_true, List.all_eq_true] at hB
  exact nodB_nodup _ (hB.2 r (List.mem_range.2 hr))

/-! ### Sums over games -/
theorem sum_rev (f : Gm → Int) (l : List Gm) : (l.reverse.map f).sum = (l.map f).sum := by
  rw [List.map_reverse]
  exact List.sum_reverse _
theorem sumS_rev (l : List Gm) (p : Int) : sumS l.reverse p = sumS l p := sum_rev _ l
theorem cntS_rev (v : Int) (l : List Gm) (p : Int) : cntS v l.reverse p = cntS v l p := sum_rev _ l
theorem rowS_rev (l : List Gm) (p : Int) : rowS l.reverse p = rowS l p := by
  unfold rowS rowA
  rw [sumS_rev, cntS_rev, cntS_rev, cntS_rev]
  congr 1
  unfold amT
  rw [sum_rev]
  congr 1
  refine List.map_congr_left fun g _ => ?_
  rw [sumS_rev, sumS_rev]
theorem tabS_rev (n : Nat) (l : List Gm) : tabS n l.reverse = tabS n l := by
  unfold tabS rowsS
  congr 1
  exact List.map_congr_left fun p _ => rowS_rev l p
theorem errS_rev (n : Int) (l : List Gm) : errS n l.reverse = errS n l := by
  unfold errS
  rw [List.length_reverse, List.all_reverse]
/-- Sums over players. -/
def sumN (n : Nat) (f : Int → Int) : Int := ((rangeI n).map f).sum
theorem rangeI_succ (n : Nat) : rangeI (n + 1) = rangeI n ++ [(n : Int)] := by unfold rangeI; rw [List.range_succ]; simp
theorem sumN_succ (n : Nat) (f : Int → Int) : sumN (n + 1) f = sumN n f + f n := by unfold sumN; rw [rangeI_succ]; simp
theorem sumN_add (n : Nat) (f g : Int → Int) : sumN n (fun p => f p + g p) = sumN n f + sumN n g := by
  induction n with
  | zero => rfl
  | succ n ih => rw [sumN_succ, sumN_succ, sumN_succ, ih]; omega
theorem sumN_congr {n : Nat} {f g : Int → Int} (h : ∀ p : Nat, p < n → f p = g p) : sumN n f = sumN n g := by
  induction n with
  | zero => rfl
  | succ n ih => rw [sumN_succ, sumN_succ, ih (fun p hp => h p (by omega)), h n (by omega)]
theorem sumN_zero (n : Nat) : sumN n (fun _ => 0) = 0 := by
  induction n with
  | zero => rfl
  | succ n ih => rw [sumN_succ, ih]; rfl
theorem sumN_one {n a : Nat} (ha : a < n) (v : Int) : sumN n (fun p => if p = (a : Int) then v else 0) = v := by
  induction n with
  | zero => omega
  | succ n ih =>
    rw [sumN_succ]
    by_cases h : a = n
    · subst h
      rw [if_pos rfl, sumN_congr (g := fun _ => 0) (fun p hp => if_neg (by omega)), sumN_zero]
      omega
    · rw [ih (by omega), if_neg (by omega)]
      omega
/-- What a game is worth. -/
def worth (g : Gm) : Int := if g.o = 3 then 2 else 3
def worthS (l : List Gm) : Int := (l.map worth).sum
theorem worthS_snoc {l : List Gm} {g : Gm} : worthS (l ++ [g]) = worthS l + worth g := by unfold worthS; simp
theorem sc_sum {n : Nat} {g : Gm} (h : GOk n g) : sumN n (fun p => scS g p) = worth g := by
  obtain ⟨g1, g2, g3, g4, g5, g6, g7⟩ := h
  obtain ⟨a, ha⟩ : ∃ a : Nat, g.a = a := ⟨g.a.toNat, by omega⟩
  obtain ⟨b, hb⟩ : ∃ b : Nat, g.b = b := ⟨g.b.toNat, by omega⟩
  have e : ∀ p : Nat, p < n → scS g p = (if (p : Int) = a then scS g a else 0) + (if (p : Int) = b then scS g b else 0) := by
    intro p _
    by_cases h1 : (p : Int) = a
    · rw [if_pos h1, if_neg (by omega), h1]; omega
    · by_cases h2 : (p : Int) = b
      · rw [if_neg h1, if_pos h2, h2]; omega
      · rw [if_neg h1, if_neg h2, sc_no (by omega) (by omega)]; rfl
  rw [sumN_congr (g := fun q => (if q = (a : Int) then scS g a else 0) + (if q = (b : Int) then scS g b else 0)) e, sumN_add, sumN_one (by omega), sumN_one (by omega)]
  have ea := sc_a g5
  have eb := sc_b g5
  rw [ha] at ea
  rw [hb] at eb
  rw [ea, eb]
  unfold worth
  by_cases h3 : g.o = 3
  · simp [h3]
  · by_cases h1 : g.o = 1
    · simp [h3, h1]
    · simp [h3, h1]
theorem all_sum {n : Nat} : ∀ l : List Gm, (∀ g ∈ l, GOk n g) → sumN n (fun p => sumS l p) = worthS l
  | [], _ => by
    have : (fun p => sumS [] p) = fun _ => (0 : Int) := funext fun p => rfl
    rw [this, sumN_zero]; rfl
  | g :: l, h => by
    have e : (fun p => sumS (g :: l) p) = fun p => scS g p + sumS l p := funext fun p => by simp [sumS]
    rw [e, sumN_add, sc_sum (h g (List.mem_cons_self ..)), all_sum l fun x hx => h x (List.mem_cons_of_mem _ hx)]
    simp [worthS]
theorem cr_sum {n : Nat} {g : Gm} {p : Nat} (h : GOk n g) (hp : p < n) : sumN n (fun b => crS g p b) = scS g p := by
  obtain ⟨g1, g2, g3, g4, g5, g6, g7⟩ := h
  obtain ⟨a, ha⟩ : ∃ a : Nat, g.a = a := ⟨g.a.toNat, by omega⟩
  obtain ⟨b, hb⟩ : ∃ b : Nat, g.b = b := ⟨g.b.toNat, by omega⟩
  unfold crS Inv
  by_cases h1 : p = a
  · subst h1
    refine (sumN_congr (g := fun q => if q = (b : Int) then scS g p else 0) fun q hq => ?_).trans (sumN_one (by omega) _)
    by_cases h2 : q = b
    · subst h2
      rw [if_pos ⟨by omega, .inl ha, .inr hb⟩, if_pos rfl]
    · rw [if_neg (by omega), if_neg (by omega)]
  · by_cases h2 : p = b
    · subst h2
      refine (sumN_congr (g := fun q => if q = (a : Int) then scS g p else 0) fun q hq => ?_).trans (sumN_one (by omega) _)
      by_cases h2 : q = a
      · subst h2
        rw [if_pos ⟨by omega, .inr hb, .inl ha⟩, if_pos rfl]
      · rw [if_neg (by omega), if_neg (by omega)]
    · rw [sc_no (by omega) (by omega), sumN_congr (g := fun _ => 0) (fun q hq => if_neg (by omega)), sumN_zero]
theorem cross_sum {n p : Nat} (hp : p < n) : ∀ l : List Gm, (∀ g ∈ l, GOk n g) → sumN n (fun b => crT l p b) = sumS l p
  | [], _ => by
    have : (fun b => crT [] (p : Int) b) = fun _ => (0 : Int) := funext fun b => rfl
    rw [this, sumN_zero]; rfl
  | g :: l, h => by
    have e : (fun b => crT (g :: l) (p : Int) b) = fun b => crS g p b + crT l p b := funext fun b => by simp [crT]
    rw [e, sumN_add, cr_sum (h g (List.mem_cons_self ..)) hp, cross_sum hp l fun x hx => h x (List.mem_cons_of_mem _ hx)]
    simp [sumS]
/-- The sum of the points in the table. -/
theorem perm_sumI {l m : List Int} (h : l.Perm m) : l.sum = m.sum := by
  induction h with
  | nil => rfl
  | cons x _ ih => simp [ih]
  | swap x y l => simp; omega
  | trans _ _ h1 h2 => rw [h1, h2]
theorem tab_perm (n : Nat) (l : List Gm) : (tabS n l).Perm (rowsS n l) := srtR_perm (rows_pl n (rowS l) (fun p => rfl))
theorem tab_len (n : Nat) (l : List Gm) : (tabS n l).length = n := by rw [(tab_perm n l).length_eq]; simp [rowsS, rangeI_len]
theorem tab_sum {n : Nat} {l : List Gm} (h : ∀ g ∈ l, GOk n g) : ((tabS n l).map Rw.pt).sum = worthS l := by
  rw [perm_sumI ((tab_perm n l).map Rw.pt), ← all_sum l h]
  unfold rowsS sumN
  rw [List.map_map]
  rfl
theorem tab_in {n : Nat} {l : List Gm} {r : Rw} (h : r ∈ tabS n l) : ∃ p : Nat, p < n ∧ r.pl = p ∧ r.pt = sumS l p := by
  have := (tab_perm n l).mem_iff.1 h
  obtain ⟨q, hq, rfl⟩ := List.mem_map.1 this
  obtain ⟨p, hp, rfl⟩ := List.mem_map.1 hq
  exact ⟨p, List.mem_range.1 hp, rfl, rfl⟩
end Go.Proofs.Ytekbjlihpmjlfaa
