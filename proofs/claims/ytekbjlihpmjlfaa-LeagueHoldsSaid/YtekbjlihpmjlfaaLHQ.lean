/-
  What LeagueHolds keeps: who has met, who has played, the games that are played.
-/
import Derived.Test.YtekbjlihpmjlfaaLHP
import Derived.Test.YtekbjlihpmjlfaaLCr
set_option linter.unusedSimpArgs false
set_option linter.unusedVariables false
namespace Go.Proofs.Ytekbjlihpmjlfaa
open Go.RowKit

/-! ### Who has met -/
def metL (n : Nat) (ds : List D) : List Int := (List.range (n * n)).map fun i => cntM ds ((i / n : Nat) : Int) ((i % n : Nat) : Int)
theorem metL_len (n : Nat) (ds : List D) : (metL n ds).length = n * n := by simp [metL]
theorem idx_lt {n a b : Nat} (ha : a < n) (hb : b < n) : a * n + b < n * n := by
  have := Nat.mul_le_mul_right n (show a + 1 ≤ n by omega)
  rw [Nat.add_mul] at this
  omega
theorem idx_div {n a b : Nat} (hb : b < n) : (a * n + b) / n = a ∧ (a * n + b) % n = b := by
  have hn : 0 < n := by omega
  exact ⟨by rw [Nat.mul_comm, Nat.mul_add_div hn, Nat.div_eq_of_lt hb]; rfl, by rw [Nat.mul_comm, Nat.mul_add_mod, Nat.mod_eq_of_lt hb]⟩
theorem metL_ith {n i : Nat} (ds : List D) (h : i < n * n) : ith (metL n ds) i = cntM ds ((i / n : Nat) : Int) ((i % n : Nat) : Int) := by
  unfold ith
  rw [List.getD_eq_getElem?_getD, metL, List.getElem?_map, List.getElem?_range h]
  rfl
theorem metL_at {n a b : Nat} (ds : List D) (ha : a < n) (hb : b < n) : ith (metL n ds) (a * n + b) = cntM ds a b := by
  rw [metL_ith ds (idx_lt ha hb), (idx_div hb).1, (idx_div hb).2]
theorem metL_zero (n : Nat) : ics (metL n []) = List.replicate (n * n) (.int .i64 0) := by
  have e : metL n [] = List.replicate (n * n) 0 := rep_map _ _
  rw [e, ics, List.map_replicate]
theorem met_set {n a b : Nat} {ds : List D} {x y : Int} (ha : a < n) (hb : b < n) (hab : a ≠ b) (hx : x = cntM ds a b) (hy : y = cntM ds b a) :
    ((metL n ds).set (a * n + b) (x + 1)).set (b * n + a) (y + 1) = metL n (ds ++ [⟨a, b⟩]) := by
  refine ith_ext (by rw [List.length_set, List.length_set, metL_len, metL_len]) fun i hi => ?_
  rw [List.length_set, List.length_set, metL_len] at hi
  have hn : 0 < n := by omega
  have hj : i % n < n := Nat.mod_lt _ hn
  have hk : i / n < n := Nat.div_lt_of_lt_mul hi
  have e : i / n * n + i % n = i := by rw [Nat.mul_comm]; exact Nat.div_add_mod i n
  rw [ith_set (by rw [List.length_set, metL_len]; exact idx_lt hb ha), ith_set (by rw [metL_len]; exact idx_lt ha hb), metL_ith _ hi, metL_ith _ hi, cntM_snoc]
  have h1 : i = b * n + a ↔ (i / n = b ∧ i % n = a) := by
    constructor
    · intro h
      rw [h]
      exact idx_div ha
    · rintro ⟨h1, h2⟩
      rw [← e, h1, h2]
  have h2 : i = a * n + b ↔ (i / n = a ∧ i % n = b) := by
    constructor
    · intro h
      rw [h]
      exact idx_div hb
    · rintro ⟨h1, h2⟩
      rw [← e, h1, h2]
  unfold hitD
  simp only
  by_cases g1 : i = b * n + a
  · obtain ⟨e1, e2⟩ := h1.1 g1
    rw [if_pos g1, hy, e1, e2, if_neg (by omega), if_pos (by omega)]
    omega
  · rw [if_neg g1]
    by_cases g2 : i = a * n + b
    · obtain ⟨e1, e2⟩ := h2.1 g2
      rw [if_pos g2, hx, e1, e2, if_pos (by omega), if_neg (by omega)]
      omega
    · rw [if_neg g2, if_neg (fun h => g2 (h2.2 (by omega))), if_neg (fun h => g1 (h1.2 (by omega)))]
      omega

/-! ### Who has played in a round -/
def vbs (l : List Bool) : List Value := l.map Value.bool
def seenL (n : Nat) (us : List Nat) : List Bool := (List.range n).map fun i => decide (i ∈ us)
theorem seenL_len (n : Nat) (us : List Nat) : (seenL n us).length = n := by simp [seenL]
theorem seenL_at {n i : Nat} {us : List Nat} (h : i < n) : (vbs (seenL n us))[i]? = some (.bool (decide (i ∈ us))) := by
  rw [vbs, List.getElem?_map, seenL, List.getElem?_map, List.getElem?_range h]
  rfl
theorem seenL_zero (n : Nat) : vbs (seenL n []) = List.replicate n (.bool false) := by
  have e : seenL n [] = List.replicate n false := by
    unfold seenL
    rw [← rep_map]
    exact List.map_congr_left fun i _ => by simp
  rw [e, vbs, List.map_replicate]
theorem seen_set {n a b : Nat} {us : List Nat} : ((vbs (seenL n us)).set a (.bool true)).set b (.bool true) = vbs (seenL n (us ++ [a, b])) := by
  refine List.ext_getElem? fun i => ?_
  rcases Nat.lt_or_ge i n with hi | hi
  · rw [seenL_at hi, List.getElem?_set, List.getElem?_set, seenL_at hi]
    simp only [List.length_set, vbs, List.length_map, seenL_len]
    by_cases h1 : b = i
    · subst h1
      rw [if_pos rfl, if_pos hi]
      simp
    · rw [if_neg h1]
      by_cases h2 : a = i
      · subst h2
        rw [if_pos rfl, if_pos hi]
        simp
      · rw [if_neg h2]
        have e : (i ∈ us ++ [a, b]) ↔ i ∈ us := by
          simp only [List.mem_append, List.mem_cons, List.not_mem_nil, or_false]
          constructor
          · rintro (h | h | h)
            · exact h
            · exact absurd h.symm h2
            · exact absurd h.symm h1
          · exact .inl
        rw [decide_eq_decide.2 e]
  · rw [List.getElem?_eq_none (by simp [vbs, seenL_len]; exact hi), List.getElem?_eq_none (by simp [vbs, seenL_len]; exact hi)]
theorem flatN_app (l m : List (Nat × Nat)) : flatN (l ++ m) = flatN l ++ flatN m := by simp [flatN]
/-- The k-th duel of a round. -/
theorem duel_of {n r k : Nat} (hn : 2 ≤ n ∧ n ≤ 20) (hr : r < evN n - 1) (hk : k < (schS n r).length) : ∃ a b : Nat, dth (schS n r) k = ⟨a, b⟩ ∧ a < n ∧ b < n ∧ a ≠ b ∧ flatN ((schN n r).take (k + 1)) = flatN ((schN n r).take k) ++ [a, b] ∧
    a ∉ flatN ((schN n r).take k) ∧ b ∉ flatN ((schN n r).take k) := by
  have hkN : k < (schN n r).length := by simpa [schS] using hk
  obtain ⟨⟨a, b⟩, hd⟩ : ∃ d, (schN n r)[k] = d := ⟨_, rfl⟩
  have hg : (schN n r)[k]? = some (a, b) := by rw [List.getElem?_eq_getElem hkN, hd]
  have hdt : dth (schS n r) k = ⟨a, b⟩ := by
    unfold dth schS
    rw [List.getD_eq_getElem?_getD, List.getElem?_map, hg]
    rfl
  have hin := sch_in (all_ok n (by omega) (by omega) r hr) ⟨(a : Int), (b : Int)⟩ (List.mem_map.2 ⟨(a, b), List.mem_of_getElem? hg, rfl⟩)
  have htk : (schN n r).take (k + 1) = (schN n r).take k ++ [(a, b)] := by rw [List.take_succ_eq_append_getElem hkN, hd]
  have hfl : flatN ((schN n r).take (k + 1)) = flatN ((schN n r).take k) ++ [a, b] := by rw [htk, flatN_app]; rfl
  have hnd : (flatN ((schN n r).take (k + 1))).Nodup := by
    have h := round_once hn hr
    rw [← List.take_append_drop (k + 1) (schN n r), flatN_app] at h
    exact (List.nodup_append.1 h).1
  rw [hfl, List.nodup_append] at hnd
  simp only at hin
  refine ⟨a, b, hdt, by omega, by omega, by omega, hfl, fun h => hnd.2.2 a h a (by simp) rfl, fun h => hnd.2.2 b h b (by simp) rfl⟩
/-- The duels of the first rounds. -/
def dsR (n r : Nat) : List D := (List.range r).flatMap (schS n)
theorem dsR_succ (n r : Nat) : dsR n (r + 1) = dsR n r ++ schS n r := by unfold dsR; rw [List.range_succ]; simp
theorem dsR_all (n : Nat) : dsR n (evN n - 1) = allS n := by
  unfold dsR allS allN
  rw [List.map_flatMap]
  rfl

/-! ### The games that are played -/
def gmz (ds : List D) (xs : List Int) : List Gm := List.zipWith (fun d x => ⟨d.a, d.b, x % 3 + 1⟩) ds xs
theorem gmz_snoc {ds : List D} {xs : List Int} {d : D} (h : ds.length < xs.length) : gmz (ds ++ [d]) xs = gmz ds xs ++ [⟨d.a, d.b, nth xs ds.length % 3 + 1⟩] := by
  induction ds generalizing xs with
  | nil =>
    cases xs with
    | nil => simp at h
    | cons x xs => rfl
  | cons e ds ih =>
    cases xs with
    | nil => simp at h
    | cons x xs =>
      have := ih (xs := xs) (by simpa using h)
      unfold gmz at this ⊢
      simp only [List.cons_append, List.zipWith_cons_cons, this]
      rfl
theorem gmz_more {ds : List D} {xs : List Int} {d : D} (h : xs.length ≤ ds.length) : gmz (ds ++ [d]) xs = gmz ds xs := by
  induction ds generalizing xs with
  | nil =>
    cases xs with
    | nil => rfl
    | cons x xs => simp at h
  | cons e ds ih =>
    cases xs with
    | nil => rfl
    | cons x xs =>
      have := ih (xs := xs) (by simpa using h)
      unfold gmz at this ⊢
      simp only [List.cons_append, List.zipWith_cons_cons, this]
theorem gmz_len (ds : List D) (xs : List Int) : (gmz ds xs).length ≤ xs.length := by unfold gmz; rw [List.length_zipWith]; omega
theorem gmz_in {n : Nat} {ds : List D} {xs : List Int} (h : ∀ d ∈ ds, 0 ≤ d.a ∧ d.a < n ∧ 0 ≤ d.b ∧ d.b < n ∧ d.a ≠ d.b) : ∀ g ∈ gmz ds xs, GOk n g := by
  induction ds generalizing xs with
  | nil => intro g hg; simp [gmz] at hg
  | cons e ds ih =>
    cases xs with
    | nil => intro g hg; simp [gmz] at hg
    | cons x xs =>
      intro g hg
      have hg2 : g = ⟨e.a, e.b, x % 3 + 1⟩ ∨ g ∈ gmz ds xs := by simpa [gmz] using hg
      rcases hg2 with rfl | hg2
      · have := h e (List.mem_cons_self ..)
        unfold GOk
        simp only
        omega
      · exact ih (fun d hd => h d (List.mem_cons_of_mem _ hd)) g hg2
theorem allS_ok {n : Nat} (hn : 2 ≤ n ∧ n ≤ 20) : ∀ d ∈ allS n, 0 ≤ d.a ∧ d.a < n ∧ 0 ≤ d.b ∧ d.b < n ∧ d.a ≠ d.b := by
  intro d hd
  obtain ⟨x, hx, rfl⟩ := List.mem_map.1 hd
  have := allS_in hn x hx
  unfold D.of
  simp only
  omega
theorem games_err {n : Nat} {xs : List Int} (hn : 2 ≤ n ∧ n ≤ 20) (hx : xs.length ≤ 400) : errS n (gmz (allS n) xs) = 0 := by
  have hl := gmz_len (allS n) xs
  unfold errS
  rw [if_neg (by omega), if_neg (by omega), if_pos]
  rw [List.all_eq_true]
  intro g hg
  exact decide_eq_true (gmz_in (allS_ok hn) g hg)
theorem worth_bd (g : Gm) : 2 ≤ worth g ∧ worth g ≤ 3 := by unfold worth; split <;> omega
theorem worthS_bd (l : List Gm) : 0 ≤ worthS l ∧ worthS l ≤ 3 * (l.length : Int) := by
  induction l with
  | nil => simp [worthS]
  | cons g l ih =>
    have h := worth_bd g
    have e : worthS (g :: l) = worth g + worthS l := by simp [worthS]
    rw [e, List.length_cons]
    omega
theorem gcells_app (l m : List Gm) : gcells (l ++ m) = gcells l ++ gcells m := by simp [gcells]
/-- The points of the first rows. -/
def ptsT (L : List Rw) (i : Nat) : Int := ((L.take i).map Rw.pt).sum
theorem ptsT_succ {L : List Rw} {i : Nat} (h : i < L.length) : ptsT L (i + 1) = ptsT L i + (rth L i).pt := by
  unfold ptsT
  rw [List.take_succ_eq_append_getElem h]
  have := rth_get h
  rw [List.getElem?_eq_getElem h] at this
  injection this with this
  rw [this]
  simp
theorem sumN_bd {n : Nat} {f : Int → Int} {c : Int} (h : ∀ p : Nat, p < n → 0 ≤ f p ∧ f p ≤ c) : 0 ≤ sumN n f ∧ sumN n f ≤ c * n := by
  induction n with
  | zero => simp [sumN, rangeI]
  | succ n ih =>
    have h1 := ih fun p hp => h p (by omega)
    have h2 := h n (by omega)
    rw [sumN_succ, show c * ((n + 1 : Nat) : Int) = c * n + c by rw [Int.natCast_add, Int.mul_add]; simp]
    omega
end Go.Proofs.Ytekbjlihpmjlfaa
