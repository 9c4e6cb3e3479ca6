/-
  Plain law: what put finds is what the reference writes.
-/
import Derived.Test.YtpmlipcpohajgaaPut
set_option linter.unusedSimpArgs false
set_option linter.unusedVariables false
namespace Go.Proofs.Ytpmlipcpohajgaa

/-- The reference's bytes. -/
def rbytes (o : OpV) : List Int :=
  if o.k = 1 then [2]
  else if o.k = 2 then [(16 * o.c + 3) % 256]
  else if o.k = 3 then (if 255 < o.n then [10, o.n / 256 % 256, o.n % 256] else [4, o.n % 256])
  else if o.k = 4 then (16 * o.c + 5) % 256 :: (o.d.length : Int) % 256 :: o.d
  else if o.k = 5 then [(16 * o.c + 6) % 256, o.n % 256]
  else if o.k = 7 then [(16 * o.c + 8) % 256, o.m % 256]
  else if o.k = 8 then [(16 * o.c + 9) % 256, o.n % 256]
  else if o.m = 0 then [16 * o.c % 256, o.n % 256]
  else [(16 * o.c + 7) % 256, o.n % 256, o.m % 256]
def rvalid (o : OpV) : Bool :=
  decide (0 ≤ o.c ∧ o.c ≤ 15 ∧ 0 ≤ o.n ∧ o.n ≤ 65535 ∧ 0 ≤ o.m ∧ o.m ≤ 255 ∧ o.d.length ≤ 255) && opEq (opS (rbytes o)).1 o && decide ((opS (rbytes o)).2 = (rbytes o).length)

/-- Whether bytes are an operation's, and all of it. -/
def okB (o : OpV) (b : List Int) : Bool := decide (b.length ≤ (opS b).2) && opEq (opS b).1 o && fullB b
theorem okQ_eq (o : OpV) (q : Nat) : okQ o q = okB o (candS o q) := rfl
theorem okB_iff (o : OpV) (b : List Int) : okB o b = true ↔ b.length ≤ (opS b).2 ∧ (opS b).1 = o ∧ (b.length : Int) = needI b := by
  unfold okB fullB
  rw [Bool.and_eq_true, Bool.and_eq_true, decide_eq_true_eq, opEq_iff, beq_iff_eq, and_assoc]

theorem nth_zero (x : Int) (l : List Int) : nth (x :: l) 0 = x := rfl
theorem nth_succ (x : Int) (l : List Int) (k : Nat) : nth (x :: l) (k + 1) = nth l k := rfl
theorem nth_nil' (k : Nat) : nth [] k = 0 := by simp [nth]

theorem takeZ_all (l : List Int) : takeZ l.length l = l := by
  unfold takeZ
  apply List.ext_getElem
  · simp
  · intro i h1 h2
    simp [nth, List.getD, List.getElem?_eq_getElem h2]

def OkC (o : OpV) (x : Int) (tl : List Int) : Prop :=
  (x % 16 = 2 ∧ tl = [] ∧ o = ⟨1, 0, 0, 0, []⟩) ∨ (x % 16 = 3 ∧ tl = [] ∧ o = ⟨2, x / 16, 0, 0, []⟩) ∨
  (∃ y, x % 16 = 4 ∧ tl = [y] ∧ o = ⟨3, 0, y, 0, []⟩) ∨ (∃ y z, x % 16 = 10 ∧ tl = [y, z] ∧ o = ⟨3, 0, 256 * y + z, 0, []⟩) ∨
  (∃ d : List Int, x % 16 = 5 ∧ tl = (d.length : Int) :: d ∧ o = ⟨4, x / 16, 0, 0, d⟩) ∨ (∃ y, x % 16 = 6 ∧ tl = [y] ∧ o = ⟨5, x / 16, y % 3, 0, []⟩) ∨
  (∃ y z, x % 16 = 7 ∧ tl = [y, z] ∧ o = ⟨6, x / 16, y, z, []⟩) ∨ (∃ y, x % 16 = 8 ∧ tl = [y] ∧ o = ⟨7, x / 16, 0, y, []⟩) ∨
  (∃ y, x % 16 = 9 ∧ tl = [y] ∧ o = ⟨8, x / 16, y, 0, []⟩) ∨ (∃ y, (x % 16 < 2 ∨ 10 < x % 16) ∧ tl = [y] ∧ o = ⟨6, x / 16, y, 0, []⟩)

theorem len_one {tl : List Int} (h : tl.length = 1) : ∃ y, tl = [y] := by
  match tl, h with
  | [y], _ => exact ⟨y, rfl⟩
theorem len_two {tl : List Int} (h : tl.length = 2) : ∃ y z, tl = [y, z] := by
  match tl, h with
  | [y, z], _ => exact ⟨y, z, rfl⟩

theorem okB_ok {o : OpV} {x : Int} {tl : List Int} (h : okB o (x :: tl) = true) : OkC o x tl := by
  obtain ⟨h1, h2, h3⟩ := (okB_iff _ _).1 h
  unfold opS at h1 h2
  unfold needI at h3
  simp only [nth_zero, nth_succ, List.length_cons] at h1 h2 h3
  have h0 : 0 ≤ x % 16 ∧ x % 16 ≤ 15 := by omega
  unfold OkC
  by_cases c2 : x % 16 = 2
  · simp only [c2, if_true, true_or] at h1 h2 h3
    exact .inl ⟨c2, List.eq_nil_of_length_eq_zero (by omega), h2.symm⟩
  by_cases c3 : x % 16 = 3
  · simp [c3] at h1 h2 h3
    exact .inr (.inl ⟨c3, List.eq_nil_of_length_eq_zero (by omega), h2.symm⟩)
  by_cases c10 : x % 16 = 10
  · simp [c10] at h1 h2 h3
    obtain ⟨y, z, rfl⟩ := len_two (tl := tl) (by omega)
    exact .inr (.inr (.inr (.inl ⟨y, z, c10, rfl, h2.symm⟩)))
  by_cases c4 : x % 16 = 4
  · simp [c4] at h1 h2 h3
    obtain ⟨y, rfl⟩ := len_one (tl := tl) (by omega)
    exact .inr (.inr (.inl ⟨y, c4, rfl, h2.symm⟩))
  by_cases c5 : x % 16 = 5
  · simp [c5] at h1 h2 h3
    cases tl with
    | nil => simp at h3
    | cons y d =>
      simp [nth_zero] at h1 h2 h3
      have hy : y = d.length := by omega
      refine .inr (.inr (.inr (.inr (.inl ⟨d, c5, by rw [hy], ?_⟩))))
      rw [← h2, hy, Int.toNat_natCast, takeZ_all]
  by_cases c6 : x % 16 = 6
  · simp [c6] at h1 h2 h3
    obtain ⟨y, rfl⟩ := len_one (tl := tl) (by omega)
    exact .inr (.inr (.inr (.inr (.inr (.inl ⟨y, c6, rfl, h2.symm⟩)))))
  by_cases c7 : x % 16 = 7
  · simp [c7] at h1 h2 h3
    obtain ⟨y, z, rfl⟩ := len_two (tl := tl) (by omega)
    exact .inr (.inr (.inr (.inr (.inr (.inr (.inl ⟨y, z, c7, rfl, h2.symm⟩))))))
  by_cases c8 : x % 16 = 8
  · simp [c8] at h1 h2 h3
    obtain ⟨y, rfl⟩ := len_one (tl := tl) (by omega)
    exact .inr (.inr (.inr (.inr (.inr (.inr (.inr (.inl ⟨y, c8, rfl, h2.symm⟩)))))))
  by_cases c9 : x % 16 = 9
  · simp [c9] at h1 h2 h3
    obtain ⟨y, rfl⟩ := len_one (tl := tl) (by omega)
    exact .inr (.inr (.inr (.inr (.inr (.inr (.inr (.inr (.inl ⟨y, c9, rfl, h2.symm⟩))))))))
  · simp [c2, c3, c10, c4, c5, c6, c7, c8, c9] at h1 h2 h3
    obtain ⟨y, rfl⟩ := len_one (tl := tl) (by omega)
    exact .inr (.inr (.inr (.inr (.inr (.inr (.inr (.inr (.inr ⟨y, by omega, rfl, h2.symm⟩))))))))

theorem ok_okB {o : OpV} {x : Int} {tl : List Int} (h : OkC o x tl) : okB o (x :: tl) = true := by
  rw [okB_iff]
  unfold opS needI
  simp only [nth_zero, nth_succ, List.length_cons]
  rcases h with ⟨c, rfl, rfl⟩ | ⟨c, rfl, rfl⟩ | ⟨y, c, rfl, rfl⟩ | ⟨y, z, c, rfl, rfl⟩ | ⟨d, c, rfl, rfl⟩ | ⟨y, c, rfl, rfl⟩ | ⟨y, z, c, rfl, rfl⟩ | ⟨y, c, rfl, rfl⟩ | ⟨y, c, rfl, rfl⟩ | ⟨y, c, rfl, rfl⟩
  · simp [c]
  · simp [c]
  · simp [c, nth_zero]
  · simp [c, nth_zero, nth_succ]
  · simp [c, nth_zero, takeZ_all]; omega
  · simp [c, nth_zero]
  · simp [c, nth_zero, nth_succ]
  · simp [c, nth_zero]
  · simp [c, nth_zero]
  · have c2 : ¬ x % 16 = 2 := by omega
    have c3 : ¬ x % 16 = 3 := by omega
    have c10 : ¬ x % 16 = 10 := by omega
    have c4 : ¬ x % 16 = 4 := by omega
    have c5 : ¬ x % 16 = 5 := by omega
    have c6 : ¬ x % 16 = 6 := by omega
    have c7 : ¬ x % 16 = 7 := by omega
    have c8 : ¬ x % 16 = 8 := by omega
    have c9 : ¬ x % 16 = 9 := by omega
    simp [c2, c3, c10, c4, c5, c6, c7, c8, c9, nth_zero]

theorem ok_count {o : OpV} {x : Int} {tl : List Int} (h : OkC o x tl) : (opS (x :: tl)).2 = (x :: tl).length := by
  unfold opS
  simp only [nth_zero, nth_succ, List.length_cons]
  rcases h with ⟨c, rfl, rfl⟩ | ⟨c, rfl, rfl⟩ | ⟨y, c, rfl, rfl⟩ | ⟨y, z, c, rfl, rfl⟩ | ⟨d, c, rfl, rfl⟩ | ⟨y, c, rfl, rfl⟩ | ⟨y, z, c, rfl, rfl⟩ | ⟨y, c, rfl, rfl⟩ | ⟨y, c, rfl, rfl⟩ | ⟨y, c, rfl, rfl⟩
  · simp [c]
  · simp [c]
  · simp [c]
  · simp [c]
  · simp [c, nth_zero]; omega
  · simp [c]
  · simp [c]
  · simp [c]
  · simp [c]
  · have c2 : ¬ x % 16 = 2 := by omega
    have c3 : ¬ x % 16 = 3 := by omega
    have c10 : ¬ x % 16 = 10 := by omega
    have c4 : ¬ x % 16 = 4 := by omega
    have c5 : ¬ x % 16 = 5 := by omega
    have c6 : ¬ x % 16 = 6 := by omega
    have c7 : ¬ x % 16 = 7 := by omega
    have c8 : ¬ x % 16 = 8 := by omega
    have c9 : ¬ x % 16 = 9 := by omega
    simp [c2, c3, c10, c4, c5, c6, c7, c8, c9]

/-- Either these are the reference's bytes, or others that come before are the operation's, too. -/
theorem cand_or {o : OpV} (hd : IsBytes o.d) {q : Nat} (hq : q < 96) (h : okQ o q = true) :
    (candS o q = rbytes o ∧ 0 ≤ o.c ∧ o.c ≤ 15 ∧ 0 ≤ o.n ∧ o.n ≤ 65535 ∧ 0 ≤ o.m ∧ o.m ≤ 255 ∧ o.d.length ≤ 255) ∨ ∃ r, r < q ∧ okQ o r = true := by
  have hT := tailS_bytes o hd (q / 16)
  have hL : (tailS o (q / 16)).length = 2 → 3 ≤ q / 16 := by
    intro hl
    rcases Nat.lt_or_ge (q / 16) 3 with h3 | h3
    · unfold tailS at hl
      repeat' split at hl
      all_goals first | (simp at hl; done) | omega
    · exact h3
  have h1 : okB o ((16 * o.c + (q % 16 : Nat)) % 256 :: tailS o (q / 16)) = true := h
  have h2 := okB_ok h1
  have hcand : candS o q = (16 * o.c + (q % 16 : Nat)) % 256 :: tailS o (q / 16) := rfl
  have hf : q % 16 < 16 := Nat.mod_lt _ (by omega)
  have hfq : q = 16 * (q / 16) + q % 16 := by omega
  have hcx : ∀ x : Int, x = (16 * o.c + (q % 16 : Nat)) % 256 → x % 16 = (q % 16 : Nat) ∧ 0 ≤ x ∧ x ≤ 255 := by intro x hx; omega
  obtain ⟨hx1, hx2, hx3⟩ := hcx _ rfl
  rw [hcand]
  generalize hx : (16 * o.c + (q % 16 : Nat)) % 256 = x at *
  generalize hg : q % 16 = f at *
  generalize ht : q / 16 = t at *
  rcases h2 with ⟨c, e, ho⟩ | ⟨c, e, ho⟩ | ⟨y, c, e, ho⟩ | ⟨y, z, c, e, ho⟩ | ⟨d, c, e, ho⟩ | ⟨y, c, e, ho⟩ | ⟨y, z, c, e, ho⟩ | ⟨y, c, e, ho⟩ | ⟨y, c, e, ho⟩ | ⟨y, c, e, ho⟩
  · left
    rw [e]
    subst ho
    simp at hx
    refine ⟨?_, by first | decide | (simp; done), by first | decide | (simp; done), by first | decide | (simp; done), by first | decide | (simp; done), by first | decide | (simp; done), by first | decide | (simp; done), by first | decide | (simp; done)⟩
    simp [rbytes]
    omega
  · left
    rw [e]
    subst ho
    refine ⟨?_, by first | (simp; done) | (simp only; omega), by first | (simp; done) | (simp only; omega), by first | decide | (simp; done), by first | decide | (simp; done), by first | decide | (simp; done), by first | decide | (simp; done), by first | decide | (simp; done)⟩
    simp [rbytes]
    omega
  · left
    rw [e] at hT ⊢
    have hy := hT y (by simp)
    subst ho
    simp at hx
    refine ⟨?_, by first | decide | (simp; done), by first | decide | (simp; done), by first | (simp; done) | (simp only; omega), by first | (simp; done) | (simp only; omega), by first | decide | (simp; done), by first | decide | (simp; done), by first | decide | (simp; done)⟩
    have : ¬ 255 < y := by omega
    simp [rbytes, this]
    omega
  · rw [e] at hT hL
    have hy := hT y (by simp)
    have hz := hT z (by simp)
    have ht3 := hL rfl
    subst ho
    simp at hx
    by_cases hn : 255 < 256 * y + z
    · left
      rw [e]
      refine ⟨?_, by first | decide | (simp; done), by first | decide | (simp; done), by first | (simp; done) | (simp only; omega), by first | (simp; done) | (simp only; omega), by first | decide | (simp; done), by first | decide | (simp; done), by first | decide | (simp; done)⟩
      simp [rbytes, hn]
      omega
    · right
      refine ⟨20, by omega, ?_⟩
      rw [okQ_eq]
      refine ok_okB (.inr (.inr (.inl ⟨256 * y + z, ?_, ?_, rfl⟩)))
      · simp
      · simp [tailS]; omega
  · left
    rw [e] at hT ⊢
    have hy := hT d.length (by simp)
    subst ho
    refine ⟨?_, by first | (simp; done) | (simp only; omega), by first | (simp; done) | (simp only; omega), by first | decide | (simp; done), by first | decide | (simp; done), by first | decide | (simp; done), by first | decide | (simp; done), by first | (simp; done) | (simp only; omega)⟩
    simp [rbytes]
    omega
  · left
    have hy := hT y (by rw [e]; simp)
    have hy3 : y = y % 3 := by
      subst ho
      unfold tailS at e
      simp only at e
      repeat' split at e
      all_goals simp at e
      all_goals omega
    rw [e]
    subst ho
    refine ⟨?_, by first | (simp; done) | (simp only; omega), by first | (simp; done) | (simp only; omega), by first | (simp; done) | (simp only; omega), by first | (simp; done) | (simp only; omega), by first | decide | (simp; done), by first | decide | (simp; done), by first | decide | (simp; done)⟩
    simp [rbytes]
    omega
  · rw [e] at hT hL
    have hy := hT y (by simp)
    have hz := hT z (by simp)
    have ht3 := hL rfl
    subst ho
    by_cases hn : z = 0
    · right
      refine ⟨16, by omega, ?_⟩
      rw [okQ_eq]
      refine ok_okB (.inr (.inr (.inr (.inr (.inr (.inr (.inr (.inr (.inr ⟨y, ?_, ?_, ?_⟩)))))))))
      · left; first | (simp; done) | (simp; omega)
      · simp [tailS]; omega
      · subst hn; first | (simp; done) | (simp; omega)
    · left
      rw [e]
      refine ⟨?_, by first | (simp; done) | (simp only; omega), by first | (simp; done) | (simp only; omega), by first | (simp; done) | (simp only; omega), by first | (simp; done) | (simp only; omega), by first | (simp; done) | (simp only; omega), by first | (simp; done) | (simp only; omega), by first | decide | (simp; done)⟩
      simp [rbytes, hn]
      omega
  · left
    rw [e] at hT ⊢
    have hy := hT y (by simp)
    subst ho
    refine ⟨?_, by first | (simp; done) | (simp only; omega), by first | (simp; done) | (simp only; omega), by first | decide | (simp; done), by first | decide | (simp; done), by first | (simp; done) | (simp only; omega), by first | (simp; done) | (simp only; omega), by first | decide | (simp; done)⟩
    simp [rbytes]
    omega
  · left
    rw [e] at hT ⊢
    have hy := hT y (by simp)
    subst ho
    refine ⟨?_, by first | (simp; done) | (simp only; omega), by first | (simp; done) | (simp only; omega), by first | (simp; done) | (simp only; omega), by first | (simp; done) | (simp only; omega), by first | decide | (simp; done), by first | decide | (simp; done), by first | decide | (simp; done)⟩
    simp [rbytes]
    omega
  · have hy := hT y (by rw [e]; simp)
    by_cases hf0 : f = 0
    · left
      rw [e]
      subst ho
      refine ⟨?_, by first | (simp; done) | (simp only; omega), by first | (simp; done) | (simp only; omega), by first | (simp; done) | (simp only; omega), by first | (simp; done) | (simp only; omega), by first | decide | (simp; done), by first | decide | (simp; done), by first | decide | (simp; done)⟩
      simp [rbytes]
      omega
    · right
      refine ⟨16 * t, by omega, ?_⟩
      rw [okQ_eq]
      unfold candS
      rw [show 16 * t % 16 = 0 from by omega, show 16 * t / 16 = t from by omega]
      refine ok_okB (.inr (.inr (.inr (.inr (.inr (.inr (.inr (.inr (.inr ⟨y, ?_, e, ?_⟩)))))))))
      · left; first | (simp; done) | (simp; omega)
      · subst ho; first | (simp; done) | (simp; omega)

theorem put_some {o : OpV} (hd : IsBytes o.d) {q : Nat} (h : putQ o = some q) : rvalid o = true ∧ candS o q = rbytes o := by
  unfold putQ at h
  rw [List.find?_range_eq_some] at h
  obtain ⟨h1, h2, h3⟩ := h
  have hq := List.mem_range.1 h2
  rcases cand_or hd hq h1 with ⟨he, b1, b2, b3, b4, b5, b6, b7⟩ | ⟨r, hr, hk⟩
  · refine ⟨?_, he⟩
    have hk := okB_ok (show okB o ((16 * o.c + (q % 16 : Nat)) % 256 :: tailS o (q / 16)) = true from h1)
    have hc := ok_count hk
    have ho := ((okB_iff _ _).1 (show okB o (candS o q) = true from h1)).2.1
    unfold rvalid
    rw [← he, Bool.and_eq_true, Bool.and_eq_true, decide_eq_true_eq, decide_eq_true_eq, opEq_iff]
    exact ⟨⟨⟨b1, b2, b3, b4, b5, b6, b7⟩, ho⟩, hc⟩
  · have := h3 r hr
    rw [hk] at this
    cases this

theorem ok_put {o : OpV} {q : Nat} (hq : q < 96) (h : okQ o q = true) : putQ o ≠ none := by
  intro hn
  unfold putQ at hn
  rw [List.find?_eq_none] at hn
  exact hn q (List.mem_range.2 hq) h

theorem valid_put {o : OpV} (h : rvalid o = true) : putQ o ≠ none := by
  unfold rvalid at h
  rw [Bool.and_eq_true, Bool.and_eq_true, decide_eq_true_eq, decide_eq_true_eq, opEq_iff] at h
  obtain ⟨⟨⟨b1, b2, b3, b4, b5, b6, b7⟩, ho⟩, hc⟩ := h
  unfold rbytes at ho
  by_cases k1 : o.k = 1
  · rw [if_pos k1] at ho
    refine ok_put (q := 2) (by omega) (ok_okB (.inl ⟨?_, rfl, ?_⟩))
    · rw [← ho]; simp [opS, nth_zero]
    · rw [← ho]; simp [opS, nth_zero]
  rw [if_neg k1] at ho
  by_cases k2 : o.k = 2
  · rw [if_pos k2] at ho
    have e : (16 * o.c + 3) % 256 % 16 = 3 := by omega
    simp [opS, nth_zero, e] at ho
    refine ok_put (q := 3) (by omega) (ok_okB (.inr (.inl ⟨?_, rfl, ?_⟩)))
    · first | (simp; done) | (simp; omega)
    · rw [← ho]; first | (simp; done) | (simp; omega)
  rw [if_neg k2] at ho
  by_cases k3 : o.k = 3
  · rw [if_pos k3] at ho
    by_cases hn : 255 < o.n
    · rw [if_pos hn] at ho
      simp [opS, nth_zero, nth_succ] at ho
      have hoc : o.c = 0 := by rw [← ho]
      refine ok_put (q := 74) (by omega) (ok_okB (.inr (.inr (.inr (.inl ⟨_, _, ?_, rfl, ?_⟩)))))
      · simp [hoc]
      · exact ho.symm
    · rw [if_neg hn] at ho
      simp [opS, nth_zero, nth_succ] at ho
      have hoc : o.c = 0 := by rw [← ho]
      refine ok_put (q := 20) (by omega) (ok_okB (.inr (.inr (.inl ⟨_, ?_, rfl, ?_⟩))))
      · simp [hoc]
      · exact ho.symm
  rw [if_neg k3] at ho
  by_cases k4 : o.k = 4
  · rw [if_pos k4] at ho
    have e : (16 * o.c + 5) % 256 % 16 = 5 := by omega
    have el : (o.d.length : Int) % 256 = o.d.length := by omega
    simp [opS, nth_zero, nth_succ, e, el, takeZ_all] at ho
    refine ok_put (q := 85) (by omega) (ok_okB (.inr (.inr (.inr (.inr (.inl ⟨o.d, ?_, ?_, ?_⟩))))))
    · first | (simp; done) | (simp; omega)
    · simp [tailS, el]
    · rw [← ho]; first | (simp; done) | (simp; omega)
  rw [if_neg k4] at ho
  by_cases k5 : o.k = 5
  · rw [if_pos k5] at ho
    have e : (16 * o.c + 6) % 256 % 16 = 6 := by omega
    simp [opS, nth_zero, nth_succ, e] at ho
    refine ok_put (q := 22) (by omega) (ok_okB (.inr (.inr (.inr (.inr (.inr (.inl ⟨o.n % 256, ?_, rfl, ?_⟩)))))))
    · first | (simp; done) | (simp; omega)
    · refine ho.symm.trans ?_; simp
  rw [if_neg k5] at ho
  by_cases k7 : o.k = 7
  · rw [if_pos k7] at ho
    have e : (16 * o.c + 8) % 256 % 16 = 8 := by omega
    simp [opS, nth_zero, nth_succ, e] at ho
    refine ok_put (q := 40) (by omega) (ok_okB (.inr (.inr (.inr (.inr (.inr (.inr (.inr (.inl ⟨o.m % 256, ?_, rfl, ?_⟩)))))))))
    · simp
    · refine ho.symm.trans ?_; simp
  rw [if_neg k7] at ho
  by_cases k8 : o.k = 8
  · rw [if_pos k8] at ho
    have e : (16 * o.c + 9) % 256 % 16 = 9 := by omega
    simp [opS, nth_zero, nth_succ, e] at ho
    refine ok_put (q := 25) (by omega) (ok_okB (.inr (.inr (.inr (.inr (.inr (.inr (.inr (.inr (.inl ⟨o.n % 256, ?_, rfl, ?_⟩))))))))))
    · simp
    · refine ho.symm.trans ?_; simp
  rw [if_neg k8] at ho
  by_cases hm : o.m = 0
  · rw [if_pos hm] at ho
    have e : 16 * o.c % 256 % 16 = 0 := by omega
    simp [opS, nth_zero, nth_succ, e] at ho
    refine ok_put (q := 16) (by omega) (ok_okB (.inr (.inr (.inr (.inr (.inr (.inr (.inr (.inr (.inr ⟨o.n % 256, ?_, rfl, ?_⟩))))))))))
    · left; first | (simp; done) | (simp; omega)
    · refine ho.symm.trans ?_; simp
  · rw [if_neg hm] at ho
    have e : (16 * o.c + 7) % 256 % 16 = 7 := by omega
    simp [opS, nth_zero, nth_succ, e] at ho
    refine ok_put (q := 55) (by omega) (ok_okB (.inr (.inr (.inr (.inr (.inr (.inr (.inl ⟨o.n % 256, o.m % 256, ?_, rfl, ?_⟩))))))))
    · simp
    · refine ho.symm.trans ?_; simp

theorem put_isSome {o : OpV} (hd : IsBytes o.d) : (putQ o).isSome = rvalid o := by
  cases h : putQ o with
  | none =>
    cases hv : rvalid o with
    | false => rfl
    | true => exact absurd h (valid_put hv)
  | some q => rw [(put_some hd h).1]; rfl

end Go.Proofs.Ytpmlipcpohajgaa
