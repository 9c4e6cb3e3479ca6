/-
  The plain laws of frames: Read inverts Write, Write inverts Read, a changed byte changes the check.
-/
import Derived.Test.YtbcleifhadkecaaHelp
set_option linter.unusedSimpArgs false
set_option linter.unusedVariables false
namespace Go.Proofs.Ytbcleifhadkecaa

def IsByte (x : Int) : Prop := 0 ≤ x ∧ x ≤ 255
theorem nth_append_last (xs : List Int) (c : Int) : nth (xs ++ [c]) xs.length = c := by simp [nth, List.getD]
theorem take_append_last (xs : List Int) (c : Int) : (xs ++ [c]).take xs.length = xs := by simp

theorem rd_checked (body : List Int) (h0 : body ≠ []) (hl : body.length + 1 ≤ 65541) : rd (body ++ [chk body]) = rdBody (nth body 0) (body.drop 1) := by
  have hb : 0 < body.length := List.length_pos_iff.2 h0
  unfold rd
  have hlen : (body ++ [chk body]).length = body.length + 1 := by simp
  rw [hlen, if_neg (by omega), if_neg (by omega), Nat.add_sub_cancel, take_append_last, nth_append_last, if_neg (by simp)]
  congr 1
  cases body with
  | nil => exact absurd rfl h0
  | cons a l => rfl

theorem be_seq (s : Int) (l : List Int) (bs : 0 ≤ s ∧ s ≤ 65535) : be ((seqBytes s ++ l).take 2) = s := by
  simp [seqBytes, be]
  omega
theorem be_num (m : Int) (l : List Int) (bm : 0 ≤ m ∧ m ≤ 4294967295) : be ((numBytes m ++ l).take 4) = m := by
  simp [numBytes, be]
  omega

theorem wr0_length (k s m : Int) (xs : List Int) : (wr0 k s m xs).length = 1 + (if seqB k = true then 2 else 0) + (if numB k = true then 4 else 0) + xs.length := by
  unfold wr0 headBytes
  split <;> split <;> simp [seqBytes, numBytes] <;> omega
theorem wr_length (k s m : Int) (xs : List Int) : (wr k s m xs).length = 2 + (if seqB k = true then 2 else 0) + (if numB k = true then 4 else 0) + xs.length := by
  unfold wr
  rw [List.length_append, wr0_length, List.length_singleton]
  omega

/-- Read of what Write has written. -/
theorem rd_wr (k s m : Int) (xs : List Int) (hk : 0 ≤ k ∧ k ≤ 255) (bs : 0 ≤ s ∧ s ≤ 65535) (bm : 0 ≤ m ∧ m ≤ 4294967295) (hs : seqB k = false → s = 0) (hm : numB k = false → m = 0) (hl : (wr k s m xs).length ≤ 65541) :
    rd (wr k s m xs) = if validB k s m xs.length = true then ⟨0, k, s, m, xs⟩ else rdNo 6 := by
  have hl' := wr0_length k s m xs
  have hne : wr0 k s m xs ≠ [] := by
    intro h
    rw [h] at hl'
    simp at hl'
    omega
  have h1 : rd (wr k s m xs) = rdBody (nth (wr0 k s m xs) 0) ((wr0 k s m xs).drop 1) := by
    unfold wr at hl ⊢
    refine rd_checked _ hne ?_
    simpa using hl
  rw [h1]
  have hk' : k % 256 = k := by omega
  rcases h2 : seqB k with _ | _
  · have e := hs h2
    subst e
    rcases h3 : numB k with _ | _
    · have e := hm h3
      subst e
      have h4 : wr0 k 0 0 xs = k :: xs := by simp [wr0, headBytes, h2, h3, hk']
      rw [h4]
      simp [nth, rdBody, h2, h3]
    · have h4 : wr0 k 0 m xs = k :: (numBytes m ++ xs) := by simp [wr0, headBytes, h2, h3, hk']
      rw [h4]
      have h5 := be_num m xs bm
      have h6 : ¬ (numBytes m ++ xs).length < 4 := by simp [numBytes]
      have h7 : (numBytes m ++ xs).drop 4 = xs := by simp [numBytes]
      simp only [nth, List.getD_cons_zero, List.drop_succ_cons, List.drop_zero, rdBody, h2, h3, Bool.false_eq_true, false_and, false_or, true_and, if_false, if_true, h5, h6, h7]
  · have h3 := seq_num k h2
    have e := hm h3
    subst e
    have h4 : wr0 k s 0 xs = k :: (seqBytes s ++ xs) := by simp [wr0, headBytes, h2, h3, hk']
    rw [h4]
    have h5 := be_seq s xs bs
    have h6 : ¬ (seqBytes s ++ xs).length < 2 := by simp [seqBytes]
    have h7 : (seqBytes s ++ xs).drop 2 = xs := by simp [seqBytes]
    simp only [nth, List.getD_cons_zero, List.drop_succ_cons, List.drop_zero, rdBody, h2, h3, Bool.false_eq_true, false_and, or_false, true_and, if_false, if_true, h5, h6, h7]

theorem seq_be (a b : Int) (ha : IsByte a) (hb : IsByte b) : seqBytes (be [a, b]) = [a, b] := by
  unfold IsByte at *
  simp [seqBytes, be]
  omega
theorem num_be (a b c d : Int) (ha : IsByte a) (hb : IsByte b) (hc : IsByte c) (hd : IsByte d) : numBytes (be [a, b, c, d]) = [a, b, c, d] := by
  unfold IsByte at *
  simp [numBytes, be]
  omega

theorem split_last (xs : List Int) (n : Nat) (hn : xs.length = n + 1) : xs = xs.take n ++ [nth xs n] := by
  have hg : nth xs n = xs[n]'(by omega) := by simp [nth, List.getD, List.getElem?_eq_getElem (show n < xs.length by omega)]
  rw [hg, ← List.take_succ_eq_append_getElem (by omega), List.take_of_length_le (by omega)]

theorem be4_bd (xs : List Int) (h : IsBytes xs) : 0 ≤ be (xs.take 4) ∧ be (xs.take 4) ≤ 4294967295 := by
  match xs, h with
  | [], _ => decide
  | [a], h =>
    have ha := h a (by simp)
    simp [be]; omega
  | [a, b], h =>
    have ha := h a (by simp)
    have hb := h b (by simp)
    simp [be]; omega
  | [a, b, c], h =>
    have ha := h a (by simp)
    have hb := h b (by simp)
    have hc := h c (by simp)
    simp [be]; omega
  | a :: b :: c :: d :: l, h =>
    have ha := h a (by simp)
    have hb := h b (by simp)
    have hc := h c (by simp)
    have hd := h d (by simp)
    simp [be]; omega

theorem z16 : (0 : Int) ≤ 0 ∧ (0 : Int) ≤ 65535 := by decide
theorem z32 : (0 : Int) ≤ 0 ∧ (0 : Int) ≤ 4294967295 := by decide
theorem two_of (R : List Int) (h : 2 ≤ R.length) : ∃ a b l, R = a :: b :: l := by
  match R, h with
  | a :: b :: l, _ => exact ⟨a, b, l, rfl⟩
theorem four_of (R : List Int) (h : 4 ≤ R.length) : ∃ a b c d l, R = a :: b :: c :: d :: l := by
  match R, h with
  | a :: b :: c :: d :: l, _ => exact ⟨a, b, c, d, l, rfl⟩

def BodyOk (k : Int) (R : List Int) (r : Rd) : Prop :=
  r.er = 0 → validB r.k r.s r.m r.d.length = true ∧ wr0 r.k r.s r.m r.d = k :: R ∧ (0 ≤ r.s ∧ r.s ≤ 65535) ∧ (0 ≤ r.m ∧ r.m ≤ 4294967295) ∧ r.d.length ≤ R.length ∧ IsBytes r.d
theorem bodyOk_no (k : Int) (R : List Int) (e : Int) (he : e ≠ 0) : BodyOk k R (rdNo e) := fun h => absurd h he

theorem body_wr (k : Int) (R : List Int) (hk : IsByte k) (hR : IsBytes R) : BodyOk k R (rdBody k R) := by
  have hk' : k % 256 = k := by unfold IsByte at hk; omega
  rcases h2 : seqB k with _ | _
  · rcases h3 : numB k with _ | _
    · simp only [rdBody, h2, h3, Bool.false_eq_true, false_and, or_self, if_false]
      by_cases hv : validB k 0 0 R.length = true
      · rw [if_pos hv]
        exact fun _ => ⟨hv, by simp [wr0, headBytes, h2, h3, hk'], z16, z32, Nat.le_refl _, hR⟩
      · rw [if_neg hv]
        exact bodyOk_no k R 6 (by decide)
    · simp only [rdBody, h2, h3, Bool.false_eq_true, false_and, false_or, true_and, if_false, if_true]
      by_cases h4 : R.length < 4
      · rw [if_pos h4]
        exact bodyOk_no k R 6 (by decide)
      rw [if_neg h4]
      by_cases hv : validB k 0 (be (R.take 4)) (R.drop 4).length = true
      · rw [if_pos hv]
        refine fun _ => ⟨hv, ?_, z16, be4_bd R hR, by simp, fun z hz => hR z (List.mem_of_mem_drop hz)⟩
        obtain ⟨a, b, c, d, l, rfl⟩ := four_of R (by omega)
        have e := num_be a b c d (hR a (by simp)) (hR b (by simp)) (hR c (by simp)) (hR d (by simp))
        simp [wr0, headBytes, h2, h3, hk', e]
      · rw [if_neg hv]
        exact bodyOk_no k R 6 (by decide)
  · have h3 := seq_num k h2
    simp only [rdBody, h2, h3, Bool.false_eq_true, false_and, or_false, true_and, if_false, if_true]
    by_cases h4 : R.length < 2
    · rw [if_pos h4]
      exact bodyOk_no k R 6 (by decide)
    rw [if_neg h4]
    by_cases hv : validB k (be (R.take 2)) 0 (R.drop 2).length = true
    · rw [if_pos hv]
      refine fun _ => ⟨hv, ?_, be2_bd R hR, z32, by simp, fun z hz => hR z (List.mem_of_mem_drop hz)⟩
      obtain ⟨a, b, l, rfl⟩ := two_of R (by omega)
      have e := seq_be a b (hR a (by simp)) (hR b (by simp))
      simp [wr0, headBytes, h2, h3, hk', e]
    · rw [if_neg hv]
      exact bodyOk_no k R 6 (by decide)

/-- Write of what Read has read. -/
theorem wr_rd (xs : List Int) (hx : IsBytes xs) (h : (rd xs).er = 0) :
    validB (rd xs).k (rd xs).s (rd xs).m (rd xs).d.length = true ∧ wr (rd xs).k (rd xs).s (rd xs).m (rd xs).d = xs ∧ (0 ≤ (rd xs).s ∧ (rd xs).s ≤ 65535) ∧ (0 ≤ (rd xs).m ∧ (rd xs).m ≤ 4294967295) ∧ (rd xs).d.length ≤ 65541 := by
  by_cases h1 : 65541 < xs.length
  · unfold rd at h
    rw [if_pos h1] at h
    exact absurd h (by decide)
  by_cases h2 : xs.length < 2
  · unfold rd at h
    rw [if_neg h1, if_pos h2] at h
    exact absurd h (by decide)
  by_cases h3 : chk (xs.take (xs.length - 1)) ≠ nth xs (xs.length - 1)
  · unfold rd at h
    rw [if_neg h1, if_neg h2, if_pos h3] at h
    exact absurd h (by decide)
  have hrd : rd xs = rdBody (nth xs 0) ((xs.take (xs.length - 1)).drop 1) := by
    unfold rd
    rw [if_neg h1, if_neg h2, if_neg h3]
  obtain ⟨n, hn⟩ : ∃ n, xs.length = n + 1 := ⟨xs.length - 1, by omega⟩
  have hsp := split_last xs n hn
  have h3' : chk (xs.take n) = nth xs n := by
    rw [hn] at h3
    simpa using h3
  have htl : (xs.take n).length = n := by rw [List.length_take]; omega
  obtain ⟨k, R, hkR⟩ : ∃ k R, xs.take n = k :: R := by
    cases hc : xs.take n with
    | nil =>
      rw [hc] at htl
      simp at htl
      omega
    | cons k R => exact ⟨k, R, rfl⟩
  have hk0 : nth xs 0 = k := by
    rw [hsp, hkR]
    rfl
  have hR : IsBytes R := fun z hz => hx z (by rw [hsp, hkR]; simp [hz])
  have hkb : IsByte k := hx k (by rw [hsp, hkR]; simp)
  have hRl : R.length + 2 ≤ 65541 := by
    rw [hkR] at htl
    simp at htl
    omega
  rw [hn, Nat.add_sub_cancel, hk0, hkR] at hrd
  simp only [List.drop_succ_cons, List.drop_zero] at hrd
  rw [hrd] at h ⊢
  obtain ⟨q1, q2, q3, q4, q5, _⟩ := body_wr k R hkb hR h
  refine ⟨q1, ?_, q3, q4, by omega⟩
  unfold wr
  rw [q2, ← hkR, h3']
  exact hsp.symm

/-- A changed byte changes the check. -/
theorem chkStep_inj (c c' x : Int) (hc : IsByte c) (hc' : IsByte c') (h : chkStep c x = chkStep c' x) : c = c' := by
  unfold chkStep IsByte at *
  omega
theorem chkStep_inj2 (c x x' : Int) (hx : IsByte x) (hx' : IsByte x') (h : chkStep c x = chkStep c x') : x = x' := by
  unfold chkStep IsByte at *
  omega
theorem foldl_inj (l : List Int) : ∀ (c c' : Int), IsByte c → IsByte c' → l.foldl chkStep c = l.foldl chkStep c' → c = c' := by
  induction l with
  | nil => exact fun c c' _ _ h => h
  | cons x l ih =>
    intro c c' hc hc' h
    exact chkStep_inj c c' x hc hc' (ih _ _ (chkStep_bd c x) (chkStep_bd c' x) h)
theorem chk_set (xs : List Int) (hx : IsBytes xs) (i : Nat) (hi : i < xs.length) (u : Int) (hu : IsByte u) (hne : u ≠ nth xs i) : chk (xs.set i u) ≠ chk xs := by
  intro h
  have hg : nth xs i = xs[i]'hi := by simp [nth, List.getD, List.getElem?_eq_getElem hi]
  have e1 : xs.set i u = xs.take i ++ u :: xs.drop (i + 1) := by rw [List.set_eq_take_append_cons_drop, if_pos hi]
  have e2 : xs = xs.take i ++ nth xs i :: xs.drop (i + 1) := by rw [hg, ← List.drop_eq_getElem_cons hi, List.take_append_drop]
  rw [e1] at h
  rw [congrArg chk e2] at h
  unfold chk at h
  rw [List.foldl_append, List.foldl_append, List.foldl_cons, List.foldl_cons] at h
  have h1 := foldl_inj _ _ _ (chkStep_bd _ _) (chkStep_bd _ _) h
  exact hne (chkStep_inj2 _ _ _ hu (hg ▸ hx _ (List.getElem_mem _)) h1)

/-- Bytes with their check, of which one is changed, are not read. -/
theorem rd_set (body : List Int) (hb : IsBytes body) (h1 : 1 ≤ body.length) (hl : body.length + 1 ≤ 65541) (i : Nat) (hi : i < body.length + 1) (u : Int) (hu : IsByte u) (hne : u ≠ nth (body ++ [chk body]) i) :
    rd ((body ++ [chk body]).set i u) = rdNo 10 := by
  have hlen : ((body ++ [chk body]).set i u).length = body.length + 1 := by simp
  unfold rd
  rw [hlen, if_neg (by omega), if_neg (by omega), Nat.add_sub_cancel]
  rw [if_pos ?_]
  rcases Nat.lt_or_ge i body.length with h | h
  · have e : (body ++ [chk body]).set i u = body.set i u ++ [chk body] := by rw [List.set_append, if_pos h]
    have hl2 : (body.set i u).length = body.length := by simp
    have hn : nth (body ++ [chk body]) i = nth body i := by simp [nth, List.getD, List.getElem?_append_left h]
    rw [hn] at hne
    rw [e, ← hl2, take_append_last, nth_append_last]
    exact chk_set body hb i h u hu hne
  · have hi' : i = body.length := by omega
    subst hi'
    have e : (body ++ [chk body]).set body.length u = body ++ [u] := by rw [List.set_append, if_neg (by omega)]; simp
    rw [nth_append_last] at hne
    rw [e, take_append_last, nth_append_last]
    exact fun h => hne h.symm

end Go.Proofs.Ytbcleifhadkecaa
