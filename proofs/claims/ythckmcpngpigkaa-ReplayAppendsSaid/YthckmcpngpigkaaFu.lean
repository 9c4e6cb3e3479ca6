/-
  The plain law of ReplayFulls: as many moves as one likes, and what is read again.
-/
import Derived.Test.YthckmcpngpigkaaAny
namespace Go.Proofs.Ythckmcpngpigkaa

/-- The move number i. -/
def fmv (i : Nat) : MoveV := ⟨(i : Int) % 2, 1, 0, 0, 0, i⟩
/-- As many moves as one likes. -/
def fst_ (key : Int) : Nat → St
  | 0 => st0 key
  | i + 1 => (fst_ key i).add (fmv i)
theorem fmv_kept (i : Nat) : keptB (fmv i) = true := by
  unfold keptB fmv
  refine decide_eq_true ?_
  dsimp only
  omega
theorem f_last (key : Int) (i : Nat) : (fst_ key i).last = ((i - 1 : Nat) : Int) := by
  cases i with
  | zero => rfl
  | succ i => rfl
theorem f_mv (key : Int) (i : Nat) : (fst_ key i).mv.length = i := by
  induction i with
  | zero => rfl
  | succ i ih => simp [fst_, St.add, ih]
theorem f_key (key : Int) (i : Nat) : (fst_ key i).key = key := by
  induction i with
  | zero => rfl
  | succ i ih => exact ih
theorem f_sum {key : Int} (hk : 0 ≤ key ∧ key ≤ 4294967295) (i : Nat) : 0 ≤ (fst_ key i).sum ∧ (fst_ key i).sum ≤ 4294967295 := by
  cases i with
  | zero => exact hk
  | succ i =>
    have : ∀ (xs : List Int) (s : Int), xs ≠ [] → 0 ≤ sumS s xs ∧ sumS s xs ≤ 4294967295 := by
      intro xs
      induction xs with
      | nil => intro s h; exact absurd rfl h
      | cons x xs ih =>
        intro s _
        cases xs with
        | nil => exact sumStep_bd s x
        | cons y ys => exact ih (sumStep s x) (by simp)
    exact this _ _ (by simp [hdrS])
theorem f_bytes {key : Int} (hk : 0 ≤ key ∧ key ≤ 4294967295) (i : Nat) : IsBytes (fst_ key i).data := by
  induction i with
  | zero => intro x hx; cases hx
  | succ i ih =>
    intro x hx
    rcases List.mem_append.1 hx with hx | hx
    · exact ih x hx
    · exact rec_bytes (fmv_kept i) (f_sum hk i).1 (f_sum hk i).2 x hx
theorem f_rec_len (key : Int) (i : Nat) (hi : i ≤ 100000) : (recS (fst_ key i).last (fst_ key i).sum (fmv i)).length ≤ 24 ∧ 9 ≤ (recS (fst_ key i).last (fst_ key i).sum (fmv i)).length := by
  have h1 := hdr_le (t := (fst_ key i).last) (fmv_kept i) (by rw [f_last]; omega) (by simp only [fmv]; omega)
  have h2 := rec_len (fst_ key i).last (fst_ key i).sum (fmv i)
  have h3 := hdr_pos (fst_ key i).last (fmv i)
  omega
theorem f_len (key : Int) (i : Nat) (hi : i ≤ 100000) : (fst_ key i).data.length ≤ 24 * i := by
  induction i with
  | zero => simp [fst_, st0]
  | succ i ih =>
    have h1 := ih (by omega)
    have h2 := f_rec_len key i (by omega)
    simp only [fst_, St.add, List.length_append]
    omega
theorem f_more (key : Int) (i j : Nat) : ∃ ys, (fst_ key (i + j)).data = (fst_ key i).data ++ ys := by
  induction j with
  | zero => exact ⟨[], by simp⟩
  | succ j ih =>
    obtain ⟨ys, h⟩ := ih
    exact ⟨ys ++ recS (fst_ key (i + j)).last (fst_ key (i + j)).sum (fmv (i + j)), by
      rw [← Nat.add_assoc]
      simp only [fst_, St.add]
      rw [h, List.append_assoc]⟩
theorem f_isrec (key : Int) {i m : Nat} (h : i < m) (hm : m ≤ 100000) : IsRec (fst_ key i).last (fst_ key i).sum (fmv i) ((fst_ key m).data.drop (fst_ key i).data.length) := by
  obtain ⟨ys, hy⟩ := f_more key (i + 1) (m - (i + 1))
  rw [show i + 1 + (m - (i + 1)) = m by omega] at hy
  refine ⟨fmv_kept i, by rw [f_last]; simp only [fmv]; omega, by simp only [fmv]; omega, ⟨ys, ?_⟩⟩
  rw [hy]
  simp only [fst_, St.add, List.append_assoc]
  rw [List.drop_left]
theorem f_read_from (key : Int) (m : Nat) (hm : m ≤ 100000) : ∀ (k i : Nat), i + k = min m 4096 → readS (fst_ key i) ((fst_ key m).data.drop (fst_ key i).data.length) = fst_ key (min m 4096) := by
  intro k
  induction k with
  | zero =>
    intro i hi
    have hi' : i = min m 4096 := by omega
    rcases Nat.lt_or_ge i m with h | h
    · have h4 : ¬ (fst_ key i).mv.length < 4096 := by rw [f_mv]; omega
      rw [readS_full h4, hi']
    · have : i = m := by omega
      have hd : (fst_ key m).data.drop (fst_ key i).data.length = [] := by rw [this]; simp
      rw [hd, readS_stop (by rfl), hi']
  | succ k ih =>
    intro i hi
    have hlt : i < m := by omega
    have hr := f_isrec key hlt hm
    have hacc := acc_of_rec (by rw [f_last]; omega) hr
    rw [readS_step hacc (by rw [f_mv]; omega), List.drop_drop, ← ih (i + 1) (by omega)]
    have e : (fst_ key (i + 1)).data.length = (fst_ key i).data.length + (recS (fst_ key i).last (fst_ key i).sum (fmv i)).length := by simp [fst_, St.add]
    rw [e]
    rfl
theorem f_read (key : Int) (m : Nat) (hm : m ≤ 100000) : readS (st0 key) (fst_ key m).data = fst_ key (min m 4096) := by
  have := f_read_from key m hm (min m 4096) 0 (by omega)
  simpa [fst_, st0] using this
theorem f_pre (key : Int) (m : Nat) : (fst_ key m).data.take (fst_ key (min m 4096)).data.length = (fst_ key (min m 4096)).data ∧ (fst_ key (min m 4096)).data.length ≤ (fst_ key m).data.length := by
  obtain ⟨ys, hy⟩ := f_more key (min m 4096) (m - min m 4096)
  rw [show min m 4096 + (m - min m 4096) = m by omega] at hy
  rw [hy]
  simp
theorem f_err (key : Int) (i : Nat) : errS (fst_ key (min i 4096)) (fmv i) = if i < 4096 then 0 else 7 := by
  unfold errS
  rw [if_neg, f_mv]
  · by_cases h : i < 4096
    · rw [if_pos (by omega), if_pos h]
    · rw [if_neg (by omega), if_neg h]
  · rintro (h | h)
    · rw [fmv_kept] at h; cases h
    · rw [f_last] at h
      simp only [fmv] at h
      omega
theorem f_madd (key : Int) (i : Nat) : (fst_ key (min i 4096)).madd (fmv i) = fst_ key (min (i + 1) 4096) := by
  unfold St.madd
  rw [f_err]
  by_cases h : i < 4096
  · rw [if_pos h, if_pos rfl, show min i 4096 = i by omega, show min (i + 1) 4096 = i + 1 by omega]
    rfl
  · rw [if_neg h, if_neg (by decide), show min i 4096 = 4096 by omega, show min (i + 1) 4096 = 4096 by omega]
theorem fmv_good {i : Nat} (h : i ≤ 100000) : GoodM (fmv i) := by
  refine ⟨?_, ?_⟩ <;> simp only [fmv] <;> omega
theorem f_sum_next (key : Int) (i : Nat) : sumS (fst_ key i).sum ((recS (fst_ key i).last (fst_ key i).sum (fmv i)).take ((recS (fst_ key i).last (fst_ key i).sum (fmv i)).length - 4)) = (fst_ key (i + 1)).sum := by
  rw [rec_len, Nat.add_sub_cancel]
  unfold recS
  rw [List.take_left]
  rfl
end Go.Proofs.Ythckmcpngpigkaa
