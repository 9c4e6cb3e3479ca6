/-
  Append and the model's add for any move.
-/
import Derived.Test.YthckmcpngpigkaaRgt
import Derived.Test.YthckmcpngpigkaaOpenMv
set_option linter.unusedSimpArgs false
set_option linter.unusedVariables false
namespace Go.Proofs.Ythckmcpngpigkaa
open Go.RowKit

/-- The error of a move that is appended. -/
def errS (q : St) (m : MoveV) : Int := if keptB m = false ∨ m.at_ < q.last then 2 else if q.mv.length < 4096 then 0 else 7
def St.madd (q : St) (m : MoveV) : St := if errS q m = 0 then q.add m else q
def St.madds (q : St) (l : List MoveV) : St := l.foldl St.madd q
theorem madd_len (q : St) (m : MoveV) : (q.madd m).mv.length ≤ q.mv.length + 1 := by
  unfold St.madd
  split
  · simp [St.add]
  · omega
theorem madds_snoc {l : List MoveV} {k : Nat} {m : MoveV} (q : St) (h : l[k]? = some m) : q.madds (l.take (k + 1)) = (q.madds (l.take k)).madd m := by
  obtain ⟨hk, rfl⟩ := List.getElem?_eq_some_iff.1 h
  rw [List.take_succ_eq_append_getElem hk]
  unfold St.madds
  rw [List.foldl_append]
  rfl
theorem madds_len (l : List MoveV) (q : St) : (q.madds l).mv.length ≤ q.mv.length + l.length := by
  induction l generalizing q with
  | nil => simp [St.madds]
  | cons m l ih =>
    have h1 := ih (q.madd m)
    have h2 := madd_len q m
    simp only [List.length_cons]
    simp only [St.madds, List.foldl_cons] at h1 ⊢
    omega
theorem madd_key (q : St) (m : MoveV) : (q.madd m).key = q.key := by
  unfold St.madd
  split <;> rfl
theorem fits_of {q : St} {m : MoveV} (hg : GoodM m) (h : ¬(keptB m = false ∨ m.at_ < q.last)) : fits q m := by
  refine ⟨?_, by omega, hg.2⟩
  cases hk : keptB m with
  | true => rfl
  | false => exact absurd (.inl hk) h

theorem ladd_any (p : Nat) (q : St) (y : MdC) (m : MoveV) (w : World) (h : Md w p q y) (hg : GoodM m) : Calls Try.prog 9 #[.pointer (some ⟨p, 0, none⟩), .agg #[.int .i64 m.p, .int .i64 m.why, .int .i64 m.k, .int .i64 m.id, .int .i64 m.to, .int .u64 m.at_]] w fun e w' => ∃ y', e = .returned (.int .i64 (errS q m)) ∧ Md w' p (q.madd m) y' ∧ OnlyF (fun i => i = p) w w' ∧ ∀ i, FootM p y' i → FootM p y i ∨ w.heap.size ≤ i := by
  by_cases h1 : keptB m = false ∨ m.at_ < q.last
  · have he : errS q m = 2 := if_pos h1
    have hq : q.madd m = q := by unfold St.madd; rw [he]; rfl
    rw [he, hq]
    by_cases hk : keptB m = true
    · exact (add_bad2 p q y m w h hk (by rcases h1 with h1 | h1 <;> simp_all)).mono fun e w' ⟨h2, h3⟩ => ⟨y, h2, h.below h3, OnlyF.of_below h3, fun i hi => .inl hi⟩
    · exact (add_bad1 p q y m w h (by simpa using hk)).mono fun e w' ⟨h2, h3⟩ => ⟨y, h2, h.below h3, OnlyF.of_below h3, fun i hi => .inl hi⟩
  · by_cases hc : q.mv.length < 4096
    · have he : errS q m = 0 := by unfold errS; rw [if_neg h1, if_pos hc]
      have hq : q.madd m = q.add m := by unfold St.madd; rw [he]; rfl
      rw [he, hq]
      exact (add_ok p q y m w h (fits_of hg h1) hc h.sep).mono fun e w' ⟨y', h2, h3, h4, h5⟩ => ⟨y', h2, h3, h4, fun i hi => (h5 i hi).imp (fun e => .inl e) id⟩
    · have he : errS q m = 7 := by unfold errS; rw [if_neg h1, if_neg hc]
      have hq : q.madd m = q := by unfold St.madd; rw [he]; rfl
      rw [he, hq]
      exact (add_full p q y m w h (fits_of hg h1) hc).mono fun e w' ⟨h2, h3⟩ => ⟨y, h2, h.below h3, OnlyF.of_below h3, fun i hi => .inl hi⟩
theorem app_any (B p : Nat) (q : St) (x : RpC) (m : MoveV) (w : World) (h : Rp w B p q x) (hg : GoodM m) : Calls Try.prog 12 #[.pointer (some ⟨p, 0, none⟩), .agg #[.int .i64 m.p, .int .i64 m.why, .int .i64 m.k, .int .i64 m.id, .int .i64 m.to, .int .u64 m.at_]] w fun e w' => ∃ x', e = .returned (.int .i64 (errS q m)) ∧ Rp w' B p (q.madd m) x' ∧ OnlyF (Foot p x) w w' ∧ ∀ i, Foot p x' i → Foot p x i ∨ w.heap.size ≤ i := by
  by_cases h1 : keptB m = false ∨ m.at_ < q.last
  · have he : errS q m = 2 := if_pos h1
    have hq : q.madd m = q := by unfold St.madd; rw [he]; rfl
    rw [he, hq]
    exact (app_bad B p q x m w h h1).mono fun e w' ⟨h2, h3⟩ => ⟨x, h2, h.below h3, OnlyF.of_below h3, fun i hi => .inl hi⟩
  · by_cases hc : q.mv.length < 4096
    · have he : errS q m = 0 := by unfold errS; rw [if_neg h1, if_pos hc]
      have hq : q.madd m = q.add m := by unfold St.madd; rw [he]; rfl
      rw [he, hq]
      exact app_ok B p q x m w h (fits_of hg h1) hc
    · have he : errS q m = 7 := by unfold errS; rw [if_neg h1, if_neg hc]
      have hq : q.madd m = q := by unfold St.madd; rw [he]; rfl
      rw [he, hq]
      exact (app_full B p q x m w h (fits_of hg h1) hc).mono fun e w' ⟨h2, h3⟩ => ⟨x, h2, h.below h3, OnlyF.of_below h3, fun i hi => .inl hi⟩
end Go.Proofs.Ythckmcpngpigkaa
