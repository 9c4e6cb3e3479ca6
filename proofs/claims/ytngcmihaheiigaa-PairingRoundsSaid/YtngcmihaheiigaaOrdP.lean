/-
  The plain law of the order: points within bounds, one order alone.
-/
import Derived.Test.YtngcmihaheiigaaSrt
set_option linter.unusedSimpArgs false
set_option linter.unusedVariables false
namespace Go.Proofs.Ytngcmihaheiigaa
open Go.RowKit

theorem rangeI_len (n : Nat) : (rangeI n).length = n := by simp [rangeI]
theorem rangeI_nodup (n : Nat) : (rangeI n).Nodup := by
  unfold rangeI
  rw [List.Nodup, List.pairwise_map]
  exact (List.nodup_range (n := n)).imp fun h e => h (by omega)
theorem R_asymm {pts : List Int} {a b : Int} (h : R pts a b) : ¬ R pts b a := by unfold R at *; omega
theorem R_total {pts : List Int} {a b : Int} (h : a ≠ b) : R pts a b ∨ R pts b a := by unfold R; omega
theorem perm_eq {pts : List Int} : ∀ {l m : List Int}, l.Perm m → l.Pairwise (R pts) → m.Pairwise (R pts) → l = m := by
  intro l
  induction l with
  | nil => intro m h _ _; exact (h.nil_eq)
  | cons a l ih =>
    intro m h hl hm
    cases m with
    | nil => exact absurd h.symm.nil_eq (by simp)
    | cons b m =>
      have hl' := List.pairwise_cons.1 hl
      have hm' := List.pairwise_cons.1 hm
      have hab : a = b := by
        rcases List.mem_cons.1 (h.mem_iff.1 (List.mem_cons_self ..)) with h1 | h1
        · exact h1
        · rcases List.mem_cons.1 (h.mem_iff.2 (List.mem_cons_self ..)) with h2 | h2
          · exact h2.symm
          · exact absurd (hm'.1 a h1) (R_asymm (hl'.1 b h2))
      subst hab
      rw [ih ((List.perm_cons a).1 h) hl'.2 hm'.2]

/-- The order of the players by buckets. -/
def bucket (n : Nat) (pts : List Int) (v : Nat) : List Int := (rangeI n).filter fun i => decide (ith pts i.toNat = v)
def ordS (n : Nat) (pts : List Int) : Nat → List Int
  | 0 => bucket n pts 0
  | m + 1 => bucket n pts (m + 1) ++ ordS n pts m
theorem range_pw (n : Nat) : (rangeI n).Pairwise (· < ·) := by
  unfold rangeI
  rw [List.pairwise_map]
  exact (List.pairwise_lt_range (n := n)).imp fun h => by omega
theorem bucket_pw (n : Nat) (pts : List Int) (v : Nat) : (bucket n pts v).Pairwise (R pts) := by
  unfold bucket
  rw [List.pairwise_filter]
  exact (range_pw n).imp fun h h1 h2 => by
    simp only [decide_eq_true_eq] at h1 h2
    unfold R; omega
theorem bucket_mem {n : Nat} {pts : List Int} {v : Nat} {i : Int} : i ∈ bucket n pts v ↔ i ∈ rangeI n ∧ ith pts i.toNat = v := by
  simp [bucket, List.mem_filter]
theorem ordS_mem {n : Nat} {pts : List Int} {m : Nat} {i : Int} : i ∈ ordS n pts m ↔ i ∈ rangeI n ∧ 0 ≤ ith pts i.toNat ∧ ith pts i.toNat ≤ m := by
  induction m with
  | zero =>
    simp only [ordS, bucket_mem]
    constructor
    · rintro ⟨h1, h2⟩; exact ⟨h1, by omega, by omega⟩
    · rintro ⟨h1, h2, h3⟩; exact ⟨h1, by omega⟩
  | succ m ih =>
    simp only [ordS, List.mem_append, bucket_mem, ih]
    constructor
    · rintro (⟨h1, h2⟩ | ⟨h1, h2, h3⟩)
      · exact ⟨h1, by omega, by omega⟩
      · exact ⟨h1, by omega, by omega⟩
    · rintro ⟨h1, h2, h3⟩
      rcases Int.lt_or_le (ith pts i.toNat) ((m + 1 : Nat) : Int) with h4 | h4
      · exact .inr ⟨h1, h2, by omega⟩
      · exact .inl ⟨h1, by omega⟩
theorem ordS_pw (n : Nat) (pts : List Int) (m : Nat) : (ordS n pts m).Pairwise (R pts) := by
  induction m with
  | zero => exact bucket_pw n pts 0
  | succ m ih =>
    rw [ordS, List.pairwise_append]
    refine ⟨bucket_pw n pts _, ih, fun a ha b hb => ?_⟩
    have h1 := (bucket_mem.1 ha).2
    have h2 := (ordS_mem.1 hb).2.2
    unfold R
    omega
theorem nodup_of_pw {pts : List Int} {l : List Int} (h : l.Pairwise (R pts)) : l.Nodup := by
  unfold List.Nodup
  exact h.imp fun {a b} h e => by subst e; exact R_asymm h h
theorem ordS_perm {n : Nat} {pts : List Int} {m : Nat} (h : PtB n m pts) : (ordS n pts m).Perm (rangeI n) := by
  rw [List.perm_ext_iff_of_nodup (nodup_of_pw (ordS_pw n pts m)) (rangeI_nodup n)]
  intro i
  rw [ordS_mem]
  constructor
  · exact fun h => h.1
  · intro hi
    have h1 := rangeI_mem hi
    have h2 := h.2 i.toNat (by omega)
    exact ⟨hi, h2.1, h2.2⟩
theorem ord_eq {n : Nat} {pts : List Int} {m : Nat} {ys : List Int} (h : PtB n m pts) (hp : ys.Perm (rangeI n)) (hs : ys.Pairwise (R pts)) : ys = ordS n pts m := perm_eq (hp.trans (ordS_perm h).symm) hs (ordS_pw n pts m)

/-! ### The points are bounded -/
theorem ptR_cons (acc : List Int) (d : D) (l : List D) (s : Int) (ss : List Int) : ptR acc (d :: l) (s :: ss) = ptR (ptD acc d s) l ss := rfl
theorem round_bound {n : Nat} {b : Int} : ∀ (l : List D) (ss : List Int) (acc : List Int), (∀ d ∈ l, DOk n d) → (plist l).Nodup → (∀ s ∈ ss, -1 ≤ s ∧ s ≤ 2) → acc.length = n →
    (∀ i, i < n → 0 ≤ ith acc i ∧ ith acc i ≤ b + 2 ∧ ((i : Int) ∈ plist l → ith acc i ≤ b)) → PtB n (b + 2) (ptR acc l ss) := by
  intro l
  induction l with
  | nil => intro ss acc _ _ _ hl h; exact ⟨hl, fun i hi => ⟨(h i hi).1, (h i hi).2.1⟩⟩
  | cons d l ih =>
    intro ss acc hd hn hs hl h
    cases ss with
    | nil => exact ⟨hl, fun i hi => ⟨(h i hi).1, (h i hi).2.1⟩⟩
    | cons s ss =>
      rw [ptR_cons]
      have hdd := hd d (List.mem_cons_self ..)
      have hss := hs s (List.mem_cons_self ..)
      unfold plist at hn
      rw [List.flatMap_cons, List.nodup_append] at hn
      obtain ⟨hn1, hn2, hn3⟩ := hn
      obtain ⟨a, ha⟩ : ∃ a : Nat, d.a = a := ⟨d.a.toNat, by have := hdd.1; omega⟩
      have han : a < n := by have := hdd.2.1; omega
      have hapl : (a : Int) ∈ d.pl := by unfold D.pl; split <;> simp [ha]
      have hab := (h a han).2.2 (by unfold plist; rw [List.flatMap_cons]; exact List.mem_append_left _ hapl)
      have ha0 := (h a han).1
      refine ih ss _ (fun d hd' => hd d (List.mem_cons_of_mem _ hd')) hn2 (fun s hs' => hs s (List.mem_cons_of_mem _ hs')) ?_ ?_
      · unfold ptD; split
        · exact hl
        · split <;> simp [hl]
      · intro i hi
        obtain ⟨h1, h2, h3⟩ := h i hi
        have hout : (i : Int) ∈ plist l → (i : Int) ∉ d.pl := fun hm hm' => hn3 _ hm' _ hm rfl
        have hin : (i : Int) ∈ plist l → ith acc i ≤ b := fun hm => h3 (by unfold plist; rw [List.flatMap_cons]; exact List.mem_append_right _ hm)
        unfold ptD
        split
        · exact ⟨h1, h2, hin⟩
        · rename_i hs1
          rw [ha, Int.toNat_natCast]
          split
          · rename_i hb0
            rw [ith_set (by omega)]
            split
            · rename_i hia
              subst hia
              exact ⟨by omega, by omega, fun hm => absurd hapl (hout hm)⟩
            · exact ⟨h1, h2, hin⟩
          · rename_i hb0
            obtain ⟨c, hc⟩ : ∃ c : Nat, d.b = c := ⟨d.b.toNat, by omega⟩
            have hcn : c < n := by rcases hdd.2.2 with h | h <;> omega
            have hcpl : (c : Int) ∈ d.pl := by unfold D.pl; rw [if_neg (by omega)]; simp [hc]
            have hcb := (h c hcn).2.2 (by unfold plist; rw [List.flatMap_cons]; exact List.mem_append_left _ hcpl)
            have hc0 := (h c hcn).1
            have hac : a ≠ c := by rcases hdd.2.2 with h | h <;> omega
            rw [hc, Int.toNat_natCast, ith_set (by simp; omega)]
            split
            · rename_i hic
              subst hic
              exact ⟨by omega, by omega, fun hm => absurd hcpl (hout hm)⟩
            · rw [ith_set (by omega)]
              split
              · rename_i hia
                subst hia
                exact ⟨by omega, by omega, fun hm => absurd hapl (hout hm)⟩
              · exact ⟨h1, h2, hin⟩
theorem plist_nodup {n : Nat} {l : List D} (h : RoundOk n l) : (plist l).Nodup := h.2.nodup_iff.2 (rangeI_nodup n)
theorem pts_bound {st : TS} (h : st.WF) : ∀ k, k ≤ st.rounds.length → PtB st.n (2 * k) (ptsK st.n st.rounds st.scores k) := by
  intro k
  induction k with
  | zero => intro _; exact PtB.zero st.n
  | succ k ih =>
    intro hk
    have h0 := ih (by omega)
    obtain ⟨l, hl⟩ : ∃ l, st.rounds[k]? = some l := ⟨_, List.getElem?_eq_getElem (by omega)⟩
    obtain ⟨s, hs⟩ : ∃ s, st.scores[k]? = some s := ⟨_, List.getElem?_eq_getElem (by rw [h.len]; omega)⟩
    rw [ptsK_succ hl hs]
    have hr := h.rnd l (List.mem_of_getElem? hl)
    have hsc := h.sco k l s hl hs
    have := round_bound (n := st.n) (b := 2 * k) l s (ptsK st.n st.rounds st.scores k) hr.1 (plist_nodup hr) hsc.2 h0.1 (fun i hi => by have := h0.2 i hi; omega)
    exact this.more (by omega)
theorem pts_bd {st : TS} (h : st.WF) : PtB st.n ((2 * st.rounds.length : Nat) : Int) (ptsS st.n st.rounds st.scores) := by
  have := pts_bound h st.rounds.length (Nat.le_refl _)
  rw [ptsK_all (Nat.le_refl _)] at this
  exact this.more (by omega)
/-- The order of a tournament. -/
def TS.ord (st : TS) : List Int := ordS st.n (ptsS st.n st.rounds st.scores) (2 * st.rounds.length)
theorem TS.ord_perm {st : TS} (h : st.WF) : st.ord.Perm (rangeI st.n) := ordS_perm (pts_bd h)
end Go.Proofs.Ytngcmihaheiigaa
