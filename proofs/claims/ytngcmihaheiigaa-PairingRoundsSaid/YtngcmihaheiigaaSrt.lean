/-
  The sort of the players: cmp.Compare, the closure, the insertion sort.
-/
import Derived.Test.YtngcmihaheiigaaPts
set_option linter.unusedSimpArgs false
set_option linter.unusedVariables false
namespace Go.Proofs.Ytngcmihaheiigaa
open Go.RowKit

def cmpI (a b : Int) : Int := if a < b then -1 else if b < a then 1 else 0
set_option maxHeartbeats 400000 in
theorem nan_any (a : Int) (w : World) : Calls Try.prog 47 #[.int .i64 a] w fun e w' => e = .returned (.bool false) ∧ w = w' := by
  go_enter Try.func47, Try.ntmps47
  go_wp2
  go_ret
  exact ⟨by simp, rfl⟩
set_option maxHeartbeats 400000 in
theorem compare_any (a b : Int) (w : World) : Calls Try.prog 35 #[.int .i64 a, .int .i64 b] w fun e w' => e = .returned (.int .i64 (cmpI a b)) ∧ w = w' := by
  go_enter Try.func35, Try.ntmps35
  go_wp2_with fail
  refine (nan_any a _).mono ?_
  rintro e w1 ⟨rfl, rfl⟩
  go_wp2_with fail
  refine (nan_any b _).mono ?_
  rintro e w1 ⟨rfl, rfl⟩
  rcases Int.lt_trichotomy a b with h | h | h
  · have hc : cmpI a b = -1 := if_pos h
    have HC := Lib.hid hc
    clear hc
    go_wp2
    go_ret
    exact ⟨by rw [HC.out]; rfl, rfl⟩
  · subst h
    have hc : cmpI a a = 0 := by unfold cmpI; simp
    have HC := Lib.hid hc
    clear hc
    have h1 : decide (a < a) = false := decide_eq_false (by omega)
    go_wp2
    go_ret
    exact ⟨by rw [HC.out]; rfl, rfl⟩
  · have hc : cmpI a b = 1 := by unfold cmpI; rw [if_neg (by omega), if_pos h]
    have HC := Lib.hid hc
    clear hc
    have h1 : decide (a < b) = false := decide_eq_false (by omega)
    go_wp2
    go_ret
    exact ⟨by rw [HC.out]; rfl, rfl⟩

/-- What the sort's closure reads: the points, in a box. -/
structure Box (w : World) (bx gp : Nat) (n : Nat) (pts : List Int) : Prop where
  blk : Blk w bx 37 #[.slice (some ⟨gp, 0, none⟩) n n]
  own : Reads w 1 (some ⟨gp, 0, none⟩) n (ics pts)
theorem Box.below {w w' : World} {bx gp n : Nat} {pts : List Int} (h : Box w bx gp n pts) (hb : Below w.heap.size w w') : Box w' bx gp n pts := ⟨h.blk.call hb, h.own.below hb⟩
theorem Box.onlyF {F : Nat → Prop} {w w' : World} {bx gp n : Nat} {pts : List Int} (h : Box w bx gp n pts) (ho : OnlyF F w w') (h1 : ¬ F bx) (h2 : ¬ F gp) : Box w' bx gp n pts :=
  ⟨h.blk.onlyF ho h1, h.own.onlyF ho (fun _ i hi hf => h2 (by injection hi with hi; rw [← hi] at hf; exact hf))⟩

set_option maxHeartbeats 400000 in
theorem closure_any (bx gp n : Nat) (pts : List Int) (a b : Nat) (w : World) (h : Box w bx gp n pts) (ha : a < n) (hb : b < n) : Calls Try.prog 34 #[.int .i64 a, .int .i64 b, .pointer (some ⟨bx, 0, none⟩)] w fun e w' => e = .returned (.int .i64 (cmpI (ith pts b) (ith pts a))) ∧ Below w.heap.size w w' := by
  have h2 := h.own
  have h3 := h.blk.lt
  have h1 : w.cell? ⟨bx, 0, none⟩ = some (.slice (some ⟨gp, 0, none⟩) n n) := (h.blk.at_ 0).trans rfl
  clear h
  have ha' : (a : Int) < n := by omega
  have hb' : (b : Int) < n := by omega
  have c0 : ∀ s : Later w.heap.size w, s.W.cell? ⟨bx, 0, none⟩ = some (.slice (some ⟨gp, 0, none⟩) n n) := fun s => (s.h.cell (p := ⟨bx, 0, none⟩) h3).trans h1
  have ca : ∀ s : Later w.heap.size w, s.W.cell? ⟨gp, a, none⟩ = some (.int .i64 (ith pts a)) := fun s => by
    have := int_cell (h2.below s.h) ha
    rwa [ad_zero] at this
  have cb : ∀ s : Later w.heap.size w, s.W.cell? ⟨gp, b, none⟩ = some (.int .i64 (ith pts b)) := fun s => by
    have := int_cell (h2.below s.h) hb
    rwa [ad_zero] at this
  clear h1 h2 h3
  go_enter Try.func34, Try.ntmps34
  go_wp2
  refine wp_region_later (B := w.heap.size) (w0 := w) (Below.refl _ _) (by kernel_rfl) (by kernel_rfl) ?_
  repeat (go_big_quiet_step ((go_at_call 35; with_reducible exact Calls.later_same (compare_any _ _ _))))
  refine wpQuiet_nil ?_
  intro _ hw'
  obtain ⟨s, hw2⟩ := hw'
  subst hw2
  obtain ⟨w2, hb2⟩ := s
  go_wp2
  go_ret
  exact ⟨rfl, hb2⟩

/-- The order of two players. -/
def R (pts : List Int) (i j : Int) : Prop := ith pts j.toNat < ith pts i.toNat ∨ (ith pts i.toNat = ith pts j.toNat ∧ i < j)
theorem R_trans {pts : List Int} {a b c : Int} (h : R pts a b) (h' : R pts b c) : R pts a c := by unfold R at *; omega
/-- Midway in the sort: the number v goes to its place. -/
structure MidS (n : Nat) (pts : List Int) (i : Nat) (L M : List Int) : Prop where
  perm : (L ++ M).Perm (rangeI i)
  srt : (L ++ M).Pairwise (R pts)
  lt : ∀ y ∈ M, R pts i y
theorem rangeI_succ (n : Nat) : rangeI (n + 1) = rangeI n ++ [(n : Int)] := by simp [rangeI, List.range_succ]
theorem rangeI_mem {n : Nat} {x : Int} (h : x ∈ rangeI n) : 0 ≤ x ∧ x < n := by
  simp only [rangeI, List.mem_map, List.mem_range] at h
  obtain ⟨k, hk, rfl⟩ := h
  omega
theorem MidS.done {n : Nat} {pts : List Int} {i : Nat} {L M : List Int} (h : MidS n pts i L M) (hL : L = [] ∨ ∃ L' y, L = L' ++ [y] ∧ ¬ ith pts y.toNat < ith pts i) : (L ++ (i : Int) :: M).Perm (rangeI (i + 1)) ∧ (L ++ (i : Int) :: M).Pairwise (R pts) := by
  refine ⟨?_, ?_⟩
  · rw [rangeI_succ]
    exact (List.perm_middle.trans (List.Perm.cons _ h.perm)).trans (List.perm_append_singleton _ _).symm
  · have hs := h.srt
    rw [List.pairwise_append] at hs ⊢
    refine ⟨hs.1, List.pairwise_cons.2 ⟨h.lt, hs.2.1⟩, fun a ha b hb => ?_⟩
    rcases List.mem_cons.1 hb with rfl | hb
    · rcases hL with rfl | ⟨L', y, rfl, hy⟩
      · cases ha
      · have hyi : y < (i : Int) := (rangeI_mem (h.perm.mem_iff.1 (by simp))).2
        have hR : R pts y i := by unfold R; rw [Int.toNat_natCast]; omega
        rcases List.mem_append.1 ha with ha | ha
        · rw [List.pairwise_append] at hs
          exact R_trans (hs.1.2.2 a ha y (by simp)) hR
        · rw [List.mem_singleton] at ha
          rw [ha]; exact hR
    · exact hs.2.2 a ha b hb
theorem MidS.step {n : Nat} {pts : List Int} {i : Nat} {L M : List Int} {y : Int} (h : MidS n pts i (L ++ [y]) M) (hy : ith pts y.toNat < ith pts i) : MidS n pts i L (y :: M) :=
  ⟨by have := h.perm; simpa using this, by have := h.srt; simpa using this, fun z hz => by
    rcases List.mem_cons.1 hz with rfl | hz
    · unfold R; rw [Int.toNat_natCast]; omega
    · exact h.lt z hz⟩
theorem cmp_neg (a b : Int) : cmpI a b < 0 ↔ a < b := by unfold cmpI; split <;> (try split) <;> omega
theorem XOwns.drew' {w : World} {base : Nat} {e : TypeId} {size : Nat} {A : Option Addr} {n cap : Nat} {xs : List Value} (h : XOwns w base e size A n cap xs) : XOwns w.drew base e size A n cap xs := h.below (Below.refl _ _).drew
theorem ith_mid {L M : List Int} {v : Int} : ith (L ++ v :: M) L.length = v := by simp [ith]
theorem ith_last {L M : List Int} {y v : Int} : ith ((L ++ [y]) ++ v :: M) L.length = y := by simp [ith]
theorem swap_mid {L M : List Int} {y v : Int} : (((L ++ [y]) ++ v :: M).set (L.length + 1) y).set L.length v = L ++ v :: y :: M := by
  simp
/-- What the sort hands back. -/
def SortEnd (B g n c : Nat) (pts : List Int) (w : World) (e : Ending) (w' : World) : Prop := e = .returned (.tuple #[]) ∧ ∃ ys, XOwns w' B 3 1 (some ⟨g, 0, none⟩) n c (ics ys) ∧ ys.Perm (rangeI n) ∧ ys.Pairwise (R pts) ∧ OnlyF (fun i => i = g) w w'

set_option maxRecDepth 100000 in
set_option maxHeartbeats 1600000 in
theorem isort_any (B g n c bx gp : Nat) (pts : List Int) (w : World) (ho : XOwns w B 3 1 (some ⟨g, 0, none⟩) n c (ics (rangeI n))) (hbx : Box w bx gp n pts) (h1 : bx ≠ g) (h2 : gp ≠ g) (hn : 2 ≤ n ∧ n ≤ 14) :
    Calls Try.prog 49 #[.slice (some ⟨g, 0, none⟩) n c, .int .i64 0, .int .i64 n, .func (.func 34) #[] #[.pointer (some ⟨bx, 0, none⟩)]] w (SortEnd B g n c pts w) := by
  have HBX : Hid (∀ W, OnlyF (fun i => i = g) w W → Box W bx gp n pts) := Lib.hid fun W hf => hbx.onlyF hf h1 h2
  have HO := Lib.hid ho
  obtain ⟨hn1, hn2⟩ := hn
  clear ho hbx h1 h2
  go_enter Try.func49, Try.ntmps49
  go_wp2
  go_loopw [8] (fun i W => ∃ (k : Nat) (S : List Int), 1 ≤ k ∧ k ≤ n ∧ i = .int .i64 k ∧ XOwns W B 3 1 (some ⟨g, 0, none⟩) n c (ics (S ++ (rangeI n).drop k)) ∧ Hid (S.Perm (rangeI k) ∧ S.Pairwise (R pts)) ∧ OnlyF (fun i => i = g) w W) (fun i _ => n - (intOf i).toNat)
  case atStart => exact ⟨1, [0], Nat.le_refl _, by omega, rfl, by
    have h : [(0 : Int)] ++ (rangeI n).drop 1 = rangeI n := by
      obtain ⟨m, rfl⟩ : ∃ m, n = m + 1 := ⟨n - 1, by omega⟩
      simp [rangeI, List.range_succ_eq_map]
    rw [h]; exact HO.out, Lib.hid ⟨by simp [rangeI], by simp⟩, OnlyF.refl _⟩
  case round =>
    obtain ⟨k, S, hk1, hkn, rfl, hO, HS, hF⟩ := hrel
    generalize wr = wz at *
    have HO := Lib.hid hO
    clear hO
    by_cases hlt : k < n
    · have hlt' : (k : Int) < n := by omega
      have HD : Hid ((rangeI n).drop k = (k : Int) :: (rangeI n).drop (k + 1)) := Lib.hid (by
        rw [List.drop_eq_getElem_cons (by simp [rangeI]; omega)]
        simp [rangeI])
      have hSl : S.length = k := by have := HS.out.1.length_eq; simpa [rangeI] using this
      go_wp2
      go_loopw [9] (fun i W => ∃ (j : Nat) (L M : List Int), i = .int .i64 j ∧ L.length = j ∧ j ≤ k ∧ Hid (MidS n pts k L M) ∧ XOwns W B 3 1 (some ⟨g, 0, none⟩) n c (ics (L ++ (k : Int) :: (M ++ (rangeI n).drop (k + 1)))) ∧ OnlyF (fun i => i = g) w W) (fun i _ => (intOf i).toNat)
      case atStart => exact ⟨k, S, [], rfl, hSl, Nat.le_refl _, Lib.hid ⟨by simpa using HS.out.1, by simpa using HS.out.2, fun _ h => by cases h⟩, by have := HO.out; rw [HD.out] at this; exact this, hF⟩
      case round =>
        obtain ⟨j, L, M, rfl, hLj, hjk, HM, hO2, hF2⟩ := hrel
        have HO2 := Lib.hid hO2
        have hglt := (hO2.lt g rfl).2
        clear hO2 HO
        rcases Nat.eq_zero_or_pos j with hj0 | hj0
        · subst hj0
          have hL0 : L = [] := List.eq_nil_of_length_eq_zero hLj
          subst hL0
          go_wp2
          go_quiet (fail)
          have HD2 := Lib.hid (HM.out.done (.inl rfl))
          go_wp2
          go_roundw
          case rel => exact ⟨k + 1, [] ++ (k : Int) :: M, by omega, by omega, by go_num, by (have h := HO2.out.below (below_drew_ (Below.refl _ _) nq); simpa using h), HD2, hF2.then (below_drew_ (Below.refl _ _) nq)⟩
          case measure => simp [intOf]; omega
        · obtain ⟨L', y, rfl⟩ : ∃ L' y, L = L' ++ [y] := ⟨L.dropLast, L.getLast (by intro h; rw [h] at hLj; simp at hLj; omega), (List.dropLast_concat_getLast _).symm⟩
          obtain ⟨m, rfl⟩ : ∃ m, j = m + 1 := ⟨j - 1, by omega⟩
          have hLm : L'.length = m := by simpa using hLj
          have hym := rangeI_mem (HM.out.perm.mem_iff.1 (show y ∈ (L' ++ [y]) ++ M by simp))
          obtain ⟨yn, rfl⟩ : ∃ yn : Nat, y = yn := ⟨y.toNat, by omega⟩
          obtain ⟨o1, f1⟩ := HO2.out.icell (j := m + 1) (by omega)
          obtain ⟨o0, f0⟩ := HO2.out.icell (j := m) (by omega)
          have e1 : ith ((L' ++ [(yn : Int)]) ++ (k : Int) :: (M ++ (rangeI n).drop (k + 1))) (m + 1) = k := by
            have := ith_mid (L := L' ++ [(yn : Int)]) (M := M ++ (rangeI n).drop (k + 1)) (v := (k : Int))
            rwa [hLj] at this
          have e0 : ith ((L' ++ [(yn : Int)]) ++ (k : Int) :: (M ++ (rangeI n).drop (k + 1))) m = yn := by
            have := ith_last (L := L') (M := M ++ (rangeI n).drop (k + 1)) (v := (k : Int)) (y := (yn : Int))
            rwa [hLm] at this
          rw [e1] at o1
          rw [e0] at o0
          have HLM := Lib.hid hLm
          have hmn : (m : Int) + 1 < n := by omega
          have hmn2 : (m : Int) < n := by omega
          have hm0 : (0 : Int) < (m : Int) + 1 := by omega
          have hmw : IntKind.i64.wrap ((m : Int) + 1 - 1) = m := by rw [IntWalk.i64_in _ (by omega)]; omega
          have hmw2 : wrap64 ((m : Int) + 1 - 1) = m := by rw [IntWalk.wrap64_in _ (by omega)]; omega
          have hyk : yn < n := by omega
          have hB0 := HBX.out _ hF2
          have HBR := Lib.hid hB0
          have d1 : ∀ s : Later wr.heap.size wr, s.W.cell? ⟨g, m + 1, none⟩ = some (.int .i64 k) := fun s => (s.h.cell (p := ⟨g, m + 1, none⟩) hglt).trans o1
          have d0 : ∀ s : Later wr.heap.size wr, s.W.cell? ⟨g, m, none⟩ = some (.int .i64 yn) := fun s => (s.h.cell (p := ⟨g, m, none⟩) hglt).trans o0
          clear e0 e1 hLj hLm hB0 hj0 hym
          go_wp2
          refine wp_region_sched (fun w' => ∃ s : Later wr.heap.size wr, w' = s.W) [0,1,2,3,4,5,6,7,8,9,10,11,12,13] (.one 14 [15,16] .done) (by kernel_rfl) (by kernel_rfl) (fun d _ _ _ _ h => by cases d <;> exact h) ⟨⟨_, (Below.refl _ _).drew⟩, rfl⟩ ?_
          simp only [opsAt, List.getElem?_toArray, List.getElem?_cons_succ, List.getElem?_cons_zero]
          repeat (go_big_quiet_step (fail))
          refine wpQuiet_nil ?_
          (refine eff_lit rfl rfl (fun K hK => ?_))
          go_big_op
          refine (closure_any bx gp n pts k yn _ (HBR.out.below (Below.refl _ _).drew) hlt hyk).mono ?_
          rintro e w2 ⟨rfl, hb2⟩
          have hB2 : Below wr.heap.size wr w2 := (Below.refl _ _).drew.trans hb2
          have hz2 := hB2.size
          refine hK _ _ ⟨⟨_, hB2⟩, rfl⟩ ?_
          clear hK K d1 d0
          by_cases hc : ith pts yn < ith pts k
          · have hc' : decide (cmpI (ith pts yn) (ith pts k) < 0) = true := decide_eq_true ((cmp_neg _ _).2 hc)
            have hc2 : cmpI (ith pts yn) (ith pts k) < 0 := (cmp_neg _ _).2 hc
            have HM2 := Lib.hid (HM.out.step (by rw [Int.toNat_natCast]; exact hc))
            clear hc
            simp only [opsAt, List.getElem?_toArray, List.getElem?_cons_succ, List.getElem?_cons_zero]
            repeat (go_big_quiet_step (fail))
            refine wpQuiet_nil ?_
            refine effs_done ?_
            have d1 : ∀ s : Later w2.heap.size w2, s.W.cell? ⟨g, m + 1, none⟩ = some (.int .i64 k) := fun s => (s.h.cell (p := ⟨g, m + 1, none⟩) (by show g < w2.heap.size; omega)).trans ((hB2.cell (p := ⟨g, m + 1, none⟩) hglt).trans o1)
            have d0 : ∀ s : Later w2.heap.size w2, s.W.cell? ⟨g, m, none⟩ = some (.int .i64 yn) := fun s => (s.h.cell (p := ⟨g, m, none⟩) (by show g < w2.heap.size; omega)).trans ((hB2.cell (p := ⟨g, m, none⟩) hglt).trans o0)
            have HO3 := Lib.hid (HO2.out.below hB2)
            have hq1 := HO3.out.icell (j := m + 1) (by omega)
            have hq0 := HO3.out.icell (j := m) (by omega)
            obtain ⟨p1, r1⟩ := hq1
            obtain ⟨p0, r0⟩ := hq0
            go_wp2
            refine wp_region_late (Ph (fun w' => ∃ s : Later w2.heap.size w2, w' = s.W) (fun _ => True)) [15] [0,1,2,3,5,6,7,8,9,10,11,12,13,14] (.two 4 [] (.one 15 [16] (.one 17 [] .done)) 15 [] (.one 4 [16] (.one 17 [] .done))) (by kernel_rfl) (by kernel_rfl) (fun d _ _ _ _ h => by cases d <;> exact h) ⟨⟨_, (Below.refl _ _).drew⟩, rfl⟩ ?_
            refine quiet_as (C' := (fun w' => ∃ s : Later w2.heap.size w2, w' = s.W)) rfl ?_
            simp only [opsAt, List.getElem?_toArray, List.getElem?_cons_succ, List.getElem?_cons_zero]
            repeat (go_big_quiet_step (fail))
            refine wpQuiet_nil ?_
            refine (show ∀ A B : Prop, A → B → A ∧ B from fun _ _ a b => ⟨a, b⟩) _ _ ?_ ?_
            · refine eff_as (C' := (fun w' => ∃ s : Later w2.heap.size w2, w' = s.W)) rfl ?_
              (refine eff_lit rfl rfl (fun K hK => ?_))
              go_big_op
              refine hK _ _ ⟨⟨_, (Below.refl _ _).drew⟩, rfl⟩ ?_
              clear hK K
              simp only [opsAt, List.getElem?_toArray, List.getElem?_cons_succ, List.getElem?_cons_zero]
              repeat (go_big_quiet_step (fail))
              refine wpQuiet_nil ?_
              refine eff_as (C' := fun _ => True) rfl ?_
              (refine eff_lit rfl rfl (fun K hK => ?_))
              go_big_op
              refine hK _ _ trivial ?_
              clear hK K
              simp only [opsAt, List.getElem?_toArray, List.getElem?_cons_succ, List.getElem?_cons_zero]
              repeat (go_big_quiet_step (fail))
              refine wpQuiet_nil ?_
              refine eff_as (C' := fun _ => True) rfl ?_
              (refine eff_lit rfl rfl (fun K hK => ?_))
              go_big_op
              refine hK _ _ trivial ?_
              clear hK K
              simp only [opsAt, List.getElem?_toArray, List.getElem?_cons_succ, List.getElem?_cons_zero]
              repeat (go_big_quiet_step (fail))
              refine wpQuiet_nil ?_
              refine effs_done ?_
              clear d1 d0
              go_wp2
              go_roundw
              case rel => exact ⟨m, L', (yn : Int) :: M, by go_num, HLM.out, by omega, HM2, by
                have h := ((HO3.out.store (m + 1) yn).store m k).drew'
                rw [show ((L' ++ [(yn : Int)] ++ (k : Int) :: (M ++ List.drop (k + 1) (rangeI n))).set (m + 1) yn).set m k = L' ++ (k : Int) :: (((yn : Int) :: M) ++ List.drop (k + 1) (rangeI n)) by
                  have := swap_mid (L := L') (M := M ++ List.drop (k + 1) (rangeI n)) (y := (yn : Int)) (v := (k : Int))
                  rw [HLM.out] at this
                  simpa using this] at h
                exact h, (((hF2.then hB2).put (p := ⟨g, m + 1, none⟩) (.inl rfl) _).put (p := ⟨g, m, none⟩) (.inl rfl) _).drew⟩
              case measure => simp [intOf]
            · refine eff_as (C' := fun _ => True) rfl ?_
              (refine eff_lit rfl rfl (fun K hK => ?_))
              go_big_op
              refine hK _ _ trivial ?_
              clear hK K
              simp only [opsAt, List.getElem?_toArray, List.getElem?_cons_succ, List.getElem?_cons_zero]
              repeat (go_big_quiet_step (fail))
              refine wpQuiet_nil ?_
              refine eff_as (C' := fun _ => True) rfl ?_
              (refine eff_lit rfl rfl (fun K hK => ?_))
              go_big_op
              refine hK _ _ trivial ?_
              clear hK K
              simp only [opsAt, List.getElem?_toArray, List.getElem?_cons_succ, List.getElem?_cons_zero]
              repeat (go_big_quiet_step (fail))
              refine wpQuiet_nil ?_
              refine eff_as (C' := fun _ => True) rfl ?_
              (refine eff_lit rfl rfl (fun K hK => ?_))
              go_big_op
              refine hK _ _ trivial ?_
              clear hK K
              simp only [opsAt, List.getElem?_toArray, List.getElem?_cons_succ, List.getElem?_cons_zero]
              repeat (go_big_quiet_step (fail))
              refine wpQuiet_nil ?_
              refine effs_done ?_
              clear d1 d0
              go_wp2
              go_roundw
              case rel => exact ⟨m, L', (yn : Int) :: M, by go_num, HLM.out, by omega, HM2, by
                have h := ((HO3.out.store (m + 1) yn).store m k).drew'
                rw [show ((L' ++ [(yn : Int)] ++ (k : Int) :: (M ++ List.drop (k + 1) (rangeI n))).set (m + 1) yn).set m k = L' ++ (k : Int) :: (((yn : Int) :: M) ++ List.drop (k + 1) (rangeI n)) by
                  have := swap_mid (L := L') (M := M ++ List.drop (k + 1) (rangeI n)) (y := (yn : Int)) (v := (k : Int))
                  rw [HLM.out] at this
                  simpa using this] at h
                exact h, (((hF2.then hB2).put (p := ⟨g, m + 1, none⟩) (.inl rfl) _).put (p := ⟨g, m, none⟩) (.inl rfl) _).drew⟩
              case measure => simp [intOf]
          · have hc' : decide (cmpI (ith pts yn) (ith pts k) < 0) = false := decide_eq_false (fun h => hc ((cmp_neg _ _).1 h))
            have hc2 : ¬ cmpI (ith pts yn) (ith pts k) < 0 := fun h => hc ((cmp_neg _ _).1 h)
            have HD2 := Lib.hid (HM.out.done (.inr ⟨L', yn, rfl, by rw [Int.toNat_natCast]; exact hc⟩))
            clear hc
            simp only [opsAt, List.getElem?_toArray, List.getElem?_cons_succ, List.getElem?_cons_zero]
            repeat (go_big_quiet_step (fail))
            refine wpQuiet_nil ?_
            refine effs_done ?_
            go_wp2
            go_roundw
            case rel => exact ⟨k + 1, (L' ++ [(yn : Int)]) ++ (k : Int) :: M, by omega, by omega, by go_num, by (have h := HO2.out.below hB2; simpa using h), HD2, hF2.then hB2⟩
            case measure => simp [intOf]; omega
    · obtain rfl : k = n := by omega
      go_wp2
      go_returns
      exact ⟨rfl, S, by (have h := HO.out; rw [List.drop_eq_nil_of_le (by simp [rangeI]), List.append_nil] at h; exact h), HS.out.1, HS.out.2, hF⟩
end Go.Proofs.Ytngcmihaheiigaa
