/-
  alike: a tournament and the model in one state.
-/
import Derived.Test.YtngcmihaheiigaaMOrd
import Derived.Test.YtngcmihaheiigaaSts
set_option linter.unusedSimpArgs false
set_option linter.unusedVariables false
namespace Go.Proofs.Ytngcmihaheiigaa
open Go.RowKit

theorem ints_same {A A' : Option Addr} {n m c c2 : Nat} {w : World} (l : List Int) (hx : Reads w 1 A n (ics l)) (hy : Reads w 1 A' m (ics l)) (hn : n ≤ 1000000) : Calls Try.prog 24 #[.slice A n c, .slice A' m c2] w fun e w' => e = .returned (.bool true) ∧ Below w.heap.size w w' := by
  have h := ints_any _ _ n c m c2 l l w hx hy hn
  rw [decide_eq_true (rfl : l = l)] at h
  exact h
theorem duels_same {A A' : Option Addr} {n m c c2 : Nat} {w : World} (l : List D) (hx : Reads w 2 A n (dcells l)) (hy : Reads w 2 A' m (dcells l)) (hn : n ≤ 1000000) : Calls Try.prog 31 #[.slice A n c, .slice A' m c2] w fun e w' => e = .returned (.bool true) ∧ Below w.heap.size w w' := by
  have h := duels_any _ _ n c m c2 l l w hx hy hn
  rw [decide_eq_true (rfl : l = l)] at h
  exact h
theorem XOwns.setX {w : World} {base : Nat} {e : TypeId} {size g n c : Nat} {xs : List Value} (h : XOwns w base e size (some ⟨g, 0, none⟩) n c xs) (j : Nat) (u : Value) : XOwns (w.setCell ⟨g, j, none⟩ u) base e size (some ⟨g, 0, none⟩) n c (xs.set j u) :=
  ⟨(h.1.stored j u).1, h.2⟩
theorem XOwns.get {w : World} {base : Nat} {e : TypeId} {size : Nat} {A : Option Addr} {n cap : Nat} {xs : List Value} (h : XOwns w base e size A n cap xs) {j : Nat} (hj : j < n * size) : ∃ g u, A = some ⟨g, 0, none⟩ ∧ base ≤ g ∧ g < w.heap.size ∧ w.cell? ⟨g, j, none⟩ = some u ∧ w.frozen? ⟨g, j, none⟩ = false := by
  obtain ⟨g, h1, h2, h3, h4, h5⟩ := h.cell (List.getElem?_eq_getElem (show j < xs.length by rw [h.len]; exact hj))
  exact ⟨g, _, h1, h2, h3, h4, h5⟩

set_option maxRecDepth 100000 in
set_option maxHeartbeats 1600000 in
theorem alike_any (B p B2 q : Nat) (st : TS) (x : TC) (y : MC) (w : World) (ht : Tn w B p st x) (hm : Mn w B2 q st y) : Calls Try.prog 14 #[.pointer (some ⟨p, 0, none⟩), .pointer (some ⟨q, 0, none⟩)] w fun e w' => e = .returned (.bool true) ∧ Below w.heap.size w w' := by
  obtain ⟨RA, rc, rs, SA, sq, sts⟩ := y
  have HT : Hid (∀ W, Below w.heap.size w W → Tn W B p st x) := Lib.hid fun W hb => ht.below hb
  have HM : Hid (∀ W, Below w.heap.size w W → Mn W B2 q st ⟨RA, rc, rs, SA, sq, sts⟩) := Lib.hid fun W hb => hm.below hb
  have hn := ht.ok.n0
  have HOK := Lib.hid ht.ok
  have hcnt := ht.ok.cnt
  have HRL : Hid (rs.length = st.rounds.length) := Lib.hid hm.rs_len
  have c0 : ∀ s : Later w.heap.size w, s.W.cell? ⟨q, 1, none⟩ = some (.slice RA st.rounds.length rc) := fun s => ((hm.below s.h).blk.at_ 1).trans rfl
  clear ht hm
  obtain ⟨hn1, hn2⟩ := hn
  go_enter Try.func14, Try.ntmps14
  go_wp2
  refine wp_region_sched (fun w' => ∃ s : Later w.heap.size w, w' = s.W) [0,2,3,4,5,6] (.one 1 [7,8,9] (.one 10 [11,12,13,14,15,16,17,18,19,20] (.one 21 [22,23,24,25,26,28] (.one 27 [] (.one 29 [] (.one 30 [31,32,33,34,36] (.one 35 [] (.one 37 [] (.one 38 [39,40] .done))))))))) (by kernel_rfl) (by kernel_rfl) (fun d _ _ _ _ h => by cases d <;> exact h) ⟨⟨_, (Below.refl _ _).drew⟩, rfl⟩ ?_
  simp only [opsAt, List.getElem?_toArray, List.getElem?_cons_succ, List.getElem?_cons_zero]
  repeat (go_big_quiet_step (fail))
  refine wpQuiet_nil ?_
  (refine eff_lit rfl rfl (fun K hK => ?_))
  go_big_op
  refine (rounds_any B p st x _ (HT.out _ (Below.refl _ _).drew)).mono ?_
  rintro e w1 ⟨rfl, rfl⟩
  have hB1 : Below w.heap.size w w.drew := (Below.refl _ _).drew
  refine hK _ _ ⟨⟨_, hB1⟩, rfl⟩ ?_
  clear hK K
  simp only [opsAt, List.getElem?_toArray, List.getElem?_cons_succ, List.getElem?_cons_zero]
  repeat (go_big_quiet_step (fail))
  refine wpQuiet_nil ?_
  (refine eff_lit rfl rfl (fun K hK => ?_))
  go_big_op
  refine (duels_out B p st x (-1) _ (HT.out _ hB1) (.inl (by omega))).mono ?_
  rintro e w2 ⟨rfl, rfl⟩
  refine hK _ _ ⟨⟨_, hB1⟩, rfl⟩ ?_
  clear hK K
  simp only [opsAt, List.getElem?_toArray, List.getElem?_cons_succ, List.getElem?_cons_zero]
  repeat (go_big_quiet_step (fail))
  refine wpQuiet_nil ?_
  (refine eff_lit rfl rfl (fun K hK => ?_))
  go_big_op
  refine (duels_out B p st x st.rounds.length _ (HT.out _ hB1) (.inr (Int.le_refl _))).mono ?_
  rintro e w2 ⟨rfl, rfl⟩
  refine hK _ _ ⟨⟨_, hB1⟩, rfl⟩ ?_
  clear hK K
  simp only [opsAt, List.getElem?_toArray, List.getElem?_cons_succ, List.getElem?_cons_zero]
  repeat (go_big_quiet_step (fail))
  refine wpQuiet_nil ?_
  (refine eff_lit rfl rfl (fun K hK => ?_))
  go_big_op
  refine (points_any B p st x _ (HT.out _ hB1)).mono ?_
  rintro e w3 ⟨g3, rfl, ho3, hb3⟩
  have hB3 := below_call hB1 hb3 hB1.size
  have HO3 := Lib.hid ho3
  refine hK _ _ ⟨⟨_, hB3⟩, rfl⟩ ?_
  clear hK K
  simp only [opsAt, List.getElem?_toArray, List.getElem?_cons_succ, List.getElem?_cons_zero]
  repeat (go_big_quiet_step (fail))
  refine wpQuiet_nil ?_
  (refine eff_lit rfl rfl (fun K hK => ?_))
  go_big_op
  refine (mpoints_any B2 q st _ _ (HM.out _ hB3)).mono ?_
  rintro e w4 ⟨g4, rfl, ho4, hb4⟩
  have hB4 := below_call hB3 hb4 hB3.size
  have HO4 := Lib.hid ho4
  have HO34 := Lib.hid (HO3.out.below hb4)
  refine hK _ _ ⟨⟨_, hB4⟩, rfl⟩ ?_
  clear hK K
  simp only [opsAt, List.getElem?_toArray, List.getElem?_cons_succ, List.getElem?_cons_zero]
  repeat (go_big_quiet_step (fail))
  refine wpQuiet_nil ?_
  (refine eff_lit rfl rfl (fun K hK => ?_))
  go_big_op
  refine (ints_same _ HO34.out.reads HO4.out.reads (by omega)).mono ?_
  rintro e w5 ⟨rfl, hb5⟩
  have hB5 := below_call hB4 hb5 hB4.size
  clear ho3 ho4 HO3 HO4 HO34 hb3 hb4 hb5 hB4 hB3
  refine hK _ _ ⟨⟨_, hB5⟩, rfl⟩ ?_
  clear hK K
  simp only [opsAt, List.getElem?_toArray, List.getElem?_cons_succ, List.getElem?_cons_zero]
  repeat (go_big_quiet_step (fail))
  refine wpQuiet_nil ?_
  (refine eff_lit rfl rfl (fun K hK => ?_))
  go_big_op
  refine (order_any B p st x _ (HT.out _ hB5)).mono ?_
  rintro e w6 ⟨g6, rfl, ho6, hb6⟩
  have hB6 := below_call hB5 hb6 hB5.size
  have HO6 := Lib.hid ho6
  refine hK _ _ ⟨⟨_, hB6⟩, rfl⟩ ?_
  clear hK K
  simp only [opsAt, List.getElem?_toArray, List.getElem?_cons_succ, List.getElem?_cons_zero]
  repeat (go_big_quiet_step (fail))
  refine wpQuiet_nil ?_
  (refine eff_lit rfl rfl (fun K hK => ?_))
  go_big_op
  refine (morder_any B2 q st _ _ (HM.out _ hB6)).mono ?_
  rintro e w7 ⟨A7, c7, rfl, ho7, hb7⟩
  have hB7 := below_call hB6 hb7 hB6.size
  have HO7 := Lib.hid ho7
  have HO67 := Lib.hid (HO6.out.below hb7)
  refine hK _ _ ⟨⟨_, hB7⟩, rfl⟩ ?_
  clear hK K
  simp only [opsAt, List.getElem?_toArray, List.getElem?_cons_succ, List.getElem?_cons_zero]
  repeat (go_big_quiet_step (fail))
  refine wpQuiet_nil ?_
  (refine eff_lit rfl rfl (fun K hK => ?_))
  go_big_op
  refine (ints_same _ HO67.out.reads HO7.out.reads (by omega)).mono ?_
  rintro e w8 ⟨rfl, hb8⟩
  have hB8 := below_call hB7 hb8 hB7.size
  clear ho6 ho7 HO6 HO7 HO67 hb6 hb7 hb8 hB5 hB6 hB7 hB1
  refine hK _ _ ⟨⟨_, hB8⟩, rfl⟩ ?_
  clear hK K
  simp only [opsAt, List.getElem?_toArray, List.getElem?_cons_succ, List.getElem?_cons_zero]
  repeat (go_big_quiet_step (fail))
  refine wpQuiet_nil ?_
  refine effs_done ?_
  clear c0
  go_wp2
  go_loopw [5] (fun i W => ∃ k : Nat, k ≤ st.rounds.length ∧ i = .int .i64 k ∧ Below w.heap.size w W) (fun i _ => st.rounds.length - (intOf i).toNat)
  case atStart => exact ⟨0, Nat.zero_le _, rfl, hB8⟩
  case round =>
    obtain ⟨k, hk, rfl, hB⟩ := hrel
    generalize wr = wz at *
    have hz := hB.size
    have x1 : wz.cell? ⟨q, 1, none⟩ = some (.slice RA st.rounds.length rc) := ((HM.out _ hB).blk.at_ 1).trans rfl
    clear hB8
    by_cases hlt : k < st.rounds.length
    · have hlt' : (k : Int) < st.rounds.length := by omega
      obtain ⟨l, hl⟩ : ∃ l, st.rounds[k]? = some l := ⟨_, List.getElem?_eq_getElem hlt⟩
      obtain ⟨s, hs⟩ : ∃ s, rs[k]? = some s := ⟨_, List.getElem?_eq_getElem (by rw [HRL.out]; exact hlt)⟩
      have HI : Hid (∀ W, Below w.heap.size w W → XOwns W B2 33 2 s.A s.n s.c (dcells l)) := Lib.hid fun W hb => (HM.out _ hb).ird k s l hs hl
      have hsn : s.n = l.length := by have := (HI.out _ hB).len; rw [dcells_len] at this; omega
      have hrl := round_len (HOK.out.rnd l (List.mem_of_getElem? hl))
      have HL := Lib.hid hl
      have HS := Lib.hid hs
      obtain ⟨sA, sn, sc⟩ := s
      simp only at hsn HI HS
      subst hsn
      obtain ⟨g, hg, _, hglt, hc, _⟩ := (HM.out _ hB).rds.cell (j := k) (u := .slice sA l.length sc) (by simp only [svs, List.getElem?_map]; rw [hs]; rfl)
      dsimp only at hg
      subst hg
      have HC : Hid (∀ W, Below w.heap.size w W → W.cell? ⟨g, k, none⟩ = some (.slice sA l.length sc)) := Lib.hid fun W hb => XOwns.cellAt (HM.out _ hb).rds (j := k) (u := Sl.v ⟨sA, l.length, sc⟩) (by simp only [svs, List.getElem?_map]; rw [HS.out]; rfl)
      have HX1 : Hid (∀ W, Below w.heap.size w W → W.cell? ⟨q, 1, none⟩ = some (.slice (some ⟨g, 0, none⟩) st.rounds.length rc)) := Lib.hid fun W hb => ((HM.out _ hb).blk.at_ 1).trans rfl
      have hgw : g < w.heap.size := (((HM.out _ (Below.refl _ _)).rds.lt g rfl)).2
      clear hl hs hc
      go_wp2_with (first
        | (go_at_call 22; refine (duels_in B p st x k l _ (HT.out _ hB) HL.out).mono ?_; rintro e w2 ⟨A2, c2, rfl, ho2, hb2⟩; have hB2 := below_call hB hb2 hz; have HO2 := Lib.hid ho2; have hz2 := hB2.size; have yc := HC.out _ hB2; have y1 := HX1.out _ hB2; clear ho2)
        | (go_at_call 31; refine (duels_same l HO2.out.reads (HI.out _ hB2).reads (by omega)).mono ?_; rintro e w3 ⟨rfl, hb3⟩; have hB3 := below_call hB2 hb3 hz2; have HO3 := Lib.hid (HO2.out.below hb3); clear yc y1)
        | fail)
      clear x1
      have HO4 : Hid (XOwns w3 w.heap.size 33 2 A2 l.length c2 (dcells l)) := Lib.hid (own_lower HO3.out hz)
      clear HO2 HO3 hB2 hb2 hb3
      go_loopw [7] (fun i W => ∃ (j : Nat) (xs : List Value), j ≤ l.length ∧ i = .int .i64 j ∧ XOwns W w.heap.size 33 2 A2 l.length c2 xs ∧ Below w.heap.size w W) (fun i _ => l.length - (intOf i).toNat)
      case atStart => exact ⟨0, _, Nat.zero_le _, rfl, HO4.out, hB3⟩
      case round =>
        obtain ⟨j, xs, hj, rfl, hO, hB4⟩ := hrel
        by_cases hlj : j < l.length
        · have hlj' : (j : Int) < l.length := by omega
          obtain ⟨ga, u, rfl, hga, hgl, hcc, hfr⟩ := hO.get (j := j * 2) (by omega)
          have HO5 := Lib.hid hO
          clear hO
          go_wp2
          go_roundw
          case rel => exact ⟨j + 1, _, by omega, by go_num, HO5.out.setX _ _, hB4.setCell (p := ⟨ga, j * 2, none⟩) hga _⟩
          case measure => simp [intOf]; omega
        · obtain rfl : j = l.length := by omega
          clear hO
          go_wp2
          go_roundw
          case rel => exact ⟨k + 1, by omega, by go_num, hB4⟩
          case measure => simp [intOf]; omega
    · obtain rfl : k = st.rounds.length := by omega
      go_wp2
      go_ret
      exact ⟨rfl, hB⟩
end Go.Proofs.Ytngcmihaheiigaa
