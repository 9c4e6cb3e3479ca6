/-
  whole: the pairing of all players.
-/
import Derived.Test.YtngcmihaheiigaaPair
set_option linter.unusedSimpArgs false
set_option linter.unusedVariables false
namespace Go.Proofs.Ytngcmihaheiigaa
open Go.RowKit

theorem ihead {w : World} {A : Option Addr} {n j : Nat} {l : List Int} (h : Reads w 1 A n (ics l)) (hj : j ≤ n) : Reads w 1 A j (ics (l.take j)) := by
  have := h.head hj
  rwa [Nat.mul_one, ics_take] at this
theorem icut_ne {w : World} {ad : Addr} {n c j : Nat} {l : List Int} (h : Reads w 1 (some ad) n (ics l)) (hjn : j + 1 ≤ n) (hc : n ≤ c) (hne : c ≠ j + 1) : Reads w 1 (some (ad.add (j + 1))) (n - (j + 1)) (ics (l.drop (j + 1))) := by
  have h1 := h.cut (k := j + 1) hjn hc
  rw [if_neg hne, Nat.mul_one, ics_drop] at h1
  exact h1
theorem icut_eq {w : World} {ad : Addr} {n c j : Nat} {l : List Int} (h : Reads w 1 (some ad) n (ics l)) (hjn : j + 1 ≤ n) (hc : n ≤ c) (he : c = j + 1) : Reads w 1 (some ad) (n - (j + 1)) (ics (l.drop (j + 1))) := by
  have h1 := h.cut (k := j + 1) hjn hc
  rw [if_pos he, Nat.mul_one, ics_drop] at h1
  exact h1

set_option maxRecDepth 100000 in
set_option maxHeartbeats 1600000 in
theorem whole_any (B p : Nat) (st : TS) (x0 : TC) (l : List Int) (hl20 : l.length ≤ 20) (A : Option Addr) (n c : Nat) (w : World) (ht : Tn w B p st x0) (hx : Reads w 1 A n (ics l)) (hc : n ≤ c) (hc2 : c ≤ 9223372036854775807) (hA : A = none → c = 0) (hr : ∀ z ∈ l, 0 ≤ z ∧ z < st.n) :
    Calls Try.prog 26 #[.pointer (some ⟨p, 0, none⟩), .slice A n c] w (PairEnd (wholeS (frS st) l) w) := by
  have hnl := ilen hx
  have HL := Lib.hid hnl
  have hn20 : n ≤ 20 := by omega
  by_cases hev : n % 2 = 0
  · have HW : Hid (wholeS (frS st) l = pairS (frS st) l) := Lib.hid (by unfold wholeS; rw [hnl, if_pos hev])
    rw [HW.out]
    have HC := Lib.hid (pair_any B p st x0 20 l hl20 hl20 A n c w ht hx hc hc2 hA hr)
    have hm : Int.tmod (n : Int) 2 = 0 := by
      rw [show Int.tmod (n : Int) 2 = ((n % 2 : Nat) : Int) from rfl, hev]; rfl
    clear ht hx hA hr hnl hev
    go_enter Try.func26, Try.ntmps26
    go_wp2_with fail
    refine HC.out.mono ?_
    intro e w2 hP
    cases hres : pairS (frS st) l with
    | none =>
      rw [hres] at hP
      obtain ⟨rfl, hb⟩ := hP
      go_wp2
      go_ret2
      rw [hres]
      exact ⟨rfl, hb⟩
    | some m =>
      rw [hres] at hP
      obtain ⟨A1, c1, rfl, ho, hb⟩ := hP
      go_wp2
      go_ret2
      rw [hres]
      exact ⟨A1, c1, rfl, ho, hb⟩
  · have HEV : Hid (wholeS (frS st) l = firstF (fun k => byeS (frS st) l (l.length - 1 - k)) l.length) := Lib.hid (by unfold wholeS; rw [hnl, if_neg hev])
    have hn1 : 1 ≤ n := by omega
    have HT : Hid (∀ W, Below w.heap.size w W → Tn W B p st x0) := Lib.hid fun W h => ht.below h
    have HX : Hid (∀ W, Below w.heap.size w W → Reads W 1 A n (ics l)) := Lib.hid fun W h => hx.below h
    have HR := Lib.hid hr
    obtain ⟨ad, rfl, _, _⟩ := int_at hx (k := 0) (by omega)
    have hm : Int.tmod (n : Int) 2 = 1 := by
      rw [show Int.tmod (n : Int) 2 = ((n % 2 : Nat) : Int) from rfl, show n % 2 = 1 by omega]; rfl
    have hw1 : IntKind.i64.wrap ((n : Int) - 1) = (n : Int) - 1 := IntWalk.i64_in _ (by omega)
    clear ht hx hr hnl hev hA hl20
    go_enter Try.func26, Try.ntmps26
    go_wp2
    go_loopw [6] (fun i W => ∃ q : Nat, q ≤ n ∧ i = .int .i64 ((n : Int) - 1 - q) ∧ Hid (∀ q', q' < q → byeS (frS st) l (n - 1 - q') = none) ∧ Below w.heap.size w W) (fun i _ => (intOf i + 1).toNat)
    case atStart => exact ⟨0, Nat.zero_le _, by simp, Lib.hid (fun q h => absurd h (by omega)), Below.refl _ _⟩
    case round =>
      obtain ⟨q, hq, rfl, HE, hB⟩ := hrel
      have hz := hB.size
      by_cases hlt : q < n
      · obtain ⟨j, hj⟩ : ∃ j, n - 1 - q = j := ⟨_, rfl⟩
        have HJ := Lib.hid hj
        have hjn : j < n := by omega
        have hji : ((n : Int) - 1 - q) = (j : Int) := by omega
        rw [hji]
        have hj0 : (0 : Int) ≤ j := by omega
        have hlt' : (j : Int) < n := by omega
        have hXr := HX.out _ hB
        have cj : ∀ s : Later wr.heap.size wr, s.W.cell? (ad.add j) = some (.int .i64 (ith l j)) := fun s => int_cell (hXr.below s.h) (k := j) hjn
        have hyr : 0 ≤ ith l j ∧ ith l j < st.n := HR.out _ (List.mem_of_getElem? (ith_get (by rw [HL.out]; exact hjn)))
        have HFR : Hid (∀ s : Later wr.heap.size wr, Calls Try.prog 40 #[.pointer (some ⟨p, 0, none⟩), .int .i64 (ith l j), .int .i64 (ith l j)] s.W fun e w' => e = .returned (.bool (frS st (ith l j) (ith l j))) ∧ s.W = w') := Lib.hid fun s => free_any B p st x0 _ _ _ (HT.out _ (hB.trans (s.h.mono hz))) hyr hyr
        generalize hy : ith l j = y at *
        have HY := Lib.hid hy
        clear hXr hy hj
        go_wp2
        refine wp_region_later (B := wr.heap.size) (w0 := wr) (Below.refl _ _) (by kernel_rfl) (by kernel_rfl) ?_
        repeat (go_big_quiet_step ((go_at_call 40; with_reducible exact Calls.later_same (HFR.out _))))
        refine wpQuiet_nil ?_
        intro _ hw'
        obtain ⟨s, hw2⟩ := hw'
        subst hw2
        obtain ⟨w2, hb2⟩ := s
        have hB2 := below_call hB hb2 hz
        have hz2 := hB2.size
        clear cj HFR
        have hjm : IntKind.i64.wrap ((j : Int) - 1) = (n : Int) - 1 - ((q + 1 : Nat) : Int) := by rw [IntWalk.i64_in _ (by omega)]; omega
        cases hfr : frS st y y with
        | false =>
          have HFF := Lib.hid hfr
          clear hfr
          go_wp2
          go_roundw
          case rel => exact ⟨q + 1, by omega, by go_num, Lib.hid (by
            intro q' hq
            rcases Nat.lt_or_ge q' q with h | h
            · exact HE.out q' h
            · obtain rfl : q' = q := by omega
              rw [HJ.out]
              unfold byeS
              rw [show l.getD j 0 = y from HY.out, HFF.out]
              rfl), hB2⟩
          case measure => simp [intOf]; omega
        | true =>
          have HFF := Lib.hid hfr
          clear hfr
          have hj2 : ((j : Int) + 1) ≤ n := by omega
          have hjw : IntKind.i64.wrap ((j : Int) + 1) = (j : Int) + 1 := IntWalk.i64_in _ (by omega)
          have hcn : (n : Int) ≤ c := by omega
          have hcj : (j : Int) ≤ c := by omega
          by_cases hcs : c = j + 1
          · have hcs' : (c = j + 1) = True := eq_true hcs
            have HCS := Lib.hid hcs
            clear hcs
            go_wp2
            refine wp_region_sched (fun w' => ∃ s : Later w2.heap.size w2, w' = s.W) [0,1,2,3,4,5,6,7] (.one 8 [] (.one 9 [] (.one 10 [11,12,13,14,15] .done))) (by kernel_rfl) (by kernel_rfl) (fun d _ _ _ _ h => by cases d <;> exact h) ⟨⟨_, (Below.refl _ _).drew⟩, rfl⟩ ?_
            simp only [opsAt, List.getElem?_toArray, List.getElem?_cons_succ, List.getElem?_cons_zero]
            repeat (go_big_quiet_step (fail))
            refine wpQuiet_nil ?_
            (refine eff_lit rfl rfl (fun K hK => ?_))
            go_big_op
            have hBa : Below w2.heap.size w2 (w2.alloc (.cells #[.slice (some ad) j c, .slice (some ad) (n - (j + 1)) (c - (j + 1))] 37)).drew := ((Below.refl _ _).alloc (Nat.le_refl _) _).drew
            have HBK := Lib.hid ((Blk.mk_ w2 37 _ _ rfl).drew : Blk (w2.alloc (.cells #[.slice (some ad) j c, .slice (some ad) (n - (j + 1)) (c - (j + 1))] 37)).drew w2.heap.size 37 #[.slice (some ad) j c, .slice (some ad) (n - (j + 1)) (c - (j + 1))])
            refine hK _ _ ⟨⟨_, hBa⟩, rfl⟩ ?_
            clear hK K
            simp only [opsAt, List.getElem?_toArray, List.getElem?_cons_succ, List.getElem?_cons_zero]
            refine wpQuiet_nil ?_
            (refine eff_lit rfl rfl (fun K hK => ?_))
            go_big_op
            have hR := HX.out _ (hB2.trans (hBa.mono hz2))
            refine (concat_any w2.heap.size 37 (some ad) (some ad) j c (n - (j + 1)) (c - (j + 1)) (l.take j) (l.drop (j + 1)) _ HBK.out (ihead hR (by omega)) (icut_eq hR (by omega) hc HCS.out) (fun h => by cases h) (fun h => by cases h) (by omega) (by omega)).mono ?_
            rintro e w3 ⟨A3, c3, rfl, hO3, hb3⟩
            rw [← List.eraseIdx_eq_take_drop_succ] at hO3
            have hB3 := below_call hBa hb3 hBa.size
            have hz3 := hB3.size
            have HO3 := Lib.hid hO3
            have hn3 : j + (n - (j + 1)) = n - 1 := by omega
            have HC3 := Lib.hid hO3.capOk
            rw [hn3] at HO3 HC3 ⊢
            clear hR hO3
            refine hK _ _ ⟨⟨_, hB3⟩, rfl⟩ ?_
            clear hK K
            simp only [opsAt, List.getElem?_toArray, List.getElem?_cons_succ, List.getElem?_cons_zero]
            refine wpQuiet_nil ?_
            (refine eff_lit rfl rfl (fun K hK => ?_))
            go_big_op
            refine (pair_any B p st x0 20 (l.eraseIdx j) (by rw [List.length_eraseIdx_of_lt (by have := HL.out; omega)]; have := HL.out; omega) (by rw [List.length_eraseIdx_of_lt (by have := HL.out; omega)]; have := HL.out; omega) A3 (n - 1) c3 _ (HT.out _ (hB2.trans (hB3.mono hz2))) HO3.out.reads HC3.out.1 HC3.out.2 HO3.out.2 (fun z hz => HR.out z (List.mem_of_mem_eraseIdx hz))).mono ?_
            intro e w4 hP
            generalize hr : pairS (frS st) (l.eraseIdx j) = res at hP
            have HRES := Lib.hid hr
            clear hr
            cases res with
            | none =>
              obtain ⟨rfl, hb4⟩ := hP
              have hB4 := below_call hB3 hb4 hz3
              refine hK _ _ ⟨⟨_, hB4⟩, rfl⟩ ?_
              clear hK K
              simp only [opsAt, List.getElem?_toArray, List.getElem?_cons_succ, List.getElem?_cons_zero]
              repeat (go_big_quiet_step (fail))
              refine wpQuiet_nil ?_
              refine effs_done ?_
              go_wp2
              go_roundw
              case rel => exact ⟨q + 1, by omega, by go_num, Lib.hid (by
                intro q' hq
                rcases Nat.lt_or_ge q' q with h | h
                · exact HE.out q' h
                · obtain rfl : q' = q := by omega
                  rw [HJ.out]
                  unfold byeS
                  rw [HRES.out]
                  split <;> rfl), hB2.trans (hB4.mono hz2)⟩
              case measure => simp [intOf]; omega
            | some m =>
              obtain ⟨A4, c4, rfl, hO4, hb4⟩ := hP
              have hB4 := below_call hB3 hb4 hz3
              have hz4 := hB4.size
              have HO4 := Lib.hid hO4
              have hml := pairS_len HRES.out
              rw [List.length_eraseIdx_of_lt (by have := HL.out; omega)] at hml
              have hml' : m.length ≤ 1000 := by have := HL.out; omega
              clear hO4
              refine hK _ _ ⟨⟨_, hB4⟩, rfl⟩ ?_
              clear hK K
              simp only [opsAt, List.getElem?_toArray, List.getElem?_cons_succ, List.getElem?_cons_zero]
              repeat (go_big_quiet_step (fail))
              refine wpQuiet_nil ?_
              refine effs_done ?_
              have cj : w4.cell? (ad.add j) = some (.int .i64 y) := by
                have h := int_cell (HX.out _ (hB2.trans (hB4.mono hz2))) (k := j) (by omega)
                rw [HY.out] at h
                exact h
              have hcb : Below w4.heap.size w4 (w4.alloc (.cells #[.int .i64 y, .int .i64 (-1)] 33)) := (Below.refl _ _).alloc (Nat.le_refl _) _
              have HBL := Lib.hid (XOwns.lit w4 w4.heap.size 33 2 #[.int .i64 y, .int .i64 (-1)] 1 (Nat.le_refl _) (by omega) rfl).reads
              go_wp2_with (at_builtin; refine append_xr (w := (w4.alloc (.cells #[.int .i64 y, .int .i64 (-1)] 33))) ?_ (.tmp 51) (.tmp 57) 29 ?_ w3.heap.size 33 (.agg #[.int .i64 0, .int .i64 0]) 2 16 Try.info33 Try.underlying29 rfl (by decide) A4 m.length c4 (dcells m) ?_ (HO4.out.below hcb) (some ⟨w4.heap.size, 0, none⟩) 1 1 (dcells [⟨y, -1⟩]) ?_ (fun h => by cases h) HBL.out (dcells_one _) ?_ ?_ ?_ ?_; rfl; rfl; rfl; rfl; omega; omega; (have := hb4.size; simp; omega); intro A6 c6 w6 ho6 hb6)
              have HFI : Hid (firstF (fun k => byeS (frS st) l (l.length - 1 - k)) l.length = some (m ++ [⟨y, -1⟩])) := Lib.hid (firstF_some (i := q) (by have := HL.out; omega) (fun q' hq => by have := HE.out q' hq; rw [HL.out]; exact this) (by
                rw [HL.out, HJ.out]
                unfold byeS
                rw [show l.getD j 0 = y from HY.out, HFF.out, HRES.out]
                rfl))
              go_ret2
              rw [HEV.out, HFI.out]
              refine ⟨A6, c6, by rw [List.length_append]; rfl, ?_, hB2.trans (Below.mono ((hB4.trans (hcb.mono hz4)).trans (hb6.mono hz3)) hz2)⟩
              rw [← dcells_app] at ho6
              rw [List.length_append]
              exact ho6.more (by omega)
          · have hcs' : (c = j + 1) = False := eq_false hcs
            have HCS := Lib.hid hcs
            clear hcs
            go_wp2
            refine wp_region_sched (fun w' => ∃ s : Later w2.heap.size w2, w' = s.W) [0,1,2,3,4,5,6,7] (.one 8 [] (.one 9 [] (.one 10 [11,12,13,14,15] .done))) (by kernel_rfl) (by kernel_rfl) (fun d _ _ _ _ h => by cases d <;> exact h) ⟨⟨_, (Below.refl _ _).drew⟩, rfl⟩ ?_
            simp only [opsAt, List.getElem?_toArray, List.getElem?_cons_succ, List.getElem?_cons_zero]
            repeat (go_big_quiet_step (fail))
            refine wpQuiet_nil ?_
            (refine eff_lit rfl rfl (fun K hK => ?_))
            go_big_op
            have hBa : Below w2.heap.size w2 (w2.alloc (.cells #[.slice (some ad) j c, .slice (some (ad.add (j + 1))) (n - (j + 1)) (c - (j + 1))] 37)).drew := ((Below.refl _ _).alloc (Nat.le_refl _) _).drew
            have HBK := Lib.hid ((Blk.mk_ w2 37 _ _ rfl).drew : Blk (w2.alloc (.cells #[.slice (some ad) j c, .slice (some (ad.add (j + 1))) (n - (j + 1)) (c - (j + 1))] 37)).drew w2.heap.size 37 #[.slice (some ad) j c, .slice (some (ad.add (j + 1))) (n - (j + 1)) (c - (j + 1))])
            refine hK _ _ ⟨⟨_, hBa⟩, rfl⟩ ?_
            clear hK K
            simp only [opsAt, List.getElem?_toArray, List.getElem?_cons_succ, List.getElem?_cons_zero]
            refine wpQuiet_nil ?_
            (refine eff_lit rfl rfl (fun K hK => ?_))
            go_big_op
            have hR := HX.out _ (hB2.trans (hBa.mono hz2))
            refine (concat_any w2.heap.size 37 (some ad) (some (ad.add (j + 1))) j c (n - (j + 1)) (c - (j + 1)) (l.take j) (l.drop (j + 1)) _ HBK.out (ihead hR (by omega)) (icut_ne hR (by omega) hc HCS.out) (fun h => by cases h) (fun h => by cases h) (by omega) (by omega)).mono ?_
            rintro e w3 ⟨A3, c3, rfl, hO3, hb3⟩
            rw [← List.eraseIdx_eq_take_drop_succ] at hO3
            have hB3 := below_call hBa hb3 hBa.size
            have hz3 := hB3.size
            have HO3 := Lib.hid hO3
            have hn3 : j + (n - (j + 1)) = n - 1 := by omega
            have HC3 := Lib.hid hO3.capOk
            rw [hn3] at HO3 HC3 ⊢
            clear hR hO3
            refine hK _ _ ⟨⟨_, hB3⟩, rfl⟩ ?_
            clear hK K
            simp only [opsAt, List.getElem?_toArray, List.getElem?_cons_succ, List.getElem?_cons_zero]
            refine wpQuiet_nil ?_
            (refine eff_lit rfl rfl (fun K hK => ?_))
            go_big_op
            refine (pair_any B p st x0 20 (l.eraseIdx j) (by rw [List.length_eraseIdx_of_lt (by have := HL.out; omega)]; have := HL.out; omega) (by rw [List.length_eraseIdx_of_lt (by have := HL.out; omega)]; have := HL.out; omega) A3 (n - 1) c3 _ (HT.out _ (hB2.trans (hB3.mono hz2))) HO3.out.reads HC3.out.1 HC3.out.2 HO3.out.2 (fun z hz => HR.out z (List.mem_of_mem_eraseIdx hz))).mono ?_
            intro e w4 hP
            generalize hr : pairS (frS st) (l.eraseIdx j) = res at hP
            have HRES := Lib.hid hr
            clear hr
            cases res with
            | none =>
              obtain ⟨rfl, hb4⟩ := hP
              have hB4 := below_call hB3 hb4 hz3
              refine hK _ _ ⟨⟨_, hB4⟩, rfl⟩ ?_
              clear hK K
              simp only [opsAt, List.getElem?_toArray, List.getElem?_cons_succ, List.getElem?_cons_zero]
              repeat (go_big_quiet_step (fail))
              refine wpQuiet_nil ?_
              refine effs_done ?_
              go_wp2
              go_roundw
              case rel => exact ⟨q + 1, by omega, by go_num, Lib.hid (by
                intro q' hq
                rcases Nat.lt_or_ge q' q with h | h
                · exact HE.out q' h
                · obtain rfl : q' = q := by omega
                  rw [HJ.out]
                  unfold byeS
                  rw [HRES.out]
                  split <;> rfl), hB2.trans (hB4.mono hz2)⟩
              case measure => simp [intOf]; omega
            | some m =>
              obtain ⟨A4, c4, rfl, hO4, hb4⟩ := hP
              have hB4 := below_call hB3 hb4 hz3
              have hz4 := hB4.size
              have HO4 := Lib.hid hO4
              have hml := pairS_len HRES.out
              rw [List.length_eraseIdx_of_lt (by have := HL.out; omega)] at hml
              have hml' : m.length ≤ 1000 := by have := HL.out; omega
              clear hO4
              refine hK _ _ ⟨⟨_, hB4⟩, rfl⟩ ?_
              clear hK K
              simp only [opsAt, List.getElem?_toArray, List.getElem?_cons_succ, List.getElem?_cons_zero]
              repeat (go_big_quiet_step (fail))
              refine wpQuiet_nil ?_
              refine effs_done ?_
              have cj : w4.cell? (ad.add j) = some (.int .i64 y) := by
                have h := int_cell (HX.out _ (hB2.trans (hB4.mono hz2))) (k := j) (by omega)
                rw [HY.out] at h
                exact h
              have hcb : Below w4.heap.size w4 (w4.alloc (.cells #[.int .i64 y, .int .i64 (-1)] 33)) := (Below.refl _ _).alloc (Nat.le_refl _) _
              have HBL := Lib.hid (XOwns.lit w4 w4.heap.size 33 2 #[.int .i64 y, .int .i64 (-1)] 1 (Nat.le_refl _) (by omega) rfl).reads
              go_wp2_with (at_builtin; refine append_xr (w := (w4.alloc (.cells #[.int .i64 y, .int .i64 (-1)] 33))) ?_ (.tmp 51) (.tmp 57) 29 ?_ w3.heap.size 33 (.agg #[.int .i64 0, .int .i64 0]) 2 16 Try.info33 Try.underlying29 rfl (by decide) A4 m.length c4 (dcells m) ?_ (HO4.out.below hcb) (some ⟨w4.heap.size, 0, none⟩) 1 1 (dcells [⟨y, -1⟩]) ?_ (fun h => by cases h) HBL.out (dcells_one _) ?_ ?_ ?_ ?_; rfl; rfl; rfl; rfl; omega; omega; (have := hb4.size; simp; omega); intro A6 c6 w6 ho6 hb6)
              have HFI : Hid (firstF (fun k => byeS (frS st) l (l.length - 1 - k)) l.length = some (m ++ [⟨y, -1⟩])) := Lib.hid (firstF_some (i := q) (by have := HL.out; omega) (fun q' hq => by have := HE.out q' hq; rw [HL.out]; exact this) (by
                rw [HL.out, HJ.out]
                unfold byeS
                rw [show l.getD j 0 = y from HY.out, HFF.out, HRES.out]
                rfl))
              go_ret2
              rw [HEV.out, HFI.out]
              refine ⟨A6, c6, by rw [List.length_append]; rfl, ?_, hB2.trans (Below.mono ((hB4.trans (hcb.mono hz4)).trans (hb6.mono hz3)) hz2)⟩
              rw [← dcells_app] at ho6
              rw [List.length_append]
              exact ho6.more (by omega)
      · obtain rfl : q = n := by omega
        have HF : Hid (firstF (fun k => byeS (frS st) l (l.length - 1 - k)) l.length = none) := Lib.hid (firstF_none fun i hi => by have h1 := HL.out; have := HE.out i (by omega); rw [h1]; exact this)
        have hng : ((q : Int) - 1 - q) = -1 := by omega
        rw [hng]
        go_wp2
        go_ret2
        rw [HEV.out, HF.out]
        exact ⟨rfl, hB⟩
end Go.Proofs.Ytngcmihaheiigaa
