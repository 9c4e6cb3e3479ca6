/-
  can.
-/
import Derived.Test.YtngcmihaheiigaaWo
set_option linter.unusedSimpArgs false
set_option linter.unusedVariables false
namespace Go.Proofs.Ytngcmihaheiigaa
open Go.RowKit

/-- What is passed over among what may be taken at once. -/
theorem quiet_skip {P : Program} {ops : Array Oper} {C : World → Prop} {Qa : Act → Prop} {o : Oper} {l : List Oper} {a : Act} (hw : Region.wanted o (yielded ops a.tmps) = false) (h : wpQuiet P ops C Qa l (a.put o.dst undef)) : wpQuiet P ops C Qa (o :: l) a := by
  simp only [wpQuiet]
  rw [if_neg (by rw [hw]; exact Bool.false_ne_true)]
  exact h

set_option maxRecDepth 100000 in
set_option maxHeartbeats 1600000 in
theorem can_any (B p : Nat) (st : TS) (y : MC) : ∀ (k : Nat) (l : List Int), l.length ≤ k → l.length ≤ 20 → ∀ (A : Option Addr) (n c : Nat) (w : World), Mn w B p st y → Reads w 1 A n (ics l) →
    Calls Try.prog 44 #[.pointer (some ⟨p, 0, none⟩), .slice A n c] w fun e w' => e = .returned (.bool (pairS (frS st) l).isSome) ∧ Below w.heap.size w w' := by
  intro k
  induction k with
  | zero =>
    intro l hl _ A n c w ht hx
    have : l = [] := List.eq_nil_of_length_eq_zero (by omega)
    subst this
    obtain rfl : n = 0 := by have := ilen hx; simpa using this.symm
    rw [pairS_nil]
    clear ht hx
    go_enter Try.func44, Try.ntmps44
    go_wp2
    go_ret
    exact ⟨rfl, Below.refl _ _⟩
  | succ k ih =>
    intro l hl hl20 A n c w ht hx
    cases hll : l with
    | nil =>
      subst hll
      obtain rfl : n = 0 := by have := ilen hx; simpa using this.symm
      rw [pairS_nil]
      clear ht hx ih
      go_enter Try.func44, Try.ntmps44
      go_wp2
      go_ret
      exact ⟨rfl, Below.refl _ _⟩
    | cons x r =>
      have hnl := ilen hx
      have hn1 : r.length + 1 = n := by rw [hll] at hnl; simpa using hnl
      have HL := Lib.hid hn1
      have HK : Hid (r.length ≤ k) := Lib.hid (by rw [hll] at hl; simpa using hl)
      have hn20 : n ≤ 20 := by omega
      rw [pairS_cons]
      have HT : Hid (∀ W, Below w.heap.size w W → Mn W B p st y) := Lib.hid fun W h => ht.below h
      have HX : Hid (∀ W, Below w.heap.size w W → Reads W 1 A n (ics l)) := Lib.hid fun W h => hx.below h
      have HXR := Lib.hid hll
      have IH := Lib.hid ih
      obtain ⟨ad, rfl, _, _⟩ := int_at hx (k := 0) (by omega)
      have hn0 : ((n : Int) == 0) = false := by rw [beq_eq_false_iff_ne]; omega
      have hn1' : 1 ≤ n := by omega
      clear ht hx ih hl hll hnl hn1 hl20
      go_enter Try.func44, Try.ntmps44
      go_wp2
      go_loopw [5] (fun i W => ∃ j : Nat, 1 ≤ j ∧ j ≤ n ∧ i = .int .i64 j ∧ Hid (∀ q, q < j - 1 → tryS (frS st) x r q = none) ∧ Below w.heap.size w W) (fun i _ => n - (intOf i).toNat)
      case atStart => exact ⟨1, Nat.le_refl _, by omega, rfl, Lib.hid (fun q h => absurd h (by omega)), Below.refl _ _⟩
      case round =>
        obtain ⟨j, hj1, hjn, rfl, HE, hB⟩ := hrel
        have hz := hB.size
        by_cases hlt : j < n
        · have hlt' : (j : Int) < n := by omega
          have hXr := HX.out _ hB
          have c0 : ∀ s : Later wr.heap.size wr, s.W.cell? ad = some (.int .i64 x) := fun s => by
            have h := int_cell (hXr.below s.h) (k := 0) (by omega)
            rw [HXR.out] at h
            simpa [Addr.add, ith] using h
          have cj : ∀ s : Later wr.heap.size wr, s.W.cell? (ad.add j) = some (.int .i64 (r.getD (j - 1) 0)) := fun s => by
            have h := int_cell (hXr.below s.h) (k := j) (by omega)
            rw [HXR.out, ith_cons hj1] at h
            exact h
          have HWO : Hid (woS l j true = r.eraseIdx (j - 1)) := Lib.hid (by rw [woT, HXR.out]; rfl)
          have HTS : Hid (tryS (frS st) x r (j - 1) = if frS st x (r.getD (j - 1) 0) = true then (pairS (frS st) (r.eraseIdx (j - 1))).map fun l => ⟨x, r.getD (j - 1) 0⟩ :: l else none) := Lib.hid rfl
          generalize hy : r.getD (j - 1) 0 = yv at *
          have HJN : Hid (tryS (frS st) x r (j - 1) = none → ∀ q, q < j + 1 - 1 → tryS (frS st) x r q = none) := Lib.hid (fun h q hq => by
            rcases Nat.lt_or_ge q (j - 1) with h1 | h1
            · exact HE.out q h1
            · obtain rfl : q = j - 1 := by omega
              exact h)
          have HJS : Hid (∀ m, tryS (frS st) x r (j - 1) = some m → firstF (tryS (frS st) x r) r.length = some m) := Lib.hid (fun m h => firstF_some (i := j - 1) (by have := HL.out; omega) (fun q hq => HE.out q hq) h)
          clear hXr hy
          go_wp2
          refine wp_region_sched (fun w' => ∃ s : Later wr.heap.size wr, w' = s.W) [0,1,2,3,4,5,6,7] (.one 8 [9,10,11,12,13] (.one 14 [] (.one 15 [16] .done))) (by kernel_rfl) (by kernel_rfl) (fun d _ _ _ _ h => by cases d <;> exact h) ⟨⟨_, (Below.refl _ _).drew⟩, rfl⟩ ?_
          simp only [opsAt, List.getElem?_toArray, List.getElem?_cons_succ, List.getElem?_cons_zero]
          repeat (go_big_quiet_step (fail))
          refine wpQuiet_nil ?_
          (refine eff_lit rfl rfl (fun K hK => ?_))
          go_big_op
          refine (met_any B p st y x yv _ (HT.out _ hB.drew)).mono ?_
          rintro e w2 ⟨rfl, hb2⟩
          have hB2 : Below wr.heap.size wr w2 := (Below.refl _ _).drew.trans hb2
          have hz2 := hB2.size
          refine hK _ _ ⟨⟨_, hB2⟩, rfl⟩ ?_
          clear hK K c0 cj
          cases hm : metS st.rounds x yv with
          | true =>
            have HN : Hid (tryS (frS st) x r (j - 1) = none) := Lib.hid (by rw [HTS.out, if_neg (by unfold frS; rw [hm]; decide)])
            clear hm
            simp only [opsAt, List.getElem?_toArray, List.getElem?_cons_succ, List.getElem?_cons_zero]
            repeat (go_big_quiet_step (fail))
            refine wpQuiet_nil ?_
            refine eff_lit_skip rfl rfl ⟨⟨_, hB2⟩, rfl⟩ ?_
            simp only [Act.put, List.setIfInBounds_toArray, List.set_cons_succ, List.set_cons_zero]
            simp only [opsAt, List.getElem?_toArray, List.getElem?_cons_succ, List.getElem?_cons_zero]
            refine wpQuiet_nil ?_
            refine eff_lit_skip rfl rfl ⟨⟨_, hB2⟩, rfl⟩ ?_
            simp only [Act.put, List.setIfInBounds_toArray, List.set_cons_succ, List.set_cons_zero]
            simp only [opsAt, List.getElem?_toArray, List.getElem?_cons_succ, List.getElem?_cons_zero]
            repeat (go_big_quiet_step (fail))
            refine wpQuiet_nil ?_
            refine effs_done ?_
            go_wp2
            go_roundw
            case rel => exact ⟨j + 1, by omega, by omega, by go_num, Lib.hid (HJN.out HN.out), hB.trans (hB2.mono hz)⟩
            case measure => simp [intOf]; omega
          | false =>
            have HTS2 : Hid (tryS (frS st) x r (j - 1) = (pairS (frS st) (r.eraseIdx (j - 1))).map fun l => ⟨x, yv⟩ :: l) := Lib.hid (by rw [HTS.out, if_pos (by unfold frS; rw [hm]; rfl)])
            clear hm
            simp only [opsAt, List.getElem?_toArray, List.getElem?_cons_succ, List.getElem?_cons_zero]
            repeat (go_big_quiet_step (fail))
            refine wpQuiet_nil ?_
            (refine eff_lit rfl rfl (fun K hK => ?_))
            go_big_op
            refine (without_any (some ad) n c j true l _ (HX.out _ (hB.trans (hB2.mono hz))) (by omega) (fun _ => hj1) (by omega)).mono ?_
            rintro e w3 ⟨A3, c3, rfl, ho3, hb3⟩
            rw [HWO.out] at ho3 ⊢
            have hB3 := below_call hB2 hb3 hz2
            have hz3 := hB3.size
            have HO3 := Lib.hid ho3
            refine hK _ _ ⟨⟨_, hB3⟩, rfl⟩ ?_
            clear hK K ho3
            simp only [opsAt, List.getElem?_toArray, List.getElem?_cons_succ, List.getElem?_cons_zero]
            repeat (go_big_quiet_step (fail))
            refine wpQuiet_nil ?_
            (refine eff_lit rfl rfl (fun K hK => ?_))
            go_big_op
            refine (IH.out (r.eraseIdx (j - 1)) (by rw [List.length_eraseIdx_of_lt (by have := HL.out; omega)]; have := HK.out; have := HL.out; omega) (by rw [List.length_eraseIdx_of_lt (by have := HL.out; omega)]; have := HL.out; omega) A3 _ c3 _ (HT.out _ (hB.trans (hB3.mono hz))) HO3.out.reads).mono ?_
            rintro e w4 ⟨rfl, hb4⟩
            have hB4 := below_call hB3 hb4 hz3
            refine hK _ _ ⟨⟨_, hB4⟩, rfl⟩ ?_
            clear hK K
            cases hp : pairS (frS st) (r.eraseIdx (j - 1)) with
            | none =>
              have HN : Hid (tryS (frS st) x r (j - 1) = none) := Lib.hid (by rw [HTS2.out, hp]; rfl)
              rw [Option.isSome_none]
              clear hp
              simp only [opsAt, List.getElem?_toArray, List.getElem?_cons_succ, List.getElem?_cons_zero]
              repeat (go_big_quiet_step (fail))
              refine wpQuiet_nil ?_
              refine effs_done ?_
              go_wp2
              go_roundw
              case rel => exact ⟨j + 1, by omega, by omega, by go_num, Lib.hid (HJN.out HN.out), hB.trans (hB4.mono hz)⟩
              case measure => simp [intOf]; omega
            | some m =>
              have HN : Hid (firstF (tryS (frS st) x r) r.length = some (⟨x, yv⟩ :: m)) := Lib.hid (HJS.out _ (by rw [HTS2.out, hp]; rfl))
              rw [Option.isSome_some]
              clear hp
              simp only [opsAt, List.getElem?_toArray, List.getElem?_cons_succ, List.getElem?_cons_zero]
              repeat (go_big_quiet_step (fail))
              refine wpQuiet_nil ?_
              refine effs_done ?_
              go_wp2
              go_ret
              exact ⟨by rw [HN.out]; rfl, hB.trans (hB4.mono hz)⟩
        · obtain rfl : j = n := by omega
          have HF : Hid (firstF (tryS (frS st) x r) r.length = none) := Lib.hid (firstF_none fun i hi => HE.out i (by have := HL.out; omega))
          go_wp2
          go_ret
          exact ⟨by rw [HF.out]; rfl, hB⟩
end Go.Proofs.Ytngcmihaheiigaa
