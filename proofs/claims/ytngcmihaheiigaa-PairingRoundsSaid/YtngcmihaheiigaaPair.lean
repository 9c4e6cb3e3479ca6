/-
  pair: the duels of some players.
-/
import Derived.Test.YtngcmihaheiigaaTour
set_option linter.unusedSimpArgs false
set_option linter.unusedVariables false
namespace Go.Proofs.Ytngcmihaheiigaa
open Go.RowKit

theorem Try.info33 : (Try.prog.info? 33).map (fun i => (i.zero, i.size, i.bytes)) = some (some (.agg #[.int .i64 0, .int .i64 0]), 2, 16) := by kernel_rfl
theorem XOwns.lit (w : World) (base : Nat) (e : TypeId) (size : Nat) (cs : Array Value) (n : Nat) (hb : base ≤ w.heap.size) (hn : n ≤ 1000000) (hs : cs.size = n * size) : XOwns (w.alloc (.cells cs e)) base e size (some ⟨w.heap.size, 0, none⟩) n n cs.toList :=
  ⟨World.ownsRow_lit (base := base) (e := e) (size := size) w cs n hb (by unfold maxLen; omega) hs, fun h => by cases h⟩
def frS (st : TS) (a b : Int) : Bool := !metS st.rounds a b
/-- What pair hands back. -/
def PairEnd (r : Option (List D)) (w : World) (e : Ending) (w' : World) : Prop :=
  match r with
  | none => e = .returned (.tuple #[.slice none 0 0, .bool false]) ∧ Below w.heap.size w w'
  | some m => ∃ A c, e = .returned (.tuple #[.slice A m.length c, .bool true]) ∧ XOwns w' w.heap.size 33 2 A m.length c (dcells m) ∧ Below w.heap.size w w'
theorem ics_drop (l : List Int) (k : Nat) : (ics l).drop k = ics (l.drop k) := by simp [ics]
theorem ics_take (l : List Int) (k : Nat) : (ics l).take k = ics (l.take k) := by simp [ics]
theorem cut_one {w : World} {ad : Addr} {n c j : Nat} {x : Int} {l r : List Int} (hl : l = x :: r) (h : Reads w 1 (some ad) n (ics l)) (hj : 1 ≤ j) (hjn : j < n) (hc : n ≤ c) : Reads w 1 (some (ad.add 1)) (j - 1) (ics (r.take (j - 1))) := by
  have h1 := h.cut (k := 1) (by omega) hc
  rw [if_neg (by omega)] at h1
  have h2 := h1.head (k := j - 1) (by omega)
  rw [Nat.mul_one, Nat.mul_one, ics_drop, ics_take, hl] at h2
  simpa using h2
theorem cut_two {w : World} {ad : Addr} {n c j : Nat} {x : Int} {l r : List Int} (hl : l = x :: r) (h : Reads w 1 (some ad) n (ics l)) (hjn : j + 1 ≤ n) (hc : n ≤ c) (hne : c ≠ j + 1) : Reads w 1 (some (ad.add (j + 1))) (n - (j + 1)) (ics (r.drop j)) := by
  have h1 := h.cut (k := j + 1) hjn hc
  rw [if_neg hne, Nat.mul_one, ics_drop, hl] at h1
  simpa using h1
theorem cut_two_end {w : World} {ad : Addr} {n c j : Nat} {x : Int} {l r : List Int} (hl : l = x :: r) (h : Reads w 1 (some ad) n (ics l)) (hjn : j + 1 ≤ n) (hc : n ≤ c) (he : c = j + 1) : Reads w 1 (some ad) (n - (j + 1)) (ics (r.drop j)) := by
  have h1 := h.cut (k := j + 1) hjn hc
  rw [if_pos he, Nat.mul_one, ics_drop, hl] at h1
  simpa using h1
theorem List.eraseIdx_eq_take_drop_succ' {r : List Int} {j : Nat} (hj : 1 ≤ j) : r.eraseIdx (j - 1) = r.take (j - 1) ++ r.drop j := by
  rw [List.eraseIdx_eq_take_drop_succ, show j - 1 + 1 = j by omega]
theorem List.mem_of_mem_eraseIdx' {r : List Int} {i : Nat} {z : Int} (h : z ∈ r.eraseIdx i) : z ∈ r := List.mem_of_mem_eraseIdx h
theorem ith_cons {x : Int} {r : List Int} {j : Nat} (hj : 1 ≤ j) : ith (x :: r) j = r.getD (j - 1) 0 := by
  obtain ⟨k, rfl⟩ : ∃ k, j = k + 1 := ⟨j - 1, by omega⟩
  simp [ith]
theorem firstF_some_inv {α : Type} {t : Nat → Option α} {n : Nat} {x : α} (h : firstF t n = some x) : ∃ i, i < n ∧ t i = some x := by
  unfold firstF at h
  obtain ⟨i, hi, hx⟩ := List.exists_of_findSome?_eq_some h
  exact ⟨i, List.mem_range.1 hi, hx⟩
theorem pairS_len' (fr : Int → Int → Bool) : ∀ (k : Nat) (l : List Int) (m : List D), l.length ≤ k → pairS fr l = some m → m.length * 2 = l.length := by
  intro k
  induction k with
  | zero =>
    intro l m hl h
    have : l = [] := List.eq_nil_of_length_eq_zero (by omega)
    subst this
    rw [pairS_nil] at h
    injection h with h
    subst h
    rfl
  | succ k ih =>
    intro l m hl h
    cases l with
    | nil =>
      rw [pairS_nil] at h
      injection h with h
      subst h
      rfl
    | cons x r =>
      rw [pairS_cons] at h
      obtain ⟨i, hi, hx⟩ := firstF_some_inv h
      unfold tryS at hx
      split at hx
      · obtain ⟨l', hl', rfl⟩ := Option.map_eq_some_iff.1 hx
        have h1 := ih _ _ (by rw [List.length_eraseIdx_of_lt hi]; simp at hl; omega) hl'
        rw [List.length_eraseIdx_of_lt hi] at h1
        simp only [List.length_cons]
        omega
      · cases hx
theorem pairS_len {fr : Int → Int → Bool} {l : List Int} {m : List D} (h : pairS fr l = some m) : m.length * 2 = l.length := pairS_len' fr l.length l m (Nat.le_refl _) h

set_option maxRecDepth 100000 in
set_option maxHeartbeats 1600000 in
theorem pair_any (B p : Nat) (st : TS) (x0 : TC) : ∀ (k : Nat) (l : List Int), l.length ≤ k → l.length ≤ 20 → ∀ (A : Option Addr) (n c : Nat) (w : World), Tn w B p st x0 → Reads w 1 A n (ics l) → n ≤ c → c ≤ 9223372036854775807 → (A = none → c = 0) → (∀ z ∈ l, 0 ≤ z ∧ z < st.n) →
    Calls Try.prog 39 #[.pointer (some ⟨p, 0, none⟩), .slice A n c] w (PairEnd (pairS (frS st) l) w) := by
  intro k
  induction k with
  | zero =>
    intro l hl _ A n c w ht hx hc hc2 hA hr
    have : l = [] := List.eq_nil_of_length_eq_zero (by omega)
    subst this
    obtain rfl : n = 0 := by have := ilen hx; simpa using this.symm
    rw [pairS_nil]
    clear ht hx hr
    go_enter Try.func39, Try.ntmps39
    go_wp2
    go_ret2
    exact ⟨none, 0, rfl, XOwns.nil_ _ _ _ _, Below.refl _ _⟩
  | succ k ih =>
    intro l hl hl20 A n c w ht hx hc hc2 hA hr
    cases hll : l with
    | nil =>
      subst hll
      obtain rfl : n = 0 := by have := ilen hx; simpa using this.symm
      rw [pairS_nil]
      clear ht hx hr ih
      go_enter Try.func39, Try.ntmps39
      go_wp2
      go_ret2
      exact ⟨none, 0, rfl, XOwns.nil_ _ _ _ _, Below.refl _ _⟩
    | cons x r =>
      have hnl := ilen hx
      have hn1 : r.length + 1 = n := by rw [hll] at hnl; simpa using hnl
      have HL := Lib.hid hn1
      have HK : Hid (r.length ≤ k) := Lib.hid (by rw [hll] at hl; simpa using hl)
      have hnk : n ≤ k + 1 := by have := HK.out; omega
      have hn20 : n ≤ 20 := by omega
      rw [pairS_cons]
      have HT : Hid (∀ W, Below w.heap.size w W → Tn W B p st x0) := Lib.hid fun W h => ht.below h
      have HX0 : Hid (∀ W, Below w.heap.size w W → Reads W 1 A n (ics l)) := Lib.hid fun W h => hx.below h
      have HXR := Lib.hid hll
      have HR : Hid (∀ z ∈ r, 0 ≤ z ∧ z < st.n) := Lib.hid fun z hz => hr z (by rw [hll]; exact List.mem_cons_of_mem _ hz)
      have hxr := hr x (by rw [hll]; exact List.mem_cons_self ..)
      have IH : Hid (∀ (l : List Int), l.length ≤ k → l.length ≤ 20 → ∀ (A : Option Addr) (n c : Nat) (w : World), Tn w B p st x0 → Reads w 1 A n (ics l) → n ≤ c → c ≤ 9223372036854775807 → (A = none → c = 0) → (∀ z ∈ l, 0 ≤ z ∧ z < st.n) →
        Calls Try.prog 39 #[.pointer (some ⟨p, 0, none⟩), .slice A n c] w (PairEnd (pairS (frS st) l) w)) := Lib.hid ih
      obtain ⟨ad, rfl, _, _⟩ := int_at hx (k := 0) (by omega)
      have HX := HX0
      have hn1' : 1 ≤ n := by omega
      have hn0 : ((n : Int) == 0) = false := by rw [beq_eq_false_iff_ne]; omega
      clear ht hx hr ih hl hll hnl hn1 hA HX0 hl20
      go_enter Try.func39, Try.ntmps39
      go_wp2
      go_loopw [6] (fun i W => ∃ j : Nat, 1 ≤ j ∧ j ≤ n ∧ i = .int .i64 j ∧ Hid (∀ q, q < j - 1 → tryS (frS st) x r q = none) ∧ Below w.heap.size w W) (fun i _ => n - (intOf i).toNat)
      case atStart => exact ⟨1, Nat.le_refl _, by omega, rfl, Lib.hid (fun q h => absurd h (by omega)), Below.refl _ _⟩
      case round =>
        obtain ⟨j, hj1, hjn, rfl, HE, hB⟩ := hrel
        have hz := hB.size
        by_cases hlt : j < n
        · have hlt' : (j : Int) < n := by omega
          have hXr := HX.out _ hB
          have c0 : ∀ s : Later wr.heap.size wr, s.W.cell? ad = some (.int .i64 x) := fun s => by
            have h := int_cell (hXr.below s.h) (k := 0) (by omega)
            rw [HXR.out] at h
            simpa [Addr.add, ith] using h
          have cj : ∀ s : Later wr.heap.size wr, s.W.cell? (ad.add j) = some (.int .i64 (r.getD (j - 1) 0)) := fun s => by
            have h := int_cell (hXr.below s.h) (k := j) (by omega)
            rw [HXR.out, ith_cons hj1] at h
            exact h
          have hyr : 0 ≤ r.getD (j - 1) 0 ∧ r.getD (j - 1) 0 < st.n := HR.out _ (by
            have : j - 1 < r.length := by have := HL.out; omega
            rw [List.getD_eq_getElem?_getD, List.getElem?_eq_getElem this]
            exact List.getElem_mem _)
          have HFR : Hid (∀ s : Later wr.heap.size wr, Calls Try.prog 40 #[.pointer (some ⟨p, 0, none⟩), .int .i64 x, .int .i64 (r.getD (j - 1) 0)] s.W fun e w' => e = .returned (.bool (frS st x (r.getD (j - 1) 0))) ∧ s.W = w') := Lib.hid fun s => free_any B p st x0 x _ _ (HT.out _ (hB.trans (s.h.mono hz))) hxr hyr
          generalize hy : r.getD (j - 1) 0 = y at *
          have HY := Lib.hid hy
          clear hXr hy
          go_wp2
          refine wp_region_later (B := wr.heap.size) (w0 := wr) (Below.refl _ _) (by kernel_rfl) (by kernel_rfl) ?_
          repeat (go_big_quiet_step ((go_at_call 40; with_reducible exact Calls.later_same (HFR.out _))))
          refine wpQuiet_nil ?_
          intro _ hw'
          obtain ⟨s, hw2⟩ := hw'
          subst hw2
          obtain ⟨w2, hb2⟩ := s
          have hB2 := below_call hB hb2 hz
          have hz2 := hB2.size
          clear c0 cj HFR
          cases hfr : frS st x y with
          | false =>
            have HFF := Lib.hid hfr
            clear hfr
            go_wp2
            go_roundw
            case rel => exact ⟨j + 1, by omega, by omega, by go_num, Lib.hid (by
              intro q hq
              rcases Nat.lt_or_ge q (j - 1) with h | h
              · exact HE.out q h
              · obtain rfl : q = j - 1 := by omega
                unfold tryS
                rw [HY.out, HFF.out]
                rfl), hB2⟩
            case measure => simp [intOf]; omega
          | true =>
            have HFF := Lib.hid hfr
            clear hfr
            have hj2 : ((j : Int) + 1) ≤ n := by omega
            have hjw : IntKind.i64.wrap ((j : Int) + 1) = (j : Int) + 1 := IntWalk.i64_in _ (by omega)
            have hcn : (n : Int) ≤ c := by omega
            have hc1 : (c = 1) = False := eq_false (by omega)
            by_cases hcs : c = j + 1
            · have hcs' : (c = j + 1) = True := eq_true hcs
              have HCS := Lib.hid hcs
              clear hcs
              go_wp2
              refine wp_region_sched (fun w' => ∃ s : Later w2.heap.size w2, w' = s.W) [0,1,2,3,4,5,6,7] (.one 8 [] (.one 9 [] (.one 10 [11,12,13,14,15] .done))) (by kernel_rfl) (by kernel_rfl) (fun d _ _ _ _ h => by cases d <;> exact h) ⟨⟨_, (Below.refl _ _).drew⟩, rfl⟩ ?_
              simp only [opsAt, List.getElem?_toArray, List.getElem?_cons_succ, List.getElem?_cons_zero]
              repeat (go_big_quiet_step (fail))
              refine wpQuiet_nil ?_
              (refine eff_lit rfl rfl (fun K hK => ?_))
              go_big_op
              have hBa : Below w2.heap.size w2 (w2.alloc (.cells #[.slice (some (ad.add 1)) (j - 1) (c - 1), .slice (some ad) (n - (j + 1)) (c - (j + 1))] 37)).drew := ((Below.refl _ _).alloc (Nat.le_refl _) _).drew
              have HBK := Lib.hid ((Blk.mk_ w2 37 _ _ rfl).drew : Blk (w2.alloc (.cells #[.slice (some (ad.add 1)) (j - 1) (c - 1), .slice (some ad) (n - (j + 1)) (c - (j + 1))] 37)).drew w2.heap.size 37 #[.slice (some (ad.add 1)) (j - 1) (c - 1), .slice (some ad) (n - (j + 1)) (c - (j + 1))])
              refine hK _ _ ⟨⟨_, hBa⟩, rfl⟩ ?_
              clear hK K
              simp only [opsAt, List.getElem?_toArray, List.getElem?_cons_succ, List.getElem?_cons_zero]
              refine wpQuiet_nil ?_
              (refine eff_lit rfl rfl (fun K hK => ?_))
              go_big_op
              have hR := HX.out _ (hB2.trans (hBa.mono hz2))
              refine (concat_any w2.heap.size 37 (some (ad.add 1)) (some ad) (j - 1) (c - 1) (n - (j + 1)) (c - (j + 1)) (r.take (j - 1)) (r.drop j) _ HBK.out (cut_one HXR.out hR hj1 (by omega) hc) (cut_two_end HXR.out hR (by omega) hc HCS.out) (fun h => by cases h) (fun h => by cases h) (by omega) (by omega)).mono ?_
              rintro e w3 ⟨A3, c3, rfl, hO3, hb3⟩
              rw [← List.eraseIdx_eq_take_drop_succ' (by omega : 1 ≤ j)] at hO3
              have hB3 := below_call hBa hb3 hBa.size
              have hz3 := hB3.size
              have HO3 := Lib.hid hO3
              have hn3 : j - 1 + (n - (j + 1)) = n - 2 := by omega
              have HC3 := Lib.hid hO3.capOk
              rw [hn3] at HO3 HC3 ⊢
              clear hR hO3
              refine hK _ _ ⟨⟨_, hB3⟩, rfl⟩ ?_
              clear hK K
              simp only [opsAt, List.getElem?_toArray, List.getElem?_cons_succ, List.getElem?_cons_zero]
              refine wpQuiet_nil ?_
              (refine eff_lit rfl rfl (fun K hK => ?_))
              go_big_op
              refine (IH.out (r.eraseIdx (j - 1)) (by rw [List.length_eraseIdx_of_lt (by have := HL.out; omega)]; have := HL.out; omega) (by rw [List.length_eraseIdx_of_lt (by have := HL.out; omega)]; have := HL.out; omega) A3 (n - 2) c3 _ (HT.out _ (hB2.trans (hB3.mono hz2))) HO3.out.reads HC3.out.1 HC3.out.2 HO3.out.2 (fun z hz => HR.out z (List.mem_of_mem_eraseIdx' hz))).mono ?_
              intro e w4 hP
              generalize hr : pairS (frS st) (r.eraseIdx (j - 1)) = res at hP
              have HRES := Lib.hid hr
              clear hr
              cases res with
              | none =>
                obtain ⟨rfl, hb4⟩ := hP
                have hB4 := below_call hB3 hb4 hz3
                refine hK _ _ ⟨⟨_, hB4⟩, rfl⟩ ?_
                clear hK K
                simp only [opsAt, List.getElem?_toArray, List.getElem?_cons_succ, List.getElem?_cons_zero]
                repeat (go_big_quiet_step (fail))
                refine wpQuiet_nil ?_
                refine effs_done ?_
                go_wp2
                go_roundw
                case rel => exact ⟨j + 1, by omega, by omega, by go_num, Lib.hid (by
                  intro q hq
                  rcases Nat.lt_or_ge q (j - 1) with h | h
                  · exact HE.out q h
                  · obtain rfl : q = j - 1 := by omega
                    unfold tryS
                    rw [HRES.out]
                    split <;> rfl), hB2.trans (hB4.mono hz2)⟩
                case measure => simp [intOf]; omega
              | some m =>
                obtain ⟨A4, c4, rfl, hO4, hb4⟩ := hP
                have hB4 := below_call hB3 hb4 hz3
                have hz4 := hB4.size
                have HO4 := Lib.hid hO4
                have hml := pairS_len HRES.out
                rw [List.length_eraseIdx_of_lt (by have := HL.out; omega)] at hml
                have hml' : m.length ≤ 1000 := by have := HL.out; omega
                clear hO4
                refine hK _ _ ⟨⟨_, hB4⟩, rfl⟩ ?_
                clear hK K
                simp only [opsAt, List.getElem?_toArray, List.getElem?_cons_succ, List.getElem?_cons_zero]
                repeat (go_big_quiet_step (fail))
                refine wpQuiet_nil ?_
                refine effs_done ?_
                have hX4 := HX.out _ (hB2.trans (hB4.mono hz2))
                have c0 : ∀ s : Later w4.heap.size w4, s.W.cell? ad = some (.int .i64 x) := fun s => by
                  have h := int_cell (hX4.below s.h) (k := 0) (by omega)
                  rw [HXR.out] at h
                  simpa [Addr.add, ith] using h
                have cj : ∀ s : Later w4.heap.size w4, s.W.cell? (ad.add j) = some (.int .i64 y) := fun s => by
                  have h := int_cell (hX4.below s.h) (k := j) (by omega)
                  rw [HXR.out, ith_cons hj1, HY.out] at h
                  exact h
                clear hX4
                go_wp2
                refine wp_region_sched (fun w' => ∃ s : Later w4.heap.size w4, w' = s.W) [0,1,2,3,4,5,6,7,9] (.one 8 [] (.one 10 [11,12] .done)) (by kernel_rfl) (by kernel_rfl) (fun d _ _ _ _ h => by cases d <;> exact h) ⟨⟨_, (Below.refl _ _).drew⟩, rfl⟩ ?_
                simp only [opsAt, List.getElem?_toArray, List.getElem?_cons_succ, List.getElem?_cons_zero]
                repeat (go_big_quiet_step (fail))
                refine wpQuiet_nil ?_
                (refine eff_lit rfl rfl (fun K hK => ?_))
                go_big_op
                have hB5 : Below w4.heap.size w4 (w4.alloc (.cells #[.int .i64 x, .int .i64 y] 33)).drew := ((Below.refl _ _).alloc (Nat.le_refl _) _).drew
                have HO5 : Hid (XOwns (w4.alloc (.cells #[.int .i64 x, .int .i64 y] 33)).drew w4.heap.size 33 2 (some ⟨w4.heap.size, 0, none⟩) 1 1 (dcells [⟨x, y⟩])) := Lib.hid ((XOwns.lit w4 w4.heap.size 33 2 #[.int .i64 x, .int .i64 y] 1 (Nat.le_refl _) (by omega) rfl).below (Below.refl _ _).drew)
                refine hK _ _ ⟨⟨_, hB5⟩, rfl⟩ ?_
                clear hK K
                simp only [opsAt, List.getElem?_toArray, List.getElem?_cons_succ, List.getElem?_cons_zero]
                refine wpQuiet_nil ?_
                (refine eff_lit rfl rfl (fun K hK => ?_))
                refine append_xr_op (w := (w4.alloc (.cells #[.int .i64 x, .int .i64 y] 33)).drew) (.tmp 51) (.tmp 52) 29 rfl w4.heap.size 33 (.agg #[.int .i64 0, .int .i64 0]) 2 16 Try.info33 Try.underlying29 rfl (by decide) (some ⟨w4.heap.size, 0, none⟩) 1 1 (dcells [⟨x, y⟩]) rfl HO5.out A4 m.length c4 (dcells m) rfl HO4.out.2 (HO4.out.reads.below hB5) (dcells_one _) (by omega) (by omega) hB5.size ?_
                intro A6 c6 w6 ho6 hb6
                simp only [Act.put, List.setIfInBounds_toArray, List.set_cons_succ, List.set_cons_zero]
                have hB6 := hB5.trans hb6
                have HO6 := Lib.hid ho6
                rw [show 1 + m.length = m.length + 1 by omega] at HO6 ⊢
                refine hK _ _ ⟨⟨_, hB6⟩, rfl⟩ ?_
                clear hK K c0 cj
                simp only [opsAt, List.getElem?_toArray, List.getElem?_cons_succ, List.getElem?_cons_zero]
                repeat (go_big_quiet_step (fail))
                refine wpQuiet_nil ?_
                refine effs_done ?_
                have HFI : Hid (firstF (tryS (frS st) x r) r.length = some (⟨x, y⟩ :: m)) := Lib.hid (firstF_some (i := j - 1) (by have := HL.out; omega) (fun q hq => HE.out q hq) (by unfold tryS; rw [HY.out, HFF.out, HRES.out]; rfl))
                go_wp2
                go_ret2
                rw [HFI.out]
                exact ⟨A6, c6, rfl, by (have h := HO6.out; rw [← dcells_app] at h; exact h.more (by omega)), hB2.trans ((hB4.trans (hB6.mono hz4)).mono hz2)⟩
            · have hcs' : (c = j + 1) = False := eq_false hcs
              have HCS := Lib.hid hcs
              clear hcs
              go_wp2
              refine wp_region_sched (fun w' => ∃ s : Later w2.heap.size w2, w' = s.W) [0,1,2,3,4,5,6,7] (.one 8 [] (.one 9 [] (.one 10 [11,12,13,14,15] .done))) (by kernel_rfl) (by kernel_rfl) (fun d _ _ _ _ h => by cases d <;> exact h) ⟨⟨_, (Below.refl _ _).drew⟩, rfl⟩ ?_
              simp only [opsAt, List.getElem?_toArray, List.getElem?_cons_succ, List.getElem?_cons_zero]
              repeat (go_big_quiet_step (fail))
              refine wpQuiet_nil ?_
              (refine eff_lit rfl rfl (fun K hK => ?_))
              go_big_op
              have hBa : Below w2.heap.size w2 (w2.alloc (.cells #[.slice (some (ad.add 1)) (j - 1) (c - 1), .slice (some (ad.add (j + 1))) (n - (j + 1)) (c - (j + 1))] 37)).drew := ((Below.refl _ _).alloc (Nat.le_refl _) _).drew
              have HBK := Lib.hid ((Blk.mk_ w2 37 _ _ rfl).drew : Blk (w2.alloc (.cells #[.slice (some (ad.add 1)) (j - 1) (c - 1), .slice (some (ad.add (j + 1))) (n - (j + 1)) (c - (j + 1))] 37)).drew w2.heap.size 37 #[.slice (some (ad.add 1)) (j - 1) (c - 1), .slice (some (ad.add (j + 1))) (n - (j + 1)) (c - (j + 1))])
              refine hK _ _ ⟨⟨_, hBa⟩, rfl⟩ ?_
              clear hK K
              simp only [opsAt, List.getElem?_toArray, List.getElem?_cons_succ, List.getElem?_cons_zero]
              refine wpQuiet_nil ?_
              (refine eff_lit rfl rfl (fun K hK => ?_))
              go_big_op
              have hR := HX.out _ (hB2.trans (hBa.mono hz2))
              refine (concat_any w2.heap.size 37 (some (ad.add 1)) (some (ad.add (j + 1))) (j - 1) (c - 1) (n - (j + 1)) (c - (j + 1)) (r.take (j - 1)) (r.drop j) _ HBK.out (cut_one HXR.out hR hj1 (by omega) hc) (cut_two HXR.out hR (by omega) hc HCS.out) (fun h => by cases h) (fun h => by cases h) (by omega) (by omega)).mono ?_
              rintro e w3 ⟨A3, c3, rfl, hO3, hb3⟩
              rw [← List.eraseIdx_eq_take_drop_succ' (by omega : 1 ≤ j)] at hO3
              have hB3 := below_call hBa hb3 hBa.size
              have hz3 := hB3.size
              have HO3 := Lib.hid hO3
              have hn3 : j - 1 + (n - (j + 1)) = n - 2 := by omega
              have HC3 := Lib.hid hO3.capOk
              rw [hn3] at HO3 HC3 ⊢
              clear hR hO3
              refine hK _ _ ⟨⟨_, hB3⟩, rfl⟩ ?_
              clear hK K
              simp only [opsAt, List.getElem?_toArray, List.getElem?_cons_succ, List.getElem?_cons_zero]
              refine wpQuiet_nil ?_
              (refine eff_lit rfl rfl (fun K hK => ?_))
              go_big_op
              refine (IH.out (r.eraseIdx (j - 1)) (by rw [List.length_eraseIdx_of_lt (by have := HL.out; omega)]; have := HL.out; omega) (by rw [List.length_eraseIdx_of_lt (by have := HL.out; omega)]; have := HL.out; omega) A3 (n - 2) c3 _ (HT.out _ (hB2.trans (hB3.mono hz2))) HO3.out.reads HC3.out.1 HC3.out.2 HO3.out.2 (fun z hz => HR.out z (List.mem_of_mem_eraseIdx' hz))).mono ?_
              intro e w4 hP
              generalize hr : pairS (frS st) (r.eraseIdx (j - 1)) = res at hP
              have HRES := Lib.hid hr
              clear hr
              cases res with
              | none =>
                obtain ⟨rfl, hb4⟩ := hP
                have hB4 := below_call hB3 hb4 hz3
                refine hK _ _ ⟨⟨_, hB4⟩, rfl⟩ ?_
                clear hK K
                simp only [opsAt, List.getElem?_toArray, List.getElem?_cons_succ, List.getElem?_cons_zero]
                repeat (go_big_quiet_step (fail))
                refine wpQuiet_nil ?_
                refine effs_done ?_
                go_wp2
                go_roundw
                case rel => exact ⟨j + 1, by omega, by omega, by go_num, Lib.hid (by
                  intro q hq
                  rcases Nat.lt_or_ge q (j - 1) with h | h
                  · exact HE.out q h
                  · obtain rfl : q = j - 1 := by omega
                    unfold tryS
                    rw [HRES.out]
                    split <;> rfl), hB2.trans (hB4.mono hz2)⟩
                case measure => simp [intOf]; omega
              | some m =>
                obtain ⟨A4, c4, rfl, hO4, hb4⟩ := hP
                have hB4 := below_call hB3 hb4 hz3
                have hz4 := hB4.size
                have HO4 := Lib.hid hO4
                have hml := pairS_len HRES.out
                rw [List.length_eraseIdx_of_lt (by have := HL.out; omega)] at hml
                have hml' : m.length ≤ 1000 := by have := HL.out; omega
                clear hO4
                refine hK _ _ ⟨⟨_, hB4⟩, rfl⟩ ?_
                clear hK K
                simp only [opsAt, List.getElem?_toArray, List.getElem?_cons_succ, List.getElem?_cons_zero]
                repeat (go_big_quiet_step (fail))
                refine wpQuiet_nil ?_
                refine effs_done ?_
                have hX4 := HX.out _ (hB2.trans (hB4.mono hz2))
                have c0 : ∀ s : Later w4.heap.size w4, s.W.cell? ad = some (.int .i64 x) := fun s => by
                  have h := int_cell (hX4.below s.h) (k := 0) (by omega)
                  rw [HXR.out] at h
                  simpa [Addr.add, ith] using h
                have cj : ∀ s : Later w4.heap.size w4, s.W.cell? (ad.add j) = some (.int .i64 y) := fun s => by
                  have h := int_cell (hX4.below s.h) (k := j) (by omega)
                  rw [HXR.out, ith_cons hj1, HY.out] at h
                  exact h
                clear hX4
                go_wp2
                refine wp_region_sched (fun w' => ∃ s : Later w4.heap.size w4, w' = s.W) [0,1,2,3,4,5,6,7,9] (.one 8 [] (.one 10 [11,12] .done)) (by kernel_rfl) (by kernel_rfl) (fun d _ _ _ _ h => by cases d <;> exact h) ⟨⟨_, (Below.refl _ _).drew⟩, rfl⟩ ?_
                simp only [opsAt, List.getElem?_toArray, List.getElem?_cons_succ, List.getElem?_cons_zero]
                repeat (go_big_quiet_step (fail))
                refine wpQuiet_nil ?_
                (refine eff_lit rfl rfl (fun K hK => ?_))
                go_big_op
                have hB5 : Below w4.heap.size w4 (w4.alloc (.cells #[.int .i64 x, .int .i64 y] 33)).drew := ((Below.refl _ _).alloc (Nat.le_refl _) _).drew
                have HO5 : Hid (XOwns (w4.alloc (.cells #[.int .i64 x, .int .i64 y] 33)).drew w4.heap.size 33 2 (some ⟨w4.heap.size, 0, none⟩) 1 1 (dcells [⟨x, y⟩])) := Lib.hid ((XOwns.lit w4 w4.heap.size 33 2 #[.int .i64 x, .int .i64 y] 1 (Nat.le_refl _) (by omega) rfl).below (Below.refl _ _).drew)
                refine hK _ _ ⟨⟨_, hB5⟩, rfl⟩ ?_
                clear hK K
                simp only [opsAt, List.getElem?_toArray, List.getElem?_cons_succ, List.getElem?_cons_zero]
                refine wpQuiet_nil ?_
                (refine eff_lit rfl rfl (fun K hK => ?_))
                refine append_xr_op (w := (w4.alloc (.cells #[.int .i64 x, .int .i64 y] 33)).drew) (.tmp 51) (.tmp 52) 29 rfl w4.heap.size 33 (.agg #[.int .i64 0, .int .i64 0]) 2 16 Try.info33 Try.underlying29 rfl (by decide) (some ⟨w4.heap.size, 0, none⟩) 1 1 (dcells [⟨x, y⟩]) rfl HO5.out A4 m.length c4 (dcells m) rfl HO4.out.2 (HO4.out.reads.below hB5) (dcells_one _) (by omega) (by omega) hB5.size ?_
                intro A6 c6 w6 ho6 hb6
                simp only [Act.put, List.setIfInBounds_toArray, List.set_cons_succ, List.set_cons_zero]
                have hB6 := hB5.trans hb6
                have HO6 := Lib.hid ho6
                rw [show 1 + m.length = m.length + 1 by omega] at HO6 ⊢
                refine hK _ _ ⟨⟨_, hB6⟩, rfl⟩ ?_
                clear hK K c0 cj
                simp only [opsAt, List.getElem?_toArray, List.getElem?_cons_succ, List.getElem?_cons_zero]
                repeat (go_big_quiet_step (fail))
                refine wpQuiet_nil ?_
                refine effs_done ?_
                have HFI : Hid (firstF (tryS (frS st) x r) r.length = some (⟨x, y⟩ :: m)) := Lib.hid (firstF_some (i := j - 1) (by have := HL.out; omega) (fun q hq => HE.out q hq) (by unfold tryS; rw [HY.out, HFF.out, HRES.out]; rfl))
                go_wp2
                go_ret2
                rw [HFI.out]
                exact ⟨A6, c6, rfl, by (have h := HO6.out; rw [← dcells_app] at h; exact h.more (by omega)), hB2.trans ((hB4.trans (hB6.mono hz4)).mono hz2)⟩
        · obtain rfl : j = n := by omega
          have HF : Hid (firstF (tryS (frS st) x r) r.length = none) := Lib.hid (firstF_none fun i hi => HE.out i (by have := HL.out; omega))
          go_wp2
          go_ret2
          rw [HF.out]
          exact ⟨rfl, hB⟩
end Go.Proofs.Ytngcmihaheiigaa
