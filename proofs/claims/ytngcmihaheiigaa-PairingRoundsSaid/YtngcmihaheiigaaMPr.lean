/-
  The model's pairing.
-/
import Derived.Test.YtngcmihaheiigaaMPrP
import Derived.Deep.DeepCutAuto
set_option linter.unusedSimpArgs false
set_option linter.unusedVariables false
namespace Go.Proofs.Ytngcmihaheiigaa
open Go.RowKit

/-- The bye's duel, if there is one. -/
def byeT (b : Int) : List D := if b < 0 then [] else [⟨b, -1⟩]
/-- In the search of a bye. -/
def MPBye (st : TS) (w : World) (A0 : Option Addr) (c0 : Nat) (v u i : Value) (W : World) : Prop :=
  (∃ q : Nat, q ≤ st.n ∧ v = .slice A0 st.n c0 ∧ u = .int .i64 (-1) ∧ i = .int .i64 ((st.n : Int) - 1 - q) ∧ Hid (∀ q', q' < q → okB (frS st) st.ord (st.n - 1 - q') = false) ∧ XOwns W w.heap.size 3 1 A0 st.n c0 (ics st.ord) ∧ Below w.heap.size w W) ∨
  (∃ (A : Option Addr) (c b : Nat) (j : Int), v = .slice A (st.n - 1) c ∧ u = .int .i64 b ∧ i = .int .i64 j ∧ -1 ≤ j ∧ j ≤ 100 ∧ b ≤ 100 ∧ ∃ l : List Int, l.length = st.n - 1 ∧ XOwns W w.heap.size 3 1 A (st.n - 1) c (ics l) ∧ Hid (wholeS (frS st) st.ord = (pairS (frS st) l).map (fun m => m ++ [⟨b, -1⟩])) ∧ Below w.heap.size w W)
/-- Behind the search of a bye. -/
def MPCut (st : TS) (w : World) (v u : Value) (W : World) : Prop := ∃ (l : List Int) (A : Option Addr) (c : Nat) (b : Int), v = .slice A l.length c ∧ u = .int .i64 b ∧ XOwns W w.heap.size 3 1 A l.length c (ics l) ∧ l.length ≤ 20 ∧ -1 ≤ b ∧ b ≤ 100 ∧ Hid (wholeS (frS st) st.ord = (pairS (frS st) l).map (fun m => m ++ byeT b)) ∧ Below w.heap.size w W

/-- At the head of the search of a pair. -/
def MPOut (st : TS) (w : World) (b : Int) (v o : Value) (W : World) : Prop := ∃ (l : List Int) (A : Option Addr) (c : Nat) (out : List D) (Ao : Option Addr) (co : Nat), v = .slice A l.length c ∧ o = .slice Ao out.length co ∧ XOwns W w.heap.size 3 1 A l.length c (ics l) ∧ XOwns W w.heap.size 33 2 Ao out.length co (dcells out) ∧ 2 * out.length + l.length ≤ 20 ∧ Hid (wholeS (frS st) st.ord = (pairS (frS st) l).map (fun m => (out ++ m) ++ byeT b)) ∧ Below w.heap.size w W
/-- Within it. -/
def MPIn (st : TS) (w : World) (b : Int) (l : List Int) (n : Nat) (A : Option Addr) (c : Nat) (out : List D) (Ao : Option Addr) (co : Nat) (v o f i : Value) (W : World) : Prop :=
  (∃ k : Nat, 1 ≤ k ∧ k ≤ n ∧ v = .slice A n c ∧ o = .slice Ao out.length co ∧ f = .bool false ∧ i = .int .i64 k ∧ Hid (∀ j, 1 ≤ j → j < k → okI (frS st) l j = false) ∧ XOwns W w.heap.size 3 1 A n c (ics l) ∧ XOwns W w.heap.size 33 2 Ao out.length co (dcells out) ∧ Below w.heap.size w W) ∨
  (∃ (l' : List Int) (A' : Option Addr) (c' : Nat) (out' : List D) (Ao' : Option Addr) (co' k : Nat), v = .slice A' l'.length c' ∧ o = .slice Ao' out'.length co' ∧ f = .bool true ∧ i = .int .i64 k ∧ k ≤ 100 ∧ l'.length + 2 = n ∧ out'.length = out.length + 1 ∧ XOwns W w.heap.size 3 1 A' l'.length c' (ics l') ∧ XOwns W w.heap.size 33 2 Ao' out'.length co' (dcells out') ∧ Hid (wholeS (frS st) st.ord = (pairS (frS st) l').map (fun m => (out' ++ m) ++ byeT b)) ∧ Below w.heap.size w W)
def lenOf : Value → Nat
  | .slice _ n _ => n
  | _ => 0
def leftOf (n : Nat) : Value → Value → Nat
  | .bool true, _ => 0
  | _, i => (n - intOf i).toNat
theorem wo_len2 {l : List Int} {i : Nat} (h1 : 1 ≤ i) (h2 : i < l.length) : (woS l i true).length + 2 = l.length := by
  rw [woT, List.length_eraseIdx_of_lt (by rw [List.length_drop]; omega), List.length_drop]
  omega

set_option maxRecDepth 100000 in
set_option maxHeartbeats 1600000 in
theorem mpairing_any (B p : Nat) (st : TS) (x : MC) (w : World) (h : Mn w B p st x) : Calls Try.prog 32 #[.pointer (some ⟨p, 0, none⟩)] w (PairEnd (wholeS (frS st) st.ord) w) := by
  have HT : Hid (∀ W, Below w.heap.size w W → Mn W B p st x) := Lib.hid fun W hb => h.below hb
  have hn := h.ok.n0
  have hplt := h.blk.lt
  have HT0 := Lib.hid h
  have HOR := Lib.hid (TS.ord_mem h.ok)
  have hol : Hid (st.ord.length = st.n) := Lib.hid HOR.out.2.2
  have HRG : Hid (∀ z ∈ st.ord, 0 ≤ z ∧ z < st.n) := Lib.hid HOR.out.1
  clear h HOR
  obtain ⟨hn1, hn2⟩ := hn
  go_enter Try.func32, Try.ntmps32
  go_upto_if 17 with (first
    | (go_at_call 30; refine (morder_any B p st _ _ HT0.out).mono ?_; rintro e w1 ⟨A0, c0, rfl, ho1, hb1⟩; rw [hol.out] at ho1 ⊢; have HO := Lib.hid ho1; have hz1 := hb1.size; have x0 : w1.cell? ⟨p, 0, none⟩ = some (.int .i64 st.n) := ((HT.out _ hb1).blk.at_ 0).trans rfl; clear ho1)
    | fail)
  go_cut [4, 5] (fun v u W => MPCut st w v u W)
  case first =>
    by_cases hev : st.n % 2 = 0
    · have HC : Hid (MPCut st w (.slice A0 st.n c0) (.int .i64 (-1)) w1) := Lib.hid ⟨st.ord, A0, c0, -1, by rw [hol.out], rfl, by rw [hol.out]; exact HO.out, by rw [hol.out]; omega, Int.le_refl _, by decide, Lib.hid (by rw [whole_even (by rw [hol.out]; exact hev)]; cases pairS (frS st) st.ord <;> simp [byeT]), hb1⟩
      have hmb : ((st.n : Int) % 2 == 1) = false := by rw [beq_eq_false_iff_ne]; omega
      clear hev
      go_wp2
      go_meet
      case rel => exact HC.out
    · have hmb : ((st.n : Int) % 2 == 1) = true := by rw [beq_iff_eq]; omega
      have HOD : Hid (st.n % 2 = 1) := Lib.hid (by omega)
      have hw1 : IntKind.i64.wrap ((st.n : Int) - 1) = (st.n : Int) - 1 := IntWalk.i64_in _ (by omega)
      clear hev
      obtain ⟨ad, rfl, _, _⟩ := int_at HO.out.reads (k := 0) (by omega)
      go_wp2
      go_loopw [4, 5, 6] (fun v u i W => MPBye st w (some ad) c0 v u i W) (fun _ u i _ => if intOf u < 0 then (intOf i + 1).toNat else 0)
      case atStart => exact .inl ⟨0, Nat.zero_le _, rfl, rfl, by go_num, Lib.hid (fun q h => absurd h (by omega)), HO.out, hb1⟩
      case round =>
        rcases hrel with ⟨q, hq, rfl, rfl, rfl, HE, hO, hB⟩ | ⟨A, c, b, j, rfl, rfl, rfl, hj1, hj2, hb100, l, hll, hO, HW, hB⟩
        · have HO1 := Lib.hid hO
          have hz := hB.size
          clear hO
          by_cases hlt : q < st.n
          · obtain ⟨j, hj⟩ : ∃ j, st.n - 1 - q = j := ⟨_, rfl⟩
            have HJ := Lib.hid hj
            have hjn : j < st.n := by omega
            have hji : ((st.n : Int) - 1 - q) = (j : Int) := by omega
            rw [hji]
            have hj0 : (0 : Int) ≤ j := by omega
            have hlt' : (j : Int) < st.n := by omega
            have hXr := HO1.out.reads
            have cj : ∀ s : Later wr.heap.size wr, s.W.cell? (ad.add j) = some (.int .i64 (ith st.ord j)) := fun s => int_cell (hXr.below s.h) (k := j) hjn
            have HOKD : Hid (okB (frS st) st.ord j = (frS st (ith st.ord j) (ith st.ord j) && (pairS (frS st) (woS st.ord j false)).isSome)) := Lib.hid rfl
            have hyr : 0 ≤ ith st.ord j ∧ ith st.ord j < st.n := HRG.out _ (List.mem_of_getElem? (ith_get (by rw [hol.out]; exact hjn)))
            have hjm : IntKind.i64.wrap ((j : Int) - 1) = (st.n : Int) - 1 - ((q + 1 : Nat) : Int) := by rw [IntWalk.i64_in _ (by omega)]; omega
            have HNX : Hid (okB (frS st) st.ord j = false → ∀ q', q' < q + 1 → okB (frS st) st.ord (st.n - 1 - q') = false) := Lib.hid (fun h q' hq' => by
              rcases Nat.lt_or_ge q' q with h1 | h1
              · exact HE.out q' h1
              · obtain rfl : q' = q := by omega
                rw [HJ.out]; exact h)
            generalize hy : ith st.ord j = y at *
            have HY := Lib.hid hy
            have HWL : Hid ((woS st.ord j false).length = st.n - 1) := Lib.hid (by rw [woF, List.length_eraseIdx_of_lt (by rw [hol.out]; exact hjn), hol.out])
            clear hXr hy hj hji
            go_wp2
            refine wp_region_sched (fun w' => ∃ s : Later wr.heap.size wr, w' = s.W) [0,1,2,3,4,5,6,7,8] (.one 9 [10,11,12,13,14] (.one 15 [] (.one 16 [17] .done))) (by kernel_rfl) (by kernel_rfl) (fun d _ _ _ _ h => by cases d <;> exact h) ⟨⟨_, (Below.refl _ _).drew⟩, rfl⟩ ?_
            simp only [opsAt, List.getElem?_toArray, List.getElem?_cons_succ, List.getElem?_cons_zero]
            repeat (go_big_quiet_step (fail))
            refine wpQuiet_nil ?_
            (refine eff_lit rfl rfl (fun K hK => ?_))
            go_big_op
            refine (met_any B p st x y y _ (HT.out _ hB.drew)).mono ?_
            rintro e w2 ⟨rfl, hb2⟩
            have hB2 : Below wr.heap.size wr w2 := (Below.refl _ _).drew.trans hb2
            have hz2 := hB2.size
            refine hK _ _ ⟨⟨_, hB2⟩, rfl⟩ ?_
            clear hK K cj
            cases hm : metS st.rounds y y with
            | true =>
              have HN : Hid (okB (frS st) st.ord j = false) := Lib.hid (by rw [HOKD.out]; unfold frS; rw [hm]; rfl)
              clear hm
              simp only [opsAt, List.getElem?_toArray, List.getElem?_cons_succ, List.getElem?_cons_zero]
              repeat (go_big_quiet_step (fail))
              refine wpQuiet_nil ?_
              refine eff_lit_skip rfl rfl ⟨⟨_, hB2⟩, rfl⟩ ?_
              simp only [Act.put, List.setIfInBounds_toArray, List.set_cons_succ, List.set_cons_zero]
              simp only [opsAt, List.getElem?_toArray, List.getElem?_cons_succ, List.getElem?_cons_zero]
              refine wpQuiet_nil ?_
              refine eff_lit_skip rfl rfl ⟨⟨_, hB2⟩, rfl⟩ ?_
              simp only [Act.put, List.setIfInBounds_toArray, List.set_cons_succ, List.set_cons_zero]
              simp only [opsAt, List.getElem?_toArray, List.getElem?_cons_succ, List.getElem?_cons_zero]
              repeat (go_big_quiet_step (fail))
              refine wpQuiet_nil ?_
              refine effs_done ?_
              go_wp2
              go_roundw
              case rel => exact .inl ⟨q + 1, by omega, rfl, rfl, by go_num, Lib.hid (HNX.out HN.out), HO1.out.below hB2, hB.trans (hB2.mono hz)⟩
              case measure => have hjj := HJ.out; simp [intOf]; omega
            | false =>
              have HOK2 : Hid (okB (frS st) st.ord j = (pairS (frS st) (woS st.ord j false)).isSome) := Lib.hid (by rw [HOKD.out]; unfold frS; rw [hm]; rfl)
              clear hm
              simp only [opsAt, List.getElem?_toArray, List.getElem?_cons_succ, List.getElem?_cons_zero]
              repeat (go_big_quiet_step (fail))
              refine wpQuiet_nil ?_
              (refine eff_lit rfl rfl (fun K hK => ?_))
              go_big_op
              refine (without_any (some ad) st.n c0 j false st.ord _ (HO1.out.reads.below hB2) (by omega) (fun h => by cases h) (by omega)).mono ?_
              rintro e w3 ⟨A3, c3, rfl, ho3, hb3⟩
              have hB3 := below_call hB2 hb3 hz2
              have hz3 := hB3.size
              have HO3 := Lib.hid ho3
              refine hK _ _ ⟨⟨_, hB3⟩, rfl⟩ ?_
              clear hK K ho3
              simp only [opsAt, List.getElem?_toArray, List.getElem?_cons_succ, List.getElem?_cons_zero]
              repeat (go_big_quiet_step (fail))
              refine wpQuiet_nil ?_
              (refine eff_lit rfl rfl (fun K hK => ?_))
              go_big_op
              refine (can_any B p st x (woS st.ord j false).length (woS st.ord j false) (Nat.le_refl _) (by rw [HWL.out]; omega) A3 _ c3 _ (HT.out _ (hB.trans (hB3.mono hz))) HO3.out.reads).mono ?_
              rintro e w4 ⟨rfl, hb4⟩
              have hB4 := below_call hB3 hb4 hz3
              refine hK _ _ ⟨⟨_, hB4⟩, rfl⟩ ?_
              clear hK K
              have HXO := Lib.hid (HO1.out.below hB4)
              have hB5 := hB.trans (hB4.mono hz)
              have hz5 := hB4.size
              clear HO3 hb2 hb3 hb4 hB2 hB3 hB4 hz2 hz3
              cases hp : pairS (frS st) (woS st.ord j false) with
              | none =>
                have HN : Hid (okB (frS st) st.ord j = false) := Lib.hid (by rw [HOK2.out, hp]; rfl)
                rw [Option.isSome_none]
                clear hp
                simp only [opsAt, List.getElem?_toArray, List.getElem?_cons_succ, List.getElem?_cons_zero]
                repeat (go_big_quiet_step (fail))
                refine wpQuiet_nil ?_
                refine effs_done ?_
                go_wp2
                go_roundw
                case rel => exact .inl ⟨q + 1, by omega, rfl, rfl, by go_num, Lib.hid (HNX.out HN.out), HXO.out, hB5⟩
                case measure => have hjj := HJ.out; simp [intOf]; omega
              | some mm =>
                have HN : Hid (wholeS (frS st) st.ord = (pairS (frS st) (woS st.ord j false)).map (fun m => m ++ [⟨y, -1⟩])) := Lib.hid (by
                  rw [← HY.out]
                  refine whole_bye (by rw [hol.out]; exact HOD.out) (by rw [hol.out]; exact hjn) (by rw [HOK2.out, hp]; rfl) (fun j' h1 h2 => ?_)
                  rw [hol.out] at h2
                  have h3 := HE.out (st.n - 1 - j') (by have := HJ.out; omega)
                  rwa [show st.n - 1 - (st.n - 1 - j') = j' by omega] at h3)
                rw [Option.isSome_some]
                obtain ⟨yn, hyn⟩ : ∃ k : Nat, y = k := ⟨y.toNat, by omega⟩
                subst hyn
                have cy : w4.cell? (ad.add j) = some (.int .i64 yn) := by
                  have h := int_cell HXO.out.reads (k := j) hjn
                  rwa [HY.out] at h
                clear hp HNX HOKD HE
                simp only [opsAt, List.getElem?_toArray, List.getElem?_cons_succ, List.getElem?_cons_zero]
                repeat (go_big_quiet_step (fail))
                refine wpQuiet_nil ?_
                refine effs_done ?_
                go_wp2_with (first
                  | (go_at_call 45; refine (without_any (some ad) st.n c0 j false st.ord _ HXO.out.reads (by omega) (fun h => by cases h) (by omega)).mono ?_; rintro e w6 ⟨A6, c6, rfl, ho6, hb6⟩; rw [HWL.out] at ho6 ⊢; have HO6 := Lib.hid ho6; clear ho6)
                  | fail)
                go_roundw
                case rel => exact ⟨_, _, _, .inr ⟨A6, c6, yn, (st.n : Int) - 1 - ((q : Int) + 1), rfl, rfl, rfl, by omega, by omega, by omega, _, HWL.out, own_lower HO6.out hB5.size, HN, below_call hB5 hb6 hB5.size⟩, rfl, rfl, rfl⟩
                case measure =>
                  have hjj := HJ.out
                  first
                    | (simp [intOf]; done)
                    | (simp [intOf]; omega)
          · obtain rfl : q = st.n := by omega
            have HN : Hid (wholeS (frS st) st.ord = none) := Lib.hid (whole_none (by rw [hol.out]; exact HOD.out) (fun i hi => by have h1 := HE.out (st.n - 1 - i) (by have := hol.out; omega); rw [show st.n - 1 - (st.n - 1 - i) = i by have := hol.out; omega] at h1; exact h1))
            have hng : ((st.n : Int) - 1 - st.n) = -1 := by omega
            rw [hng]
            go_wp2
            go_ret2
            rw [HN.out]
            exact ⟨rfl, hB⟩
        · have HC : Hid (MPCut st w (.slice A (st.n - 1 : Nat) c) (.int .i64 b) wr) := Lib.hid ⟨l, A, c, b, by rw [hll], rfl, by rw [hll]; exact hO, by omega, by omega, by omega, Lib.hid (by rw [HW.out]; unfold byeT; rw [if_neg (by omega)]), hB⟩
          have HLL := Lib.hid hll
          have hbn : decide ((b : Int) < 0) = false := by rw [decide_eq_false_iff_not]; omega
          clear hll hO hB
          have hz2 : (0 : Int) ≤ b := by omega
          by_cases hj0 : (0 : Int) ≤ j
          · go_wp2
            go_meet
            case rel => exact HC.out
          · have hj0' : decide ((0 : Int) ≤ j) = false := by rw [decide_eq_false_iff_not]; omega
            go_wp2
            go_meet
            case rel => exact HC.out
  case rest =>
    obtain ⟨l0, A1, c1, b, rfl, rfl, ho1, hl1, hb1', hb2', HW1, hB1⟩ := hcut
    generalize wc = w2 at *
    have HI : Hid (MPOut st w b (.slice A1 l0.length c1) (.slice none 0 0) w2) := Lib.hid ⟨l0, A1, c1, [], none, 0, rfl, rfl, ho1, XOwns.nil_ _ _ _ _, by simpa using hl1, Lib.hid (by rw [HW1.out]; simp), hB1⟩
    clear ho1 hl1 HW1 hB1 x0 HO hb1 hz1
    go_wp2
    go_loopw [4, 7] (fun v o W => MPOut st w b v o W) (fun v _ _ => lenOf v)
    case atStart => exact HI.out
    case round =>
      obtain ⟨l, A, c, out, Ao, co, rfl, rfl, hO, hX, hlen, HW, hB⟩ := hrel
      generalize wr = wz at *
      have hz := hB.size
      clear HI
      by_cases hl : l = []
      · subst hl
        have HF : Hid (wholeS (frS st) st.ord = some (out ++ byeT b)) := Lib.hid (by rw [HW.out, pairS_nil]; simp)
        have HX := Lib.hid hX
        clear hO hX HW
        by_cases hbn : b < 0
        · have hbb : decide ((0 : Int) ≤ b) = false := by rw [decide_eq_false_iff_not]; omega
          have HBT : Hid (byeT b = []) := Lib.hid (by unfold byeT; rw [if_pos hbn])
          clear hbn
          go_wp2
          go_ret2
          rw [HF.out, HBT.out, List.append_nil]
          exact ⟨Ao, co, rfl, HX.out, hB⟩
        · have hbb : (0 : Int) ≤ b := by omega
          have HBT : Hid (byeT b = [⟨b, -1⟩]) := Lib.hid (by unfold byeT; rw [if_neg hbn])
          have hal : Below wz.heap.size wz (wz.alloc (.cells #[.int .i64 b, .int .i64 (-1)] 33)) := (Below.refl _ _).alloc (Nat.le_refl _) _
          have HBL := Lib.hid (Blk.mk_ wz 33 #[.int .i64 b, .int .i64 (-1)] _ rfl)
          clear hbn
          go_wp2_with (at_builtin; refine append_xr (w := (wz.alloc (.cells #[.int .i64 b, .int .i64 (-1)] 33))) ?_ (.tmp 104) (.tmp 107) 29 ?_ w.heap.size 33 (.agg #[.int .i64 0, .int .i64 0]) 2 16 Try.info33 Try.underlying29 rfl (by decide) Ao out.length co (dcells out) ?_ (HX.out.below hal) (some ⟨wz.heap.size, 0, none⟩) 1 1 (dcells [⟨b, -1⟩]) ?_ (fun h => by cases h) (reads_block HBL.out 2 1 rfl) (dcells_one _) ?_ ?_ ?_ ?_; rfl; rfl; rfl; rfl; omega; omega; (simp; omega); intro A5 c5 w5 ho5 hb5)
          go_ret2
          rw [HF.out, HBT.out]
          refine ⟨A5, c5, by simp, ?_, (hB.trans (hal.mono hz)).trans hb5⟩
          rw [dcells_app]
          simpa using ho5
      · have hpos : 0 < l.length := List.length_pos_iff.2 hl
        obtain ⟨n, hn⟩ : ∃ n, l.length = n := ⟨_, rfl⟩
        rw [hn] at hO hlen hpos ⊢
        have HN := Lib.hid hn
        have HLN : Hid (l ≠ []) := Lib.hid hl
        have hpos' : (0 : Int) < n := by omega
        have HO2 : Hid (MPIn st w b l n A c out Ao co (.slice A n c) (.slice Ao out.length co) (.bool false) (.int .i64 (1 : Nat)) wz) := Lib.hid (.inl ⟨1, Nat.le_refl _, hpos, rfl, rfl, rfl, rfl, Lib.hid (fun j h1 h2 => absurd h1 (by omega)), hO, hX, hB⟩)
        clear hO hX hn hl
        go_wp2
        go_loopw [4, 7, 8, 9] (fun v o f i W => MPIn st w b l n A c out Ao co v o f i W) (fun _ _ f i _ => leftOf n f i)
        case atStart => exact HO2.out
        case round =>
          rcases hrel with ⟨k, hk1, hkn, rfl, rfl, rfl, rfl, HE, hO, hX, hB2⟩ | ⟨l', A', c', out', Ao', co', k, rfl, rfl, rfl, rfl, hk, hl', ho', hO, hX, HW2, hB2⟩
          · clear HO2
            have hz2 := hB2.size
            have HX := Lib.hid hX
            have HO := Lib.hid hO
            clear hO hX
            by_cases hlt : k < n
            · have hXr := HO.out.reads
              obtain ⟨ad, rfl, _, _⟩ := int_at hXr (k := 0) hpos
              have hlt' : (k : Int) < n := by omega
              have hXN := HN.out
              have c0 : ∀ s : Later wr.heap.size wr, s.W.cell? ad = some (.int .i64 (ith l 0)) := fun s => by
                have h := int_cell (hXr.below s.h) (k := 0) hpos
                simpa [Addr.add] using h
              have cj : ∀ s : Later wr.heap.size wr, s.W.cell? (ad.add k) = some (.int .i64 (ith l k)) := fun s => int_cell (hXr.below s.h) (k := k) hlt
              have HOKD : Hid (okI (frS st) l k = (frS st (ith l 0) (ith l k) && (pairS (frS st) (woS l k true)).isSome)) := Lib.hid rfl
              have HNX : Hid (okI (frS st) l k = false → ∀ j, 1 ≤ j → j < k + 1 → okI (frS st) l j = false) := Lib.hid (fun h j h1 h2 => by
                rcases Nat.lt_or_ge j k with h3 | h3
                · exact HE.out j h1 h3
                · obtain rfl : j = k := by omega
                  exact h)
              have HWL : Hid ((woS l k true).length + 2 = n) := Lib.hid (by rw [← hXN]; exact wo_len2 hk1 (by omega))
              have HTK : Hid (okI (frS st) l k = true → wholeS (frS st) st.ord = (pairS (frS st) (woS l k true)).map (fun m => ((out ++ [⟨ith l 0, ith l k⟩]) ++ m) ++ byeT b)) := Lib.hid (fun h => by
                rw [HW.out, pair_take hk1 (by omega) h HE.out, Option.map_map]
                congr 1
                funext m
                simp)
              generalize hy0 : ith l 0 = y0 at *
              generalize hyk : ith l k = yk at *
              have HY0 := Lib.hid hy0
              have HYK := Lib.hid hyk
              clear hXr hXN hy0 hyk
              go_wp2
              refine wp_region_sched (fun w' => ∃ s : Later wr.heap.size wr, w' = s.W) [0,1,2,3,4,5,6,7] (.one 8 [9,10,11,12,13] (.one 14 [] (.one 15 [16] .done))) (by kernel_rfl) (by kernel_rfl) (fun d _ _ _ _ h => by cases d <;> exact h) ⟨⟨_, (Below.refl _ _).drew⟩, rfl⟩ ?_
              simp only [opsAt, List.getElem?_toArray, List.getElem?_cons_succ, List.getElem?_cons_zero]
              repeat (go_big_quiet_step (fail))
              refine wpQuiet_nil ?_
              (refine eff_lit rfl rfl (fun K hK => ?_))
              go_big_op
              refine (met_any B p st x y0 yk _ (HT.out _ hB2.drew)).mono ?_
              rintro e w3 ⟨rfl, hb3⟩
              have hB3 : Below wr.heap.size wr w3 := (Below.refl _ _).drew.trans hb3
              have hz3 := hB3.size
              refine hK _ _ ⟨⟨_, hB3⟩, rfl⟩ ?_
              clear hK K cj c0
              cases hm : metS st.rounds y0 yk with
              | true =>
                have HNN : Hid (okI (frS st) l k = false) := Lib.hid (by rw [HOKD.out]; unfold frS; rw [hm]; rfl)
                clear hm
                simp only [opsAt, List.getElem?_toArray, List.getElem?_cons_succ, List.getElem?_cons_zero]
                repeat (go_big_quiet_step (fail))
                refine wpQuiet_nil ?_
                refine eff_lit_skip rfl rfl ⟨⟨_, hB3⟩, rfl⟩ ?_
                simp only [Act.put, List.setIfInBounds_toArray, List.set_cons_succ, List.set_cons_zero]
                simp only [opsAt, List.getElem?_toArray, List.getElem?_cons_succ, List.getElem?_cons_zero]
                refine wpQuiet_nil ?_
                refine eff_lit_skip rfl rfl ⟨⟨_, hB3⟩, rfl⟩ ?_
                simp only [Act.put, List.setIfInBounds_toArray, List.set_cons_succ, List.set_cons_zero]
                simp only [opsAt, List.getElem?_toArray, List.getElem?_cons_succ, List.getElem?_cons_zero]
                repeat (go_big_quiet_step (fail))
                refine wpQuiet_nil ?_
                refine effs_done ?_
                go_wp2
                go_roundw
                case rel => exact .inl ⟨k + 1, by omega, by omega, rfl, rfl, rfl, by go_num, Lib.hid (HNX.out HNN.out), HO.out.below hB3, HX.out.below hB3, hB2.trans (hB3.mono hz2)⟩
                case measure => simp [leftOf, intOf]; omega
              | false =>
                have HOK2 : Hid (okI (frS st) l k = (pairS (frS st) (woS l k true)).isSome) := Lib.hid (by rw [HOKD.out]; unfold frS; rw [hm]; rfl)
                clear hm
                simp only [opsAt, List.getElem?_toArray, List.getElem?_cons_succ, List.getElem?_cons_zero]
                repeat (go_big_quiet_step (fail))
                refine wpQuiet_nil ?_
                (refine eff_lit rfl rfl (fun K hK => ?_))
                go_big_op
                refine (without_any (some ad) n c k true l _ (HO.out.reads.below hB3) (by omega) (fun _ => hk1) (by omega)).mono ?_
                rintro e w4 ⟨A4, c4, rfl, ho4, hb4⟩
                have hB4 := below_call hB3 hb4 hz3
                have hz4 := hB4.size
                have HO4 := Lib.hid ho4
                refine hK _ _ ⟨⟨_, hB4⟩, rfl⟩ ?_
                clear hK K ho4
                simp only [opsAt, List.getElem?_toArray, List.getElem?_cons_succ, List.getElem?_cons_zero]
                repeat (go_big_quiet_step (fail))
                refine wpQuiet_nil ?_
                (refine eff_lit rfl rfl (fun K hK => ?_))
                go_big_op
                refine (can_any B p st x (woS l k true).length (woS l k true) (Nat.le_refl _) (by have := HWL.out; omega) A4 _ c4 _ (HT.out _ (hB2.trans (hB4.mono hz2))) HO4.out.reads).mono ?_
                rintro e w5 ⟨rfl, hb5⟩
                have hB5 := below_call hB4 hb5 hz4
                refine hK _ _ ⟨⟨_, hB5⟩, rfl⟩ ?_
                clear hK K
                have HXO := Lib.hid (HO.out.below hB5)
                have HXX := Lib.hid (HX.out.below hB5)
                have hB6 := hB2.trans (hB5.mono hz2)
                have hz5 := hB5.size
                clear HO4 hb3 hb4 hb5 hB3 hB4 hB5 hz3 hz4
                cases hp : pairS (frS st) (woS l k true) with
                | none =>
                  have HNN : Hid (okI (frS st) l k = false) := Lib.hid (by rw [HOK2.out, hp]; rfl)
                  rw [Option.isSome_none]
                  clear hp
                  simp only [opsAt, List.getElem?_toArray, List.getElem?_cons_succ, List.getElem?_cons_zero]
                  repeat (go_big_quiet_step (fail))
                  refine wpQuiet_nil ?_
                  refine effs_done ?_
                  go_wp2
                  go_roundw
                  case rel => exact .inl ⟨k + 1, by omega, by omega, rfl, rfl, rfl, by go_num, Lib.hid (HNX.out HNN.out), HXO.out, HXX.out, hB6⟩
                  case measure => simp [leftOf, intOf]; omega
                | some mm =>
                  have HNN : Hid (wholeS (frS st) st.ord = (pairS (frS st) (woS l k true)).map (fun m => ((out ++ [⟨y0, yk⟩]) ++ m) ++ byeT b)) := Lib.hid (HTK.out (by rw [HOK2.out, hp]; rfl))
                  rw [Option.isSome_some]
                  clear hp
                  simp only [opsAt, List.getElem?_toArray, List.getElem?_cons_succ, List.getElem?_cons_zero]
                  repeat (go_big_quiet_step (fail))
                  refine wpQuiet_nil ?_
                  refine effs_done ?_
                  go_wp2
                  have hNE : Nonempty (In (fun W => Reads W 1 (some ad) n (ics l))) := ⟨⟨w5, HXO.out.reads⟩⟩
                  have d0 : ∀ s : In (fun W => Reads W 1 (some ad) n (ics l)), s.W.cell? ad = some (.int .i64 y0) := fun s => by
                    have h := int_cell s.h (k := 0) hpos
                    rw [HY0.out] at h
                    simpa [Addr.add] using h
                  have dj : ∀ s : In (fun W => Reads W 1 (some ad) n (ics l)), s.W.cell? (ad.add k) = some (.int .i64 yk) := fun s => by
                    have h := int_cell s.h (k := k) hlt
                    rwa [HYK.out] at h
                  have hal : Below w5.heap.size w5 (w5.alloc (.cells #[.int .i64 y0, .int .i64 yk] 33)).drew := ((Below.refl _ _).alloc (Nat.le_refl _) _).drew
                  have HBL := Lib.hid (Blk.mk_ w5 33 #[.int .i64 y0, .int .i64 yk] _ rfl)
                  refine wp_region_sched (fun w' => ∃ s : In (fun W => Reads W 1 (some ad) n (ics l)), w' = s.W) [0,1,2,3,4,5,6,7,8] (.one 9 [] (.one 10 [11] .done)) (by kernel_rfl) (by kernel_rfl) (fun d _ _ _ _ h => by cases d <;> exact h) ⟨⟨_, HXO.out.reads.below (Below.refl _ _).drew⟩, rfl⟩ ?_
                  simp only [opsAt, List.getElem?_toArray, List.getElem?_cons_succ, List.getElem?_cons_zero]
                  repeat (go_big_quiet_step (fail))
                  refine wpQuiet_nil ?_
                  (refine eff_lit rfl rfl (fun K hK => ?_))
                  go_big_op
                  refine hK _ _ ⟨⟨_, HXO.out.reads.below hal⟩, rfl⟩ ?_
                  clear hK K d0 dj
                  simp only [opsAt, List.getElem?_toArray, List.getElem?_cons_succ, List.getElem?_cons_zero]
                  refine wpQuiet_nil ?_
                  (refine eff_lit rfl rfl (fun K hK => ?_))
                  refine append_x_op (w := (w5.alloc (.cells #[.int .i64 y0, .int .i64 yk] 33)).drew) (.tmp 86) (.tmp 95) 29 rfl w.heap.size 33 (.agg #[.int .i64 0, .int .i64 0]) 2 16 Try.info33 Try.underlying29 rfl (by decide) Ao out.length co (dcells out) rfl (HXX.out.below hal) (some ⟨w5.heap.size, 0, none⟩) 1 1 (dcells [⟨y0, yk⟩]) rfl ((reads_block HBL.out 2 1 rfl).below (Below.refl _ _).drew) (dcells_one _) (by decide) (by omega) (by omega) (by have := hB6.size; have := hal.size; omega) _ rfl ?_
                  intro g6 c6 w6 ho6 hg6 _ hlt6
                  have HO6 := Lib.hid ho6
                  have HXO6 := Lib.hid ((HXO.out.below hal).grown hg6 ((HXO.out.below hal).apart (HXX.out.below hal) (by decide)))
                  have hB7 : Below w.heap.size w w6 := (hB6.trans (hal.mono hB6.size)).trans (grown_below hg6 (Nat.le_trans hB6.size hal.size) (fun i hi => ((HXX.out.below hal).lt i hi).1))
                  refine hK _ _ ⟨⟨_, HXO6.out.reads⟩, rfl⟩ ?_
                  clear hK K ho6 hg6 hNE hal HXO HXX
                  simp only [Act.put, List.setIfInBounds_toArray, List.set_cons_succ, List.set_cons_zero]
                  simp only [opsAt, List.getElem?_toArray, List.getElem?_cons_succ, List.getElem?_cons_zero]
                  repeat (go_big_quiet_step (fail))
                  refine wpQuiet_nil ?_
                  refine effs_done ?_
                  go_wp2_with (first
                    | (go_at_call 45; refine (without_any (some ad) n c k true l _ HXO6.out.reads (by omega) (fun _ => hk1) (by omega)).mono ?_; rintro e w8 ⟨A8, c8, rfl, ho8, hb8⟩; have HO8 := Lib.hid ho8; clear ho8)
                    | fail)
                  go_roundw
                  case rel => exact .inr ⟨woS l k true, A8, c8, out ++ [⟨y0, yk⟩], some ⟨g6, 0, none⟩, c6, k + 1, rfl, by simp, rfl, by go_num, by omega, HWL.out, by simp, own_lower HO8.out hB7.size, by (have h := HO6.out.below hb8; rw [dcells_app, List.length_append]; exact h), HNN, below_call hB7 hb8 hB7.size⟩
                  case measure => simp [leftOf, intOf]; omega
            · obtain rfl : k = n := by omega
              have HNO : Hid (wholeS (frS st) st.ord = none) := Lib.hid (by rw [HW.out, pair_none HLN.out (fun j h1 h2 => HE.out j h1 (by rw [HN.out] at h2; exact h2))]; rfl)
              go_wp2
              go_ret2
              rw [HNO.out]
              exact ⟨rfl, hB2⟩
          · have HX := Lib.hid hX
            have HO := Lib.hid hO
            clear hO hX HO2
            by_cases hkl : k < l'.length
            · have hkl' : (k : Int) < l'.length := by omega
              go_wp2
              go_roundw
              case rel => exact ⟨l', A', c', out', Ao', co', rfl, rfl, HO.out, HX.out, by omega, HW2, hB2⟩
              case measure => simp [lenOf]; omega
            · have hkl' : decide ((k : Int) < l'.length) = false := by rw [decide_eq_false_iff_not]; omega
              go_wp2
              go_roundw
              case rel => exact ⟨l', A', c', out', Ao', co', rfl, rfl, HO.out, HX.out, by omega, HW2, hB2⟩
              case measure => simp [lenOf]; omega
end Go.Proofs.Ytngcmihaheiigaa
