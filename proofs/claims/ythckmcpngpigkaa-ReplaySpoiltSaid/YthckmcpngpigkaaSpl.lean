/-
  The walk of ReplaySpoilt.
-/
import Derived.Test.YthckmcpngpigkaaKnown
import Derived.Test.YthckmcpngpigkaaAny
import Derived.Test.YthckmcpngpigkaaAppOp
set_option linter.unusedSimpArgs false
set_option linter.unusedVariables false
namespace Go.Proofs.Ythckmcpngpigkaa
open Go.RowKit

set_option maxRecDepth 100000 in
set_option maxHeartbeats 1600000 in
theorem walk_ok (key : Int) (A : Option Addr) (n c : Nat) (l : List MoveV) (a less : Nat) (B : Option Addr) (nb cb : Nat) (xs : List Int) (add : Int) (w : World) (hk : 0 ≤ key ∧ key ≤ 4294967295) (hl : Reads w 6 A n (mcells l)) (hll : l.length = n) (hg : ∀ m ∈ l, GoodM m) (ha : a ≤ 65535) (hls : less ≤ 65535)
    (hx : BReads w B nb xs) (hcb : nb ≤ cb) (hB : B = none → cb = 0) (hcm : cb ≤ 9223372036854775807) (hn : n ≤ 30) (hnb : nb ≤ 60) :
    Calls Try.prog 4 #[.int .u32 key, .slice A n c, .int .u16 a, .int .u16 less, .slice B nb cb, .int .u32 add] w fun e w' => e = .returned (.bool true) ∧ Below w.heap.size w w' := by
  have HL : Hid (∀ W, Below w.heap.size w W → Reads W 6 A n (mcells l)) := Lib.hid fun W h => hl.below h
  have HX : Hid (∀ W, Below w.heap.size w W → BReads W B nb xs) := Lib.hid fun W h => hx.below h
  have HBN := Lib.hid hB
  have HK := Lib.hid hk
  have HG := Lib.hid hg
  have HLL := Lib.hid hll
  have hn' : ¬ (30 : Int) < n := by omega
  have hnb' : ¬ (60 : Int) < nb := by omega
  clear hl hx hB hk hg hll
  go_enter Try.func4, Try.ntmps4
  go_wp2
  have HM0 := Lib.hid (md0 HK.out (Blk.mk_ w 31 #[.int .u32 key, .slice none 0 0, .slice none 0 0, .slice none 0 0, .int .u32 key] w.heap.size rfl))
  go_loopw [14] (fun i W => ∃ (k : Nat) (y : MdC), k ≤ n ∧ i = .int .i64 k ∧ Md W w.heap.size ((st0 key).madds (l.take k)) y ∧ Hid (∀ i, FootM w.heap.size y i → w.heap.size ≤ i) ∧ Below w.heap.size w W) (fun i _ => n - (intOf i).toNat)
  case atStart => exact ⟨0, _, Nat.zero_le _, rfl, HM0.out, Lib.hid (fun i hi => by
    rcases hi with rfl | ⟨h, _⟩ | ⟨h, _⟩ | ⟨h, _⟩
    · exact Nat.le_refl _
    · exact absurd h (by decide)
    · exact absurd h (by decide)
    · exact absurd h (by decide)), by (focus (repeat' (first | (with_reducible exact Below.refl _ _) | (with_reducible assumption) | (with_reducible refine Below.alloc ?_ ?_ _) | (with_reducible refine below_drewN ?_ _) | (with_reducible refine Below.drew ?_) | (with_reducible refine Below.setCell ?_ ?_ _) | omega | (simp; done) | (simp; omega))))⟩
  case round =>
    obtain ⟨k, y, hk, rfl, hM, HF, hB⟩ := hrel
    have HM := Lib.hid hM
    have hz := hB.size
    have hzp := hM.blk.lt
    clear HM0 hM
    by_cases hlt : k < n
    · obtain ⟨ad, m, rfl, hab, hv, c0, c1, c2, c3, c4, c5⟩ := move_at (HL.out _ hB) hlt
      have hlt' : (k : Int) < n := by omega
      have HGM := Lib.hid (HG.out m (List.mem_of_getElem? hv))
      have HS := Lib.hid (madds_snoc (st0 key) hv)
      clear hv
      go_wp2_with fail
      refine (ladd_any w.heap.size _ y m _ HM.out HGM.out).mono ?_
      rintro e w2 ⟨y2, rfl, hM2, hO2, hF2⟩
      rw [← HS.out] at hM2
      have HM2 := Lib.hid hM2
      have hB2 : Below w.heap.size w w2 := hB.trans (hO2.below (by omega) (fun i hi => by rw [hi]; exact Nat.le_refl _))
      have HF2 : Hid (∀ i, FootM w.heap.size y2 i → w.heap.size ≤ i) := Lib.hid fun i hi => by
        rcases hF2 i hi with h | h
        · exact HF.out i h
        · omega
      clear c0 c1 c2 c3 c4 c5 hM2 hO2 hF2
      go_wp2
      go_roundw
      case rel => exact ⟨k + 1, y2, by omega, by go_num, HM2.out, HF2, hB2⟩
      case measure => simp [intOf]; omega
    · obtain rfl : k = n := by omega
      have hdl : ((st0 key).madds (l.take k)).data.length ≤ 720 := by
        have h1 := HM.out.ok.len
        have h2 := madds_len (l.take k) (st0 key)
        have h3 : (st0 key).mv.length = 0 := rfl
        rw [List.length_take, HLL.out] at h2
        omega
      generalize (st0 key).madds (l.take k) = q at *
      have hnd := HM.out.nd_eq
      obtain ⟨nd, hnd'⟩ : ∃ nd, nd = q.data.length := ⟨_, rfl⟩
      rw [← hnd'] at hnd hdl
      have HQL := Lib.hid hnd'
      have hcap := HM.out.cap
      have y3 := (HM.out.blk.at_ 3).trans rfl
      rw [hnd] at y3 hcap
      have HND := Lib.hid hnd
      clear hnd hnd' HL HG
      obtain ⟨hcap1, hcap2⟩ := hcap
      obtain ⟨f, hf⟩ : ∃ f, f = a % (nd + 1) := ⟨_, rfl⟩
      have hf1 : f ≤ nd := by have := Nat.mod_lt a (show 0 < nd + 1 by omega); omega
      have hf2 : Int.tmod (a : Int) ((nd : Int) + 1) = (f : Int) := by rw [hf]; rfl
      have hf3 : IntKind.i64.wrap (f : Int) = f := IntWalk.i64_in _ (by omega)
      have ha1 : IntKind.i64.wrap (a : Int) = a := IntWalk.i64_in _ (by omega)
      have ha2 : IntKind.i64.wrap (less : Int) = less := IntWalk.i64_in _ (by omega)
      have ha3 : IntKind.i64.wrap ((nd : Int) + 1) = (nd : Int) + 1 := IntWalk.i64_in _ (by omega)
      have ha4 : IntKind.i64.wrap ((f : Int) + less) = (f : Int) + less := IntWalk.i64_in _ (by omega)
      have hf4 : ((nd : Int) + 1 = 0) = False := eq_false (by omega)
      clear hf
      go_wp2
      · obtain ⟨t, ht⟩ : ∃ t : Nat, (f : Int) + less = t := ⟨f + less, by omega⟩
        have htn : t ≤ nd := by omega
        rw [ht]
        clear hf2 hf3 ha1 ha2 ha3 ha4 hf4
        have hct : y.cd ≠ t := by omega
        clear ht
        have hDs : ∃ ad, y.D = some ad := by
          cases hD : y.D with
          | some ad => exact ⟨ad, rfl⟩
          | none => exact absurd (HM.out.data.2 hD) (by omega)
        obtain ⟨ad, hD⟩ := hDs
        have HDD := Lib.hid hD
        rw [hD] at y3
        have ht' : (t : Int) ≤ y.cd := by omega
        have ht'' : (t : Int) ≤ nd := by omega
        have hcs : (y.cd = t) = False := eq_false hct
        have hf' : (f : Int) ≤ y.cd := by omega
        have hNE : Nonempty (In (fun W => Md W w.heap.size q y)) := ⟨⟨_, HM.out⟩⟩
        have z3 : ∀ s : In (fun W => Md W w.heap.size q y), s.W.cell? ⟨w.heap.size, 3, none⟩ = some (.slice (some ad) nd y.cd) := fun s => (s.h.blk.at_ 3).trans (by rw [HDD.out, HND.out]; rfl)
        clear hD hct
        refine wp_region_sched (fun w' => ∃ s : In (fun W => Md W w.heap.size q y), w' = s.W) [0,1,2,3,4,5,7,9,10,11,12,13,14] (.one 6 [] (.one 8 [] (.one 15 [16] .done))) (by kernel_rfl) (by kernel_rfl) (fun d _ _ _ _ h => by cases d <;> exact h) ⟨⟨_, HM.out.below (Below.refl _ _).drew⟩, rfl⟩ ?_
        simp only [opsAt, List.getElem?_toArray, List.getElem?_cons_succ, List.getElem?_cons_zero]
        repeat (go_big_quiet_step (fail))
        refine wpQuiet_nil ?_
        (refine eff_lit rfl rfl (fun K hK => ?_))
        refine append_nil_op (w := wr.drew) (.const (.slice none 0 0)) (.tmp 67) 23 rfl 5 (.int .u8 0) 1 1 Try.info5 Try.underlying23 rfl (by decide) rfl (some ad) f y.cd (bys (q.data.take f)) ?_ (fun h => by cases h) ?_ (bys_one _) ?_ ?_ ?_
        · rfl
        · have h := HM.out.data.1.head (k := f) (by rw [HND.out]; exact hf1)
          rw [HDD.out] at h
          exact h.1.drew
        · omega
        · omega
        intro A5 c5 w5 ho5 hb5
        simp only [Act.put, List.setIfInBounds_toArray, List.set_cons_succ, List.set_cons_zero]
        have hB5 : Below wr.heap.size wr w5 := Below.trans (Below.refl _ _).drew hb5
        have hz5 : wr.heap.size ≤ w5.heap.size := hB5.size
        have HO5 : Hid (BOwns w5 wr.heap.size 5 A5 f c5 (q.data.take f)) := Lib.hid (ho5.b (fun z hz => HM.out.data.1.2 z (List.mem_of_mem_take hz)))
        clear ho5
        refine hK _ _ ⟨⟨_, HM.out.below hB5⟩, rfl⟩ ?_
        clear hK K
        simp only [opsAt, List.getElem?_toArray, List.getElem?_cons_succ, List.getElem?_cons_zero]
        refine wpQuiet_nil ?_
        (refine eff_lit rfl rfl (fun K hK => ?_))
        refine append_bytes_op (w := w5) (.tmp 68) (.tmp 69) 23 rfl wr.heap.size 5 Try.info5 Try.underlying23 A5 f c5 (q.data.take f) rfl HO5.out B nb cb xs rfl HBN.out (HX.out _ (hB.trans (hB5.mono hz))) (by omega) hz5 ?_
        intro A6 c6 w6 ho6 hb6
        simp only [Act.put, List.setIfInBounds_toArray, List.set_cons_succ, List.set_cons_zero]
        have hB6 : Below wr.heap.size wr w6 := hB5.trans hb6
        have hz6 : wr.heap.size ≤ w6.heap.size := hB6.size
        have HO6 := Lib.hid ho6
        clear ho6
        refine hK _ _ ⟨⟨_, HM.out.below hB6⟩, rfl⟩ ?_
        clear hK K
        simp only [opsAt, List.getElem?_toArray, List.getElem?_cons_succ, List.getElem?_cons_zero]
        refine wpQuiet_nil ?_
        (refine eff_lit rfl rfl (fun K hK => ?_))
        have HCUT := Lib.hid ((HM.out.below hB6).data.1.cut' (k := t) (by rw [HND.out]; exact htn) (by rw [HND.out]; exact hcap1))
        refine append_bytes_op (w := w6) (.tmp 70) (.tmp 76) 23 rfl wr.heap.size 5 Try.info5 Try.underlying23 A6 (f + nb) c6 (q.data.take f ++ xs) rfl HO6.out (some (ad.add t)) (nd - t) (y.cd - t) (q.data.drop t) rfl (fun h => by cases h) (by
          have h := HCUT.out
          rw [if_neg (by intro e; rw [hcs] at e; exact e), HDD.out, HND.out] at h
          exact h) (by omega) hz6 ?_
        intro A7 c7 w7 ho7 hb7
        simp only [Act.put, List.setIfInBounds_toArray, List.set_cons_succ, List.set_cons_zero]
        have hB7 : Below wr.heap.size wr w7 := hB6.trans hb7
        have hz7 : wr.heap.size ≤ w7.heap.size := hB7.size
        have HO7 := Lib.hid ho7
        have HC7 := Lib.hid ho7.cap
        clear ho7
        refine hK _ _ ⟨⟨_, HM.out.below hB7⟩, rfl⟩ ?_
        clear hK K z3 hNE
        simp only [opsAt, List.getElem?_toArray, List.getElem?_cons_succ, List.getElem?_cons_zero]
        repeat (go_big_quiet_step (fail))
        refine wpQuiet_nil ?_
        refine effs_done ?_
        have hBw7 : Below w.heap.size w w7 := hB.trans (hB7.mono hz)
        have hzw7 := hBw7.size
        clear y3 hcs ht' ht'' hf' HO5 HO6 HCUT
        go_wp2_with fail
        refine (right_any key A7 _ c7 _ _ HK.out HO7.out.reads HC7.out.1 HC7.out.2 HO7.out.2.2 (by omega)).mono ?_
        rintro e w8 ⟨rfl, hb8⟩
        have HM8 := Lib.hid (HM.out.below (hB7.trans (hb8.mono hz7)))
        have hB8 := below_call hBw7 hb8 hzw7
        have y8 := (HM8.out.blk.at_ 3).trans rfl
        go_wp2_with (first
          | (go_at_call 8; refine (right_any _ _ _ _ _ _ (by (first | omega | (rw [IntKind.wrap_u32]; omega))) HM8.out.data.1 (by rw [HND.out]; exact hcap1) hcap2 HM8.out.data.2 (by rw [HND.out]; omega)).mono ?_; rintro e w9 ⟨rfl, hb9⟩; have hB9 := below_call hB8 hb9 hB8.size; clear y8)
          | (go_at_call 7; refine (known_any _).mono ?_; rintro e w10 ⟨rfl, hb10⟩; have hB10 := below_call hB9 hb10 hB9.size)
          | fail)
        go_ret
        exact ⟨rfl, hB10⟩
      · have htn : nd ≤ nd := Nat.le_refl _
        clear hf2 hf3 ha1 ha2 ha3 ha4 hf4
        by_cases hct : y.cd ≠ nd
        · skip
          have hDs : ∃ ad, y.D = some ad := by
            cases hD : y.D with
            | some ad => exact ⟨ad, rfl⟩
            | none => exact absurd (HM.out.data.2 hD) (by omega)
          obtain ⟨ad, hD⟩ := hDs
          have HDD := Lib.hid hD
          rw [hD] at y3
          have ht' : (nd : Int) ≤ y.cd := by omega
          have ht'' : (nd : Int) ≤ nd := by omega
          have hcs : (y.cd = nd) = False := eq_false hct
          have hf' : (f : Int) ≤ y.cd := by omega
          have hNE : Nonempty (In (fun W => Md W w.heap.size q y)) := ⟨⟨_, HM.out⟩⟩
          have z3 : ∀ s : In (fun W => Md W w.heap.size q y), s.W.cell? ⟨w.heap.size, 3, none⟩ = some (.slice (some ad) nd y.cd) := fun s => (s.h.blk.at_ 3).trans (by rw [HDD.out, HND.out]; rfl)
          clear hD hct
          refine wp_region_sched (fun w' => ∃ s : In (fun W => Md W w.heap.size q y), w' = s.W) [0,1,2,3,4,5,7,9,10,11,12,13,14] (.one 6 [] (.one 8 [] (.one 15 [16] .done))) (by kernel_rfl) (by kernel_rfl) (fun d _ _ _ _ h => by cases d <;> exact h) ⟨⟨_, HM.out.below (Below.refl _ _).drew⟩, rfl⟩ ?_
          simp only [opsAt, List.getElem?_toArray, List.getElem?_cons_succ, List.getElem?_cons_zero]
          repeat (go_big_quiet_step (fail))
          refine wpQuiet_nil ?_
          (refine eff_lit rfl rfl (fun K hK => ?_))
          refine append_nil_op (w := wr.drew) (.const (.slice none 0 0)) (.tmp 67) 23 rfl 5 (.int .u8 0) 1 1 Try.info5 Try.underlying23 rfl (by decide) rfl (some ad) f y.cd (bys (q.data.take f)) ?_ (fun h => by cases h) ?_ (bys_one _) ?_ ?_ ?_
          · rfl
          · have h := HM.out.data.1.head (k := f) (by rw [HND.out]; exact hf1)
            rw [HDD.out] at h
            exact h.1.drew
          · omega
          · omega
          intro A5 c5 w5 ho5 hb5
          simp only [Act.put, List.setIfInBounds_toArray, List.set_cons_succ, List.set_cons_zero]
          have hB5 : Below wr.heap.size wr w5 := Below.trans (Below.refl _ _).drew hb5
          have hz5 : wr.heap.size ≤ w5.heap.size := hB5.size
          have HO5 : Hid (BOwns w5 wr.heap.size 5 A5 f c5 (q.data.take f)) := Lib.hid (ho5.b (fun z hz => HM.out.data.1.2 z (List.mem_of_mem_take hz)))
          clear ho5
          refine hK _ _ ⟨⟨_, HM.out.below hB5⟩, rfl⟩ ?_
          clear hK K
          simp only [opsAt, List.getElem?_toArray, List.getElem?_cons_succ, List.getElem?_cons_zero]
          refine wpQuiet_nil ?_
          (refine eff_lit rfl rfl (fun K hK => ?_))
          refine append_bytes_op (w := w5) (.tmp 68) (.tmp 69) 23 rfl wr.heap.size 5 Try.info5 Try.underlying23 A5 f c5 (q.data.take f) rfl HO5.out B nb cb xs rfl HBN.out (HX.out _ (hB.trans (hB5.mono hz))) (by omega) hz5 ?_
          intro A6 c6 w6 ho6 hb6
          simp only [Act.put, List.setIfInBounds_toArray, List.set_cons_succ, List.set_cons_zero]
          have hB6 : Below wr.heap.size wr w6 := hB5.trans hb6
          have hz6 : wr.heap.size ≤ w6.heap.size := hB6.size
          have HO6 := Lib.hid ho6
          clear ho6
          refine hK _ _ ⟨⟨_, HM.out.below hB6⟩, rfl⟩ ?_
          clear hK K
          simp only [opsAt, List.getElem?_toArray, List.getElem?_cons_succ, List.getElem?_cons_zero]
          refine wpQuiet_nil ?_
          (refine eff_lit rfl rfl (fun K hK => ?_))
          have HCUT := Lib.hid ((HM.out.below hB6).data.1.cut' (k := nd) (by rw [HND.out]; exact htn) (by rw [HND.out]; exact hcap1))
          refine append_bytes_op (w := w6) (.tmp 70) (.tmp 76) 23 rfl wr.heap.size 5 Try.info5 Try.underlying23 A6 (f + nb) c6 (q.data.take f ++ xs) rfl HO6.out (some (ad.add nd)) 0 (y.cd - nd) (q.data.drop nd) rfl (fun h => by cases h) (by
            have h := HCUT.out
            rw [if_neg (by intro e; rw [hcs] at e; exact e), HDD.out, HND.out, Nat.sub_self] at h
            exact h) (by omega) hz6 ?_
          intro A7 c7 w7 ho7 hb7
          simp only [Act.put, List.setIfInBounds_toArray, List.set_cons_succ, List.set_cons_zero]
          have hB7 : Below wr.heap.size wr w7 := hB6.trans hb7
          have hz7 : wr.heap.size ≤ w7.heap.size := hB7.size
          have HO7 := Lib.hid ho7
          have HC7 := Lib.hid ho7.cap
          clear ho7
          refine hK _ _ ⟨⟨_, HM.out.below hB7⟩, rfl⟩ ?_
          clear hK K z3 hNE
          simp only [opsAt, List.getElem?_toArray, List.getElem?_cons_succ, List.getElem?_cons_zero]
          repeat (go_big_quiet_step (fail))
          refine wpQuiet_nil ?_
          refine effs_done ?_
          have hBw7 : Below w.heap.size w w7 := hB.trans (hB7.mono hz)
          have hzw7 := hBw7.size
          clear y3 hcs ht' ht'' hf' HO5 HO6 HCUT
          go_wp2_with fail
          refine (right_any key A7 _ c7 _ _ HK.out HO7.out.reads HC7.out.1 HC7.out.2 HO7.out.2.2 (by omega)).mono ?_
          rintro e w8 ⟨rfl, hb8⟩
          have HM8 := Lib.hid (HM.out.below (hB7.trans (hb8.mono hz7)))
          have hB8 := below_call hBw7 hb8 hzw7
          have y8 := (HM8.out.blk.at_ 3).trans rfl
          go_wp2_with (first
            | (go_at_call 8; refine (right_any _ _ _ _ _ _ (by (first | omega | (rw [IntKind.wrap_u32]; omega))) HM8.out.data.1 (by rw [HND.out]; exact hcap1) hcap2 HM8.out.data.2 (by rw [HND.out]; omega)).mono ?_; rintro e w9 ⟨rfl, hb9⟩; have hB9 := below_call hB8 hb9 hB8.size; clear y8)
            | (go_at_call 7; refine (known_any _).mono ?_; rintro e w10 ⟨rfl, hb10⟩; have hB10 := below_call hB9 hb10 hB9.size)
            | fail)
          go_ret
          exact ⟨rfl, hB10⟩
        · have hct' : y.cd = nd := by omega
          have HDA := Lib.hid HM.out.data.2
          have hcs : (y.cd = nd) = True := eq_true hct'
          have hct0 := Lib.hid hct'
          clear hct'
          have ht' : (nd : Int) ≤ y.cd := by omega
          have ht'' : (nd : Int) ≤ nd := by omega
          have hf' : (f : Int) ≤ y.cd := by omega
          have hNE : Nonempty (In (fun W => Md W w.heap.size q y)) := ⟨⟨_, HM.out⟩⟩
          have z3 : ∀ s : In (fun W => Md W w.heap.size q y), s.W.cell? ⟨w.heap.size, 3, none⟩ = some (.slice y.D nd y.cd) := fun s => (s.h.blk.at_ 3).trans (by rw [HND.out]; rfl)
          clear hct
          refine wp_region_sched (fun w' => ∃ s : In (fun W => Md W w.heap.size q y), w' = s.W) [0,1,2,3,4,5,7,9,10,11,12,13,14] (.one 6 [] (.one 8 [] (.one 15 [16] .done))) (by kernel_rfl) (by kernel_rfl) (fun d _ _ _ _ h => by cases d <;> exact h) ⟨⟨_, HM.out.below (Below.refl _ _).drew⟩, rfl⟩ ?_
          simp only [opsAt, List.getElem?_toArray, List.getElem?_cons_succ, List.getElem?_cons_zero]
          repeat (go_big_quiet_step (fail))
          refine wpQuiet_nil ?_
          (refine eff_lit rfl rfl (fun K hK => ?_))
          refine append_nil_op (w := wr.drew) (.const (.slice none 0 0)) (.tmp 67) 23 rfl 5 (.int .u8 0) 1 1 Try.info5 Try.underlying23 rfl (by decide) rfl y.D f y.cd (bys (q.data.take f)) ?_ HDA.out ?_ (bys_one _) ?_ ?_ ?_
          · rfl
          · have h := HM.out.data.1.head (k := f) (by rw [HND.out]; exact hf1)
            exact h.1.drew
          · omega
          · omega
          intro A5 c5 w5 ho5 hb5
          simp only [Act.put, List.setIfInBounds_toArray, List.set_cons_succ, List.set_cons_zero]
          have hB5 : Below wr.heap.size wr w5 := Below.trans (Below.refl _ _).drew hb5
          have hz5 : wr.heap.size ≤ w5.heap.size := hB5.size
          have HO5 : Hid (BOwns w5 wr.heap.size 5 A5 f c5 (q.data.take f)) := Lib.hid (ho5.b (fun z hz => HM.out.data.1.2 z (List.mem_of_mem_take hz)))
          clear ho5
          refine hK _ _ ⟨⟨_, HM.out.below hB5⟩, rfl⟩ ?_
          clear hK K
          simp only [opsAt, List.getElem?_toArray, List.getElem?_cons_succ, List.getElem?_cons_zero]
          refine wpQuiet_nil ?_
          (refine eff_lit rfl rfl (fun K hK => ?_))
          refine append_bytes_op (w := w5) (.tmp 68) (.tmp 69) 23 rfl wr.heap.size 5 Try.info5 Try.underlying23 A5 f c5 (q.data.take f) rfl HO5.out B nb cb xs rfl HBN.out (HX.out _ (hB.trans (hB5.mono hz))) (by omega) hz5 ?_
          intro A6 c6 w6 ho6 hb6
          simp only [Act.put, List.setIfInBounds_toArray, List.set_cons_succ, List.set_cons_zero]
          have hB6 : Below wr.heap.size wr w6 := hB5.trans hb6
          have hz6 : wr.heap.size ≤ w6.heap.size := hB6.size
          have HO6 := Lib.hid ho6
          clear ho6
          refine hK _ _ ⟨⟨_, HM.out.below hB6⟩, rfl⟩ ?_
          clear hK K
          simp only [opsAt, List.getElem?_toArray, List.getElem?_cons_succ, List.getElem?_cons_zero]
          refine wpQuiet_nil ?_
          (refine eff_lit rfl rfl (fun K hK => ?_))
          have HCUT := Lib.hid ((HM.out.below hB6).data.1.cut' (k := nd) (by rw [HND.out]; exact htn) (by rw [HND.out]; exact hcap1))
          refine append_bytes_op (w := w6) (.tmp 70) (.tmp 76) 23 rfl wr.heap.size 5 Try.info5 Try.underlying23 A6 (f + nb) c6 (q.data.take f ++ xs) rfl HO6.out y.D 0 (y.cd - nd) (q.data.drop nd) ?_ (fun h => by have h1 := HDA.out h; omega) (by
            have h := HCUT.out
            rw [if_pos hct0.out, HND.out, Nat.sub_self] at h
            exact h) (by omega) hz6 ?_
          · rfl
          intro A7 c7 w7 ho7 hb7
          simp only [Act.put, List.setIfInBounds_toArray, List.set_cons_succ, List.set_cons_zero]
          have hB7 : Below wr.heap.size wr w7 := hB6.trans hb7
          have hz7 : wr.heap.size ≤ w7.heap.size := hB7.size
          have HO7 := Lib.hid ho7
          have HC7 := Lib.hid ho7.cap
          clear ho7
          refine hK _ _ ⟨⟨_, HM.out.below hB7⟩, rfl⟩ ?_
          clear hK K z3 hNE
          simp only [opsAt, List.getElem?_toArray, List.getElem?_cons_succ, List.getElem?_cons_zero]
          repeat (go_big_quiet_step (fail))
          refine wpQuiet_nil ?_
          refine effs_done ?_
          have hBw7 : Below w.heap.size w w7 := hB.trans (hB7.mono hz)
          have hzw7 := hBw7.size
          clear y3 hcs ht' ht'' hf' HO5 HO6 HCUT
          go_wp2_with fail
          refine (right_any key A7 _ c7 _ _ HK.out HO7.out.reads HC7.out.1 HC7.out.2 HO7.out.2.2 (by omega)).mono ?_
          rintro e w8 ⟨rfl, hb8⟩
          have HM8 := Lib.hid (HM.out.below (hB7.trans (hb8.mono hz7)))
          have hB8 := below_call hBw7 hb8 hzw7
          have y8 := (HM8.out.blk.at_ 3).trans rfl
          go_wp2_with (first
            | (go_at_call 8; refine (right_any _ _ _ _ _ _ (by (first | omega | (rw [IntKind.wrap_u32]; omega))) HM8.out.data.1 (by rw [HND.out]; exact hcap1) hcap2 HM8.out.data.2 (by rw [HND.out]; omega)).mono ?_; rintro e w9 ⟨rfl, hb9⟩; have hB9 := below_call hB8 hb9 hB8.size; clear y8)
            | (go_at_call 7; refine (known_any _).mono ?_; rintro e w10 ⟨rfl, hb10⟩; have hB10 := below_call hB9 hb10 hB9.size)
            | fail)
          go_ret
          exact ⟨rfl, hB10⟩
end Go.Proofs.Ythckmcpngpigkaa
