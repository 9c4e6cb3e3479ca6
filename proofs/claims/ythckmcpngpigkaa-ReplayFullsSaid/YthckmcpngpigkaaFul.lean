/-
  The walk of ReplayFulls.
-/
import Derived.Test.YthckmcpngpigkaaFu
import Derived.Test.YthckmcpngpigkaaKnown
import Derived.Deep.LoopGhost
set_option linter.unusedSimpArgs false
set_option linter.unusedVariables false
namespace Go.Proofs.Ythckmcpngpigkaa
open Go.RowKit

theorem frec_any (key : Int) (k : Nat) (t : Int) (ht : t = ((k - 1 : Nat) : Int)) (W : World) (hk : 0 ≤ key ∧ key ≤ 4294967295) (hk5 : k ≤ 5000) : Calls Try.prog 11 #[.agg #[.int .i64 ((k : Int) % 2), .int .i64 1, .int .i64 0, .int .i64 0, .int .i64 0, .int .u64 k], .int .u64 t, .int .u32 (fst_ key k).sum] W fun e w' => ∃ A c, e = .returned (.slice A (recS (fst_ key k).last (fst_ key k).sum (fmv k)).length c) ∧ BOwns w' W.heap.size 5 A (recS (fst_ key k).last (fst_ key k).sum (fmv k)).length c (recS (fst_ key k).last (fst_ key k).sum (fmv k)) ∧ Below W.heap.size W w' := by
  have h := lrec_any (fmv k) (fst_ key k).last (fst_ key k).sum W (fmv_kept k) (by rw [f_last]; omega) (by rw [f_last]; simp only [fmv]; omega) (by simp only [fmv]; omega) (f_sum hk k).1 (f_sum hk k).2
  rw [ht, ← f_last key]
  exact h

set_option maxRecDepth 100000 in
set_option maxHeartbeats 1600000 in
theorem fulls_ok (m : Nat) (key : Int) (w : World) (hk : 0 ≤ key ∧ key ≤ 4294967295) (hm1 : 4094 ≤ m) (hm2 : m ≤ 4098) :
    Calls Try.prog 5 #[.int .i64 m, .int .u32 key] w fun e w' => e = .returned (.bool true) ∧ Below w.heap.size w w' := by
  have HK := Lib.hid hk
  clear hk
  have hm1' : ¬ (m : Int) < 4094 := by omega
  have hm2' : ¬ (4098 : Int) < m := by omega
  go_enter Try.func5, Try.ntmps5
  go_wp2_with fail
  refine (new_any key _ HK.out).mono ?_
  rintro e w1 ⟨rfl, hR1, hb1⟩
  have hz1 := hR1.blk.lt
  have HR1 : Hid (Rp w1 w.heap.size w.heap.size (fst_ key 0) _) := Lib.hid hR1
  clear hR1
  go_wp2
  go_loopw [6, 7, 8] (fun s v i W => ∃ (k : Nat) (x : RpC) (A : Option Addr) (n c : Nat), k ≤ m ∧ i = .int .i64 k ∧ s = .int .u32 (fst_ key k).sum ∧ v = .slice A n c ∧ BOwns W w.heap.size 5 A n c (fst_ key k).data ∧ Rp W w.heap.size w.heap.size (fst_ key (min k 4096)) x ∧ Hid (∀ i, Foot w.heap.size x i → blkOf A ≠ some i) ∧ Below w.heap.size w W) (fun _ _ i _ => m - (intOf i).toNat)
  case atStart => exact ⟨0, _, none, 0, 0, Nat.zero_le _, rfl, rfl, rfl, BOwns.nil _ _ _, HR1.out, Lib.hid (fun i _ h => by cases h), hb1⟩
  case round =>
    obtain ⟨k, x, A, n, c, hk, rfl, rfl, rfl, hO, hR, HS, hB⟩ := hrel
    have HO := Lib.hid hO
    have HR := Lib.hid hR
    have hz := hB.size
    have hzp := hR.blk.lt
    have HN := Lib.hid hO.length
    have hn : n ≤ 24 * k := by have := f_len key k (by omega); rw [hO.length] at this; exact this
    clear hO hR HR1 hb1 hz1
    by_cases hlt : k < m
    · have hlt' : (k : Int) < m := by omega
      have hk2 : Int.tmod (k : Int) 2 = ((k % 2 : Nat) : Int) := rfl
      have hk3 : IntKind.u64.wrap (k : Int) = k := IntWalk.u64_in _ (by omega)
      have hk4 : IntKind.i64.wrap ((k : Int) - 1) = (k : Int) - 1 := IntWalk.i64_in _ (by omega)
      by_cases hk1 : 1 < (k : Int)
      · have hk0 : ((k : Int) ≤ 1) = False := eq_false (by omega)
        go_wp2_with fail
        refine (frec_any key k _ (by omega) _ HK.out (by omega)).mono ?_
        rintro e w2 ⟨A2, c2, rfl, hO2, hb2⟩
        have HM0 := Lib.hid (Blk.mk_ wr 41 #[.int .i64 ((k : Int) % 2), .int .i64 1, .int .i64 0, .int .i64 0, .int .i64 0, .int .u64 k] wr.heap.size rfl)
        have hb2' : Below wr.heap.size wr w2 := Below.trans (by (focus (repeat' (first | (with_reducible exact Below.refl _ _) | (with_reducible assumption) | (with_reducible refine Below.alloc ?_ ?_ _) | (with_reducible refine below_drewN ?_ _) | (with_reducible refine Below.drew ?_) | (with_reducible refine Below.setCell ?_ ?_ _) | omega | (simp; done) | (simp; omega))))) (hb2.mono (by simp))
        have HM2 := Lib.hid (HM0.out.call hb2)
        have HO2 := Lib.hid hO2
        have HRL := Lib.hid (f_rec_len key k (by omega))
        have HON := Lib.hid (HO.out.below hb2')
        have HR2 := Lib.hid (HR.out.below hb2')
        have hz2 := hb2'.size
        have m0 := (HM2.out.at_ 0).trans rfl
        have m1 := (HM2.out.at_ 1).trans rfl
        have m2 := (HM2.out.at_ 2).trans rfl
        have m3 := (HM2.out.at_ 3).trans rfl
        have m4 := (HM2.out.at_ 4).trans rfl
        have m5 := (HM2.out.at_ 5).trans rfl
        clear hO2 HM0
        go_wp2_with fail
        refine (app_any w.heap.size w.heap.size _ x (fmv k) _ HR2.out (fmv_good (by omega))).mono ?_
        rintro e w3 ⟨x3, rfl, hR3, hF3, hx3⟩
        rw [f_madd] at hR3
        rw [f_err]
        have HR3 := Lib.hid hR3
        have HF3 := Lib.hid hF3
        have HX3 := Lib.hid hx3
        have hB3 : Below w.heap.size w w3 := (hB.trans (hb2'.mono hz)).trans (hF3.below (by omega) (fun i hi => (HR2.out.foot i hi).1))
        have hz3 := hB3.size
        have HON3 : Hid (BOwns w3 w.heap.size 5 A n c (fst_ key k).data) := Lib.hid ((HON.out.x.onlyF hF3 (fun i hi hf => HS.out i hf hi)).b HON.out.2.1)
        have HO3 : Hid (BReads w3 A2 (recS (fst_ key k).last (fst_ key k).sum (fmv k)).length (recS (fst_ key k).last (fst_ key k).sum (fmv k))) := Lib.hid ⟨HO2.out.reads.1.onlyF hF3 (fun _ i hi hf => by
          have h1 := (own_blk HO2.out) i hi
          have h2 := (HR.out.foot i hf).2
          simp at h1
          omega), HO2.out.reads.2⟩
        have HC2 := Lib.hid HO2.out.cap
        have HAL := Lib.hid (own_lt HON.out)
        have HSN := Lib.hid (f_sum_next key k)
        have HDN : Hid ((fst_ key (k + 1)).data = (fst_ key k).data ++ recS (fst_ key k).last (fst_ key k).sum (fmv k)) := Lib.hid rfl
        clear hR3 hF3 hx3 m0 m1 m2 m3 m4 m5 hb2 HO2 HM2 HON HO
        generalize recS (fst_ key k).last (fst_ key k).sum (fmv k) = rs at *
        have HRS : Hid (rs.length = rs.length) := Lib.hid rfl
        obtain ⟨L, hL⟩ : ∃ L, rs.length = L := ⟨_, rfl⟩
        rw [hL] at HC2 HO3 HRL HSN
        have hRL := HRL.out
        obtain ⟨h, hh⟩ : ∃ h, h + 4 = L := ⟨L - 4, by omega⟩
        have hL4 : IntKind.i64.wrap ((L : Int) - 4) = (h : Int) := by rw [← hh, show (((h + 4 : Nat) : Int) - 4) = (h : Int) by omega]; exact IntWalk.i64_in _ (by omega)
        have hLc : (h : Int) ≤ c2 := by have := HC2.out; omega
        have hh' : h ≤ L := by omega
        rw [show L - 4 = h by omega] at HSN
        rw [hL]
        by_cases hk6 : k < 4096
        · have hk6' : (k : Int) < 4096 := by omega
          rw [if_pos hk6]
          clear hk6
          go_wp2_with fail
          refine (sum_any _ _ _ _ (rs.take h) _ (f_sum HK.out k).1 (f_sum HK.out k).2 (HO3.out.head hh') (by omega)).mono ?_
          rintro e w4 ⟨rfl, rfl⟩
          rw [HSN.out]
          go_wp2_with (at_builtin; refine append_bytes_at _ ?_ (.tmp 58) (.tmp 59) 23 ?_ w.heap.size 5 Try.info5 Try.underlying23 A n c (fst_ key k).data ?_ HON3.out A2 L c2 rs ?_ HO3.out ?_ ?_ ?_ w3.heap.size rfl ?_; rfl; rfl; rfl; rfl; omega; omega; omega; intro g5 c5 w5 ho5 hg5 hi5 hlt5)
          have hbl : blkOf A = blkOf A := rfl
          have HR5 := Lib.hid (HR3.out.onlyF (OnlyF.of_grown (F := fun i => blkOf A = some i) hg5 (fun i hi => hi)) (fun i hi hf => by
            rcases HX3.out i hi with h1 | h1
            · exact HS.out i h1 hf
            · have := HAL.out i hf
              omega))
          have HS5 : Hid (∀ i, Foot w.heap.size x3 i → blkOf (some ⟨g5, 0, none⟩) ≠ some i) := Lib.hid fun i hi he => by
            injection he with he
            have he' : g5 = i := he
            subst he'
            rcases hi5 with h1 | h1
            · rcases HX3.out g5 hi with h2 | h2
              · exact HS.out g5 h2 h1
              · have := HAL.out g5 h1
                omega
            · have := (HR3.out.foot g5 hi).2
              omega
          have hB5 : Below w.heap.size w w5 := hB3.trans (grown_below hg5 (by omega) (own_blk HON3.out))
          go_wp2
          go_roundw
          case rel => exact ⟨k + 1, x3, _, _, _, by omega, by go_num, rfl, rfl, by rw [HDN.out]; exact ho5, HR5.out, HS5, hB5⟩
          case measure => simp [intOf]; omega
        · have hk6' : ¬ (k : Int) < 4096 := by omega
          rw [if_neg hk6]
          clear hk6
          go_wp2_with fail
          refine (sum_any _ _ _ _ (rs.take h) _ (f_sum HK.out k).1 (f_sum HK.out k).2 (HO3.out.head hh') (by omega)).mono ?_
          rintro e w4 ⟨rfl, rfl⟩
          rw [HSN.out]
          go_wp2_with (at_builtin; refine append_bytes_at _ ?_ (.tmp 58) (.tmp 59) 23 ?_ w.heap.size 5 Try.info5 Try.underlying23 A n c (fst_ key k).data ?_ HON3.out A2 L c2 rs ?_ HO3.out ?_ ?_ ?_ w3.heap.size rfl ?_; rfl; rfl; rfl; rfl; omega; omega; omega; intro g5 c5 w5 ho5 hg5 hi5 hlt5)
          have hbl : blkOf A = blkOf A := rfl
          have HR5 := Lib.hid (HR3.out.onlyF (OnlyF.of_grown (F := fun i => blkOf A = some i) hg5 (fun i hi => hi)) (fun i hi hf => by
            rcases HX3.out i hi with h1 | h1
            · exact HS.out i h1 hf
            · have := HAL.out i hf
              omega))
          have HS5 : Hid (∀ i, Foot w.heap.size x3 i → blkOf (some ⟨g5, 0, none⟩) ≠ some i) := Lib.hid fun i hi he => by
            injection he with he
            have he' : g5 = i := he
            subst he'
            rcases hi5 with h1 | h1
            · rcases HX3.out g5 hi with h2 | h2
              · exact HS.out g5 h2 h1
              · have := HAL.out g5 h1
                omega
            · have := (HR3.out.foot g5 hi).2
              omega
          have hB5 : Below w.heap.size w w5 := hB3.trans (grown_below hg5 (by omega) (own_blk HON3.out))
          go_wp2
          go_roundw
          case rel => exact ⟨k + 1, x3, _, _, _, by omega, by go_num, rfl, rfl, by rw [HDN.out]; exact ho5, HR5.out, HS5, hB5⟩
          case measure => simp [intOf]; omega
      · have hk0 : (1 < (k : Int)) = False := eq_false hk1
        go_wp2_with fail
        refine (frec_any key k _ (by omega) _ HK.out (by omega)).mono ?_
        rintro e w2 ⟨A2, c2, rfl, hO2, hb2⟩
        have HM0 := Lib.hid (Blk.mk_ wr 41 #[.int .i64 ((k : Int) % 2), .int .i64 1, .int .i64 0, .int .i64 0, .int .i64 0, .int .u64 k] wr.heap.size rfl)
        have hb2' : Below wr.heap.size wr w2 := Below.trans (by (focus (repeat' (first | (with_reducible exact Below.refl _ _) | (with_reducible assumption) | (with_reducible refine Below.alloc ?_ ?_ _) | (with_reducible refine below_drewN ?_ _) | (with_reducible refine Below.drew ?_) | (with_reducible refine Below.setCell ?_ ?_ _) | omega | (simp; done) | (simp; omega))))) (hb2.mono (by simp))
        have HM2 := Lib.hid (HM0.out.call hb2)
        have HO2 := Lib.hid hO2
        have HRL := Lib.hid (f_rec_len key k (by omega))
        have HON := Lib.hid (HO.out.below hb2')
        have HR2 := Lib.hid (HR.out.below hb2')
        have hz2 := hb2'.size
        have m0 := (HM2.out.at_ 0).trans rfl
        have m1 := (HM2.out.at_ 1).trans rfl
        have m2 := (HM2.out.at_ 2).trans rfl
        have m3 := (HM2.out.at_ 3).trans rfl
        have m4 := (HM2.out.at_ 4).trans rfl
        have m5 := (HM2.out.at_ 5).trans rfl
        clear hO2 HM0
        go_wp2_with fail
        refine (app_any w.heap.size w.heap.size _ x (fmv k) _ HR2.out (fmv_good (by omega))).mono ?_
        rintro e w3 ⟨x3, rfl, hR3, hF3, hx3⟩
        rw [f_madd] at hR3
        rw [f_err]
        have HR3 := Lib.hid hR3
        have HF3 := Lib.hid hF3
        have HX3 := Lib.hid hx3
        have hB3 : Below w.heap.size w w3 := (hB.trans (hb2'.mono hz)).trans (hF3.below (by omega) (fun i hi => (HR2.out.foot i hi).1))
        have hz3 := hB3.size
        have HON3 : Hid (BOwns w3 w.heap.size 5 A n c (fst_ key k).data) := Lib.hid ((HON.out.x.onlyF hF3 (fun i hi hf => HS.out i hf hi)).b HON.out.2.1)
        have HO3 : Hid (BReads w3 A2 (recS (fst_ key k).last (fst_ key k).sum (fmv k)).length (recS (fst_ key k).last (fst_ key k).sum (fmv k))) := Lib.hid ⟨HO2.out.reads.1.onlyF hF3 (fun _ i hi hf => by
          have h1 := (own_blk HO2.out) i hi
          have h2 := (HR.out.foot i hf).2
          simp at h1
          omega), HO2.out.reads.2⟩
        have HC2 := Lib.hid HO2.out.cap
        have HAL := Lib.hid (own_lt HON.out)
        have HSN := Lib.hid (f_sum_next key k)
        have HDN : Hid ((fst_ key (k + 1)).data = (fst_ key k).data ++ recS (fst_ key k).last (fst_ key k).sum (fmv k)) := Lib.hid rfl
        clear hR3 hF3 hx3 m0 m1 m2 m3 m4 m5 hb2 HO2 HM2 HON HO
        generalize recS (fst_ key k).last (fst_ key k).sum (fmv k) = rs at *
        have HRS : Hid (rs.length = rs.length) := Lib.hid rfl
        obtain ⟨L, hL⟩ : ∃ L, rs.length = L := ⟨_, rfl⟩
        rw [hL] at HC2 HO3 HRL HSN
        have hRL := HRL.out
        obtain ⟨h, hh⟩ : ∃ h, h + 4 = L := ⟨L - 4, by omega⟩
        have hL4 : IntKind.i64.wrap ((L : Int) - 4) = (h : Int) := by rw [← hh, show (((h + 4 : Nat) : Int) - 4) = (h : Int) by omega]; exact IntWalk.i64_in _ (by omega)
        have hLc : (h : Int) ≤ c2 := by have := HC2.out; omega
        have hh' : h ≤ L := by omega
        rw [show L - 4 = h by omega] at HSN
        rw [hL]
        by_cases hk6 : k < 4096
        · have hk6' : (k : Int) < 4096 := by omega
          rw [if_pos hk6]
          clear hk6
          go_wp2_with fail
          refine (sum_any _ _ _ _ (rs.take h) _ (f_sum HK.out k).1 (f_sum HK.out k).2 (HO3.out.head hh') (by omega)).mono ?_
          rintro e w4 ⟨rfl, rfl⟩
          rw [HSN.out]
          go_wp2_with (at_builtin; refine append_bytes_at _ ?_ (.tmp 58) (.tmp 59) 23 ?_ w.heap.size 5 Try.info5 Try.underlying23 A n c (fst_ key k).data ?_ HON3.out A2 L c2 rs ?_ HO3.out ?_ ?_ ?_ w3.heap.size rfl ?_; rfl; rfl; rfl; rfl; omega; omega; omega; intro g5 c5 w5 ho5 hg5 hi5 hlt5)
          have hbl : blkOf A = blkOf A := rfl
          have HR5 := Lib.hid (HR3.out.onlyF (OnlyF.of_grown (F := fun i => blkOf A = some i) hg5 (fun i hi => hi)) (fun i hi hf => by
            rcases HX3.out i hi with h1 | h1
            · exact HS.out i h1 hf
            · have := HAL.out i hf
              omega))
          have HS5 : Hid (∀ i, Foot w.heap.size x3 i → blkOf (some ⟨g5, 0, none⟩) ≠ some i) := Lib.hid fun i hi he => by
            injection he with he
            have he' : g5 = i := he
            subst he'
            rcases hi5 with h1 | h1
            · rcases HX3.out g5 hi with h2 | h2
              · exact HS.out g5 h2 h1
              · have := HAL.out g5 h1
                omega
            · have := (HR3.out.foot g5 hi).2
              omega
          have hB5 : Below w.heap.size w w5 := hB3.trans (grown_below hg5 (by omega) (own_blk HON3.out))
          go_wp2
          go_roundw
          case rel => exact ⟨k + 1, x3, _, _, _, by omega, by go_num, rfl, rfl, by rw [HDN.out]; exact ho5, HR5.out, HS5, hB5⟩
          case measure => simp [intOf]; omega
        · exact absurd hk6 (by omega)
    ·
      obtain rfl : k = m := by omega
      have HRD := Lib.hid (f_read key k (by omega))
      have HPR := Lib.hid (f_pre key k)
      have HMQ := Lib.hid (f_mv key (min k 4096))
      generalize hq : fst_ key (min k 4096) = q at *
      generalize hxs : (fst_ key k).data = xs at *
      clear hq hxs
      have hpl : q.data.length ≤ n := by have := HPR.out.2; have := HN.out; omega
      have HC := Lib.hid HO.out.cap
      go_wp2_with fail
      refine (readr_any key A n c xs _ HK.out HO.out.reads HC.out.1 HC.out.2 HO.out.2.2).mono ?_
      rintro e w2 ⟨x2, he, hR2, hb2⟩
      rw [HRD.out] at he hR2
      subst he
      have HR2 := Lib.hid hR2
      have HR := Lib.hid (HR.out.below hb2)
      have HX := Lib.hid (HO.out.reads.below hb2)
      have hB2 := below_call hB hb2 hz
      have hz2 := hB2.size
      have hzp2 := hR2.blk.lt
      obtain ⟨dl, hdl⟩ : ∃ dl, q.data.length = dl := ⟨_, rfl⟩
      have HDL := Lib.hid hdl
      rw [hdl]
      rw [hdl] at hpl
      have hpl' : (dl : Int) ≤ n := by omega
      have hplc : (dl : Int) ≤ c := by have := HC.out.1; omega
      have v1 : ∀ s : Later w2.heap.size w2, (convert 23 9 (.slice A dl c)).run Try.prog s.W = .ok (.string (strOfNums q.data)) s.W := fun s => by
        have h := (HX.out.below s.h).head hpl
        rw [← HDL.out, HPR.out.1, HDL.out] at h
        exact convert_bytes (P := Try.prog) h c 23 5 Try.underlying23 Try.underlying5 9 Try.underlying9
      clear hR2 hdl HO hb2 HRD
      by_cases hk9 : (4096 : Int) < k
      · rw [show min k 4096 = 4096 by omega] at HMQ
        go_wp2
        refine wp_region_sched (fun w' => ∃ s : Later w2.heap.size w2, w' = s.W) [0,1,2,3,5,6] (.one 4 [7,8,9,10,11] (.one 12 [13,14,15,16,17,18,19,20,21,22,23,24,25,26,27] (.one 28 [] (.one 29 [30,31,32] (.one 33 [34,35] .done))))) (by kernel_rfl) (by kernel_rfl) (fun d _ _ _ _ h => by cases d <;> exact h) ⟨⟨_, (Below.refl _ _).drew⟩, rfl⟩ ?_
        simp only [opsAt, List.getElem?_toArray, List.getElem?_cons_succ, List.getElem?_cons_zero]
        repeat (go_big_quiet_step (fail))
        refine wpQuiet_nil ?_
        (refine eff_lit rfl rfl (fun K hK => ?_))
        go_big_op
        refine (len_any wr.heap.size wr.heap.size q x2 _ (HR2.out.below (Below.refl _ _).drew)).mono ?_
        rintro e w3 ⟨rfl, rfl⟩
        rw [HMQ.out]
        refine hK _ _ ⟨⟨_, (Below.refl _ _).drew⟩, rfl⟩ ?_
        clear hK K
        simp only [opsAt, List.getElem?_toArray, List.getElem?_cons_succ, List.getElem?_cons_zero]
        repeat (go_big_quiet_step (fail))
        refine wpQuiet_nil ?_
        (refine eff_lit rfl rfl (fun K hK => ?_))
        go_big_op
        refine (bytes_any w.heap.size w.heap.size q x _ (HR.out.below (Below.refl _ _).drew)).mono ?_
        rintro e w4 ⟨A4, c4, rfl, ho4, hb4⟩
        rw [HDL.out]
        have hB4 : Below w2.heap.size w2 w4 := (Below.refl _ _).drew.trans hb4
        clear ho4
        refine hK _ _ ⟨⟨_, hB4⟩, rfl⟩ ?_
        clear hK K
        simp only [opsAt, List.getElem?_toArray, List.getElem?_cons_succ, List.getElem?_cons_zero]
        repeat (go_big_quiet_step (fail))
        refine wpQuiet_nil ?_
        (refine eff_lit rfl rfl (fun K hK => ?_))
        go_big_op
        refine (bytes_any w.heap.size w.heap.size q x _ (HR.out.below hB4)).mono ?_
        rintro e w5 ⟨A5, c5, rfl, ho5, hb5⟩
        rw [HDL.out] at ho5 ⊢
        have hB5 := below_call hB4 hb5 hB4.size
        have v5 := convert_bytes (P := Try.prog) ho5.reads c5 23 5 Try.underlying23 Try.underlying5 9 Try.underlying9
        clear ho5
        refine hK _ _ ⟨⟨_, hB5⟩, rfl⟩ ?_
        clear hK K
        simp only [opsAt, List.getElem?_toArray, List.getElem?_cons_succ, List.getElem?_cons_zero]
        refine wpQuiet_nil ?_
        (refine eff_lit rfl rfl (fun K hK => ?_))
        go_big_op
        refine hK _ _ ⟨⟨_, hB5⟩, rfl⟩ ?_
        clear hK K
        simp only [opsAt, List.getElem?_toArray, List.getElem?_cons_succ, List.getElem?_cons_zero]
        repeat (go_big_quiet_step (fail))
        refine wpQuiet_nil ?_
        (refine eff_lit rfl rfl (fun K hK => ?_))
        go_big_op
        refine (known_any _).mono ?_
        rintro e w6 ⟨rfl, hb6⟩
        have hB6 := below_call hB5 hb6 hB5.size
        refine hK _ _ ⟨⟨_, hB6⟩, rfl⟩ ?_
        clear hK K
        simp only [opsAt, List.getElem?_toArray, List.getElem?_cons_succ, List.getElem?_cons_zero]
        repeat (go_big_quiet_step (fail))
        refine wpQuiet_nil ?_
        refine effs_done ?_
        clear v1 v5
        go_wp2
        go_ret
        exact ⟨rfl, hB2.trans (hB6.mono hz2)⟩
      · rw [show min k 4096 = k by omega] at HMQ
        go_wp2
        refine wp_region_sched (fun w' => ∃ s : Later w2.heap.size w2, w' = s.W) [0,1,2,3,5,6] (.one 4 [7,8,9,10,11] (.one 12 [13,14,15,16,17,18,19,20,21,22,23,24,25,26,27] (.one 28 [] (.one 29 [30,31,32] (.one 33 [34,35] .done))))) (by kernel_rfl) (by kernel_rfl) (fun d _ _ _ _ h => by cases d <;> exact h) ⟨⟨_, (Below.refl _ _).drew⟩, rfl⟩ ?_
        simp only [opsAt, List.getElem?_toArray, List.getElem?_cons_succ, List.getElem?_cons_zero]
        repeat (go_big_quiet_step (fail))
        refine wpQuiet_nil ?_
        (refine eff_lit rfl rfl (fun K hK => ?_))
        go_big_op
        refine (len_any wr.heap.size wr.heap.size q x2 _ (HR2.out.below (Below.refl _ _).drew)).mono ?_
        rintro e w3 ⟨rfl, rfl⟩
        rw [HMQ.out]
        refine hK _ _ ⟨⟨_, (Below.refl _ _).drew⟩, rfl⟩ ?_
        clear hK K
        simp only [opsAt, List.getElem?_toArray, List.getElem?_cons_succ, List.getElem?_cons_zero]
        repeat (go_big_quiet_step (fail))
        refine wpQuiet_nil ?_
        (refine eff_lit rfl rfl (fun K hK => ?_))
        go_big_op
        refine (bytes_any w.heap.size w.heap.size q x _ (HR.out.below (Below.refl _ _).drew)).mono ?_
        rintro e w4 ⟨A4, c4, rfl, ho4, hb4⟩
        rw [HDL.out]
        have hB4 : Below w2.heap.size w2 w4 := (Below.refl _ _).drew.trans hb4
        clear ho4
        refine hK _ _ ⟨⟨_, hB4⟩, rfl⟩ ?_
        clear hK K
        simp only [opsAt, List.getElem?_toArray, List.getElem?_cons_succ, List.getElem?_cons_zero]
        repeat (go_big_quiet_step (fail))
        refine wpQuiet_nil ?_
        (refine eff_lit rfl rfl (fun K hK => ?_))
        go_big_op
        refine (bytes_any w.heap.size w.heap.size q x _ (HR.out.below hB4)).mono ?_
        rintro e w5 ⟨A5, c5, rfl, ho5, hb5⟩
        rw [HDL.out] at ho5 ⊢
        have hB5 := below_call hB4 hb5 hB4.size
        have v5 := convert_bytes (P := Try.prog) ho5.reads c5 23 5 Try.underlying23 Try.underlying5 9 Try.underlying9
        clear ho5
        refine hK _ _ ⟨⟨_, hB5⟩, rfl⟩ ?_
        clear hK K
        simp only [opsAt, List.getElem?_toArray, List.getElem?_cons_succ, List.getElem?_cons_zero]
        refine wpQuiet_nil ?_
        (refine eff_lit rfl rfl (fun K hK => ?_))
        go_big_op
        refine hK _ _ ⟨⟨_, hB5⟩, rfl⟩ ?_
        clear hK K
        simp only [opsAt, List.getElem?_toArray, List.getElem?_cons_succ, List.getElem?_cons_zero]
        repeat (go_big_quiet_step (fail))
        refine wpQuiet_nil ?_
        (refine eff_lit rfl rfl (fun K hK => ?_))
        go_big_op
        refine (known_any _).mono ?_
        rintro e w6 ⟨rfl, hb6⟩
        have hB6 := below_call hB5 hb6 hB5.size
        refine hK _ _ ⟨⟨_, hB6⟩, rfl⟩ ?_
        clear hK K
        simp only [opsAt, List.getElem?_toArray, List.getElem?_cons_succ, List.getElem?_cons_zero]
        repeat (go_big_quiet_step (fail))
        refine wpQuiet_nil ?_
        refine effs_done ?_
        clear v1 v5
        go_wp2
        go_ret
        exact ⟨rfl, hB2.trans (hB6.mono hz2)⟩
end Go.Proofs.Ythckmcpngpigkaa
