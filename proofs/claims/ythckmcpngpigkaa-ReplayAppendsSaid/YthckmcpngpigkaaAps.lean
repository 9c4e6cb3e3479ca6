/-
  The walk of ReplayAppends.
-/
import Derived.Test.YthckmcpngpigkaaCpy
import Derived.Test.YthckmcpngpigkaaKnown
set_option linter.unusedSimpArgs false
set_option linter.unusedVariables false
namespace Go.Proofs.Ythckmcpngpigkaa
open Go.RowKit

theorem move_cells {w : World} {ad : Addr} {n : Nat} {l : List MoveV} {k : Nat} {v : MoveV} (h : Reads w 6 (some ad) n (mcells l)) (hv : l[k]? = some v) (hk : k < n) :
    w.cell? (ad.add (k * 6)) = some (.int .i64 v.p) ∧ w.cell? ⟨(ad.add (k * 6)).block, (ad.add (k * 6)).off + 1, none⟩ = some (.int .i64 v.why) ∧ w.cell? ⟨(ad.add (k * 6)).block, (ad.add (k * 6)).off + 2, none⟩ = some (.int .i64 v.k) ∧
    w.cell? ⟨(ad.add (k * 6)).block, (ad.add (k * 6)).off + 3, none⟩ = some (.int .i64 v.id) ∧ w.cell? ⟨(ad.add (k * 6)).block, (ad.add (k * 6)).off + 4, none⟩ = some (.int .i64 v.to) ∧ w.cell? ⟨(ad.add (k * 6)).block, (ad.add (k * 6)).off + 5, none⟩ = some (.int .u64 v.at_) := by
  obtain ⟨ad', v', hA, _, hv', hc⟩ := move_at h hk
  injection hA with hA
  subst hA
  rw [hv] at hv'
  injection hv' with hv'
  subst hv'
  exact hc
theorem Md.foot {w : World} {p : Nat} {q : St} {y : MdC} (h : Md w p q y) : ∀ i, FootM p y i → i < w.heap.size := by
  rintro i (rfl | ⟨hn, hi⟩ | ⟨hn, hi⟩ | ⟨hn, hi⟩)
  · exact h.blk.lt
  · exact h.mv.1.foot hn i hi
  · exact h.ends.1.foot hn i hi
  · exact h.data.1.1.foot hn i hi
theorem madds_key (l : List MoveV) (q : St) : (q.madds l).key = q.key := by
  induction l generalizing q with
  | nil => rfl
  | cons m l ih =>
    have := ih (q.madd m)
    rw [madd_key] at this
    exact this

set_option maxRecDepth 100000 in
set_option maxHeartbeats 3200000 in
theorem apps_ok (key : Int) (A : Option Addr) (n c : Nat) (l : List MoveV) (a : Nat) (cut : Int) (w : World) (hk : 0 ≤ key ∧ key ≤ 4294967295) (hl : Reads w 6 A n (mcells l)) (hll : l.length = n) (hg : ∀ m ∈ l, GoodM m) (ha : a ≤ 255) (hn : n ≤ 40) :
    Calls Try.prog 6 #[.int .u32 key, .slice A n c, .int .u8 a, .int .i64 cut] w fun e w' => e = .returned (.bool true) ∧ Below w.heap.size w w' := by
  have HL : Hid (∀ W, Below w.heap.size w W → Reads W 6 A n (mcells l)) := Lib.hid fun W h => hl.below h
  have HK := Lib.hid hk
  have HG := Lib.hid hg
  have HLL := Lib.hid hll
  have hn' : ¬ (40 : Int) < n := by omega
  have ha1 : IntKind.i64.wrap (a : Int) = a := IntWalk.i64_in _ (by omega)
  clear hl hk hg hll
  go_enter Try.func6, Try.ntmps6
  go_wp2_with fail
  refine (new_any key _ HK.out).mono ?_
  rintro e w1 ⟨rfl, hR1, hb1⟩
  have hz1 := hR1.blk.lt
  have hm0 := md0 HK.out (Blk.mk_ w1 31 #[.int .u32 key, .slice none 0 0, .slice none 0 0, .slice none 0 0, .int .u32 key] w1.heap.size rfl)
  have HM1 : Hid (Md _ w1.heap.size ((st0 key).madds (l.take 0)) _) := Lib.hid hm0
  have HR1 : Hid (Rp _ w.heap.size w.heap.size ((st0 key).madds (l.take 0)) _) := Lib.hid (hR1.below ((Below.refl _ _).alloc (Nat.le_refl _) (.cells #[.int .u32 key, .slice none 0 0, .slice none 0 0, .slice none 0 0, .int .u32 key] 31)))
  have hB1 : Below w.heap.size w (w1.alloc (.cells #[.int .u32 key, .slice none 0 0, .slice none 0 0, .slice none 0 0, .int .u32 key] 31)) := hb1.alloc hb1.size _
  clear hR1 hm0
  go_wp2_with fail
  refine (alike_any w.heap.size w.heap.size w1.heap.size _ _ _ _ HR1.out HM1.out).mono ?_
  rintro e w2 ⟨rfl, hb2⟩
  have HM2 := Lib.hid (HM1.out.below hb2)
  have HR2 := Lib.hid (HR1.out.below hb2)
  have hB2 := below_call hB1 hb2 hB1.size
  have hgw : w.heap.size ≤ w1.heap.size := hb1.size
  clear HM1 HR1 hB1 hb2
  go_wp2
  generalize hge : w1.heap.size = g at *
  go_loopw [9, 11] (fun r i W => ∃ (k p : Nat) (x : RpC) (y : MdC), k ≤ n ∧ i = .int .i64 k ∧ r = .pointer (some ⟨p, 0, none⟩) ∧ Rp W w.heap.size p ((st0 key).madds (l.take k)) x ∧ Md W g ((st0 key).madds (l.take k)) y ∧ Hid (∀ i, Foot p x i → ¬ FootM g y i) ∧ Hid (∀ i, FootM g y i → w.heap.size ≤ i) ∧ Below w.heap.size w W) (fun _ i _ => n - (intOf i).toNat)
  case atStart => exact ⟨0, w.heap.size, _, _, Nat.zero_le _, rfl, rfl, HR2.out, HM2.out, Lib.hid (by
    rintro i (rfl | h | h | h) hf
    · rcases hf with h | ⟨h, _⟩ | ⟨h, _⟩ | ⟨h, _⟩
      · omega
      · exact absurd h (by decide)
      · exact absurd h (by decide)
      · exact absurd h (by decide)
    · cases h
    · cases h
    · cases h), Lib.hid (fun i hi => by
    rcases hi with rfl | ⟨h, _⟩ | ⟨h, _⟩ | ⟨h, _⟩
    · exact hgw
    · exact absurd h (by decide)
    · exact absurd h (by decide)
    · exact absurd h (by decide)), hB2⟩
  case round =>
    obtain ⟨k, p, x, y, hk, rfl, rfl, hR, hM, HSP, HF, hB⟩ := hrel
    have HR := Lib.hid hR
    have HM := Lib.hid hM
    have hz := hB.size
    have hzp := hR.blk.lt
    have hzg := hM.blk.lt
    clear hR hM HM2 HR2 hB2 hb1
    by_cases hlt : k < n
    · have hlt' : (k : Int) < n := by omega
      by_cases hka : k = a
      · obtain rfl : k = a := hka
        generalize wr = wz at *
        go_wp2_with fail
        refine (copy_any w.heap.size p _ x _ HR.out).mono ?_
        rintro e v0 ⟨gc, xc, rfl, hRc, hbc⟩
        have HRc := Lib.hid hRc
        have hz0 := hbc.size
        clear hRc
        go_wp2_with fail
        refine (app_any w.heap.size p _ x ⟨1, 1, 0, 0, 0, 18446744073709551615⟩ _ (HR.out.below hbc) (by unfold GoodM; dsimp only; omega)).mono ?_
        rintro e wv ⟨xo, rfl, _, hOo, _⟩
        have HRv := Lib.hid ((HRc.out.onlyF hOo (fun i hi hf => by
          have h1 := (HRc.out.foot i hi).1
          have h2 := (HR.out.foot i hf).2
          omega)).more hz)
        have HMv := Lib.hid ((HM.out.below hbc).onlyF hOo (fun i hi hf => HSP.out i hf hi))
        have HSPv : Hid (∀ i, Foot gc xc i → ¬ FootM g y i) := Lib.hid fun i hi hf => by
          have h1 := (HRc.out.foot i hi).1
          have h2 := HM.out.foot i hf
          omega
        have hBv : Below w.heap.size w wv := (hB.trans (hbc.mono hz)).trans (hOo.below (by omega) (fun i hi => (HR.out.foot i hi).1))
        have hzv := hBv.size
        have hzo := hOo.size
        clear hOo HRc hbc
        obtain ⟨ad, m, rfl, hab, hv, _⟩ := move_at (HL.out _ hBv) hlt
        have HGM := Lib.hid (HG.out m (List.mem_of_getElem? hv))
        have HS := Lib.hid (madds_snoc (st0 key) hv)
        have hNE : Nonempty (In (fun W => Reads W 6 (some ad) n (mcells l))) := ⟨⟨_, HL.out _ hBv⟩⟩
        have HV := Lib.hid hv
        have c0 := fun s : In (fun W => Reads W 6 (some ad) n (mcells l)) => (move_cells s.h HV.out hlt).1
        have c1 := fun s : In (fun W => Reads W 6 (some ad) n (mcells l)) => (move_cells s.h HV.out hlt).2.1
        have c2 := fun s : In (fun W => Reads W 6 (some ad) n (mcells l)) => (move_cells s.h HV.out hlt).2.2.1
        have c3 := fun s : In (fun W => Reads W 6 (some ad) n (mcells l)) => (move_cells s.h HV.out hlt).2.2.2.1
        have c4 := fun s : In (fun W => Reads W 6 (some ad) n (mcells l)) => (move_cells s.h HV.out hlt).2.2.2.2.1
        have c5 := fun s : In (fun W => Reads W 6 (some ad) n (mcells l)) => (move_cells s.h HV.out hlt).2.2.2.2.2
        have HLS := HL
        clear hv
        go_wp2
        refine wp_region_sched (fun w' => ∃ s : In (fun W => Reads W 6 (some ad) n (mcells l)), w' = s.W) [0,1,2,3,4,5,6,7,9,10,11,12,13] (.one 8 [] (.one 14 [15,16,17,18,19] (.one 20 [21,22] .done))) (by kernel_rfl) (by kernel_rfl) (fun d _ _ _ _ h => by cases d <;> exact h) ⟨⟨_, HLS.out _ hBv.drew⟩, rfl⟩ ?_
        simp only [opsAt, List.getElem?_toArray, List.getElem?_cons_succ, List.getElem?_cons_zero]
        repeat (go_big_quiet_step (fail))
        refine wpQuiet_nil ?_
        (refine eff_lit rfl rfl (fun K hK => ?_))
        go_big_op
        refine (app_any w.heap.size gc _ xc m _ (HRv.out.below (Below.refl _ _).drew) HGM.out).mono ?_
        rintro e v2 ⟨x2, rfl, hR2, hO2, hx2⟩
        have HR2 := Lib.hid hR2
        have HM2 := Lib.hid ((HMv.out.below (Below.refl _ _).drew).onlyF hO2 (fun i hi hf => HSPv.out i hf hi))
        have hB2 : Below w.heap.size w v2 := hBv.drew.trans (hO2.below (by simpa using hBv.size) (fun i hi => (HRv.out.foot i hi).1))
        have hvz2 : wv.heap.size ≤ v2.heap.size := by have := hO2.size; simpa using this
        have HX2 := Lib.hid hx2
        clear hR2 hO2 hx2
        refine hK _ _ ⟨⟨_, HLS.out _ hB2⟩, rfl⟩ ?_
        clear hK K
        simp only [opsAt, List.getElem?_toArray, List.getElem?_cons_succ, List.getElem?_cons_zero]
        refine wpQuiet_nil ?_
        (refine eff_lit rfl rfl (fun K hK => ?_))
        go_big_op
        refine (ladd_any g _ y m _ HM2.out HGM.out).mono ?_
        rintro e v3 ⟨y3, rfl, hM3, hO3, hy3⟩
        rw [← HS.out] at hM3
        have hR2' := HR2.out
        rw [← HS.out] at hR2'
        have HR2' := Lib.hid hR2'
        have HSP2 : Hid (∀ i, Foot gc x2 i → ¬ FootM g y i) := Lib.hid fun i hi hf => by
          rcases HX2.out i hi with h | h
          · exact HSPv.out i h hf
          · have h1 := HMv.out.foot i hf
            simp at h
            omega
        have HR3 := Lib.hid (hR2'.onlyF hO3 (fun i hi hf => HSP2.out i hi (.inl hf)))
        have HM3 := Lib.hid hM3
        have hB3 : Below w.heap.size w v3 := hB2.trans (hO3.below hB2.size (fun i hi => by rw [hi]; exact hgw))
        have HSP3 : Hid (∀ i, Foot gc x2 i → ¬ FootM g y3 i) := Lib.hid fun i hi hf => by
          rcases hy3 i hf with h | h
          · exact HSP2.out i hi h
          · have h1 := (HR2'.out.foot i hi).2
            omega
        have HF3 : Hid (∀ i, FootM g y3 i → w.heap.size ≤ i) := Lib.hid fun i hi => by
          rcases hy3 i hi with h | h
          · exact HF.out i h
          · have := hB2.size
            omega
        clear hR2' hM3 hO3
        refine hK _ _ ⟨⟨_, HLS.out _ hB3⟩, rfl⟩ ?_
        clear hK K
        simp only [opsAt, List.getElem?_toArray, List.getElem?_cons_succ, List.getElem?_cons_zero]
        repeat (go_big_quiet_step (fail))
        refine wpQuiet_nil ?_
        (refine eff_lit rfl rfl (fun K hK => ?_))
        go_big_op
        refine (alike_any w.heap.size gc g _ x2 y3 _ HR3.out HM3.out).mono ?_
        rintro e v4 ⟨rfl, hb4⟩
        have hB4 := below_call hB3 hb4 hB3.size
        refine hK _ _ ⟨⟨_, HLS.out _ hB4⟩, rfl⟩ ?_
        clear hK K
        simp only [opsAt, List.getElem?_toArray, List.getElem?_cons_succ, List.getElem?_cons_zero]
        repeat (go_big_quiet_step (fail))
        refine wpQuiet_nil ?_
        refine effs_done ?_
        clear c0 c1 c2 c3 c4 c5 hNE
        go_wp2
        go_roundw
        case rel => exact ⟨k + 1, gc, x2, y3, by omega, by go_num, rfl, HR3.out.below hb4, HM3.out.below hb4, HSP3, HF3, hB4⟩
        case measure => simp [intOf]; omega
      · have hka' : ((k : Int) = a) = False := eq_false (by omega)
        obtain ⟨ad, m, rfl, hab, hv, _⟩ := move_at (HL.out _ hB) hlt
        have HGM := Lib.hid (HG.out m (List.mem_of_getElem? hv))
        have HS := Lib.hid (madds_snoc (st0 key) hv)
        have hNE : Nonempty (In (fun W => Reads W 6 (some ad) n (mcells l))) := ⟨⟨_, HL.out _ hB⟩⟩
        have HV := Lib.hid hv
        have c0 := fun s : In (fun W => Reads W 6 (some ad) n (mcells l)) => (move_cells s.h HV.out hlt).1
        have c1 := fun s : In (fun W => Reads W 6 (some ad) n (mcells l)) => (move_cells s.h HV.out hlt).2.1
        have c2 := fun s : In (fun W => Reads W 6 (some ad) n (mcells l)) => (move_cells s.h HV.out hlt).2.2.1
        have c3 := fun s : In (fun W => Reads W 6 (some ad) n (mcells l)) => (move_cells s.h HV.out hlt).2.2.2.1
        have c4 := fun s : In (fun W => Reads W 6 (some ad) n (mcells l)) => (move_cells s.h HV.out hlt).2.2.2.2.1
        have c5 := fun s : In (fun W => Reads W 6 (some ad) n (mcells l)) => (move_cells s.h HV.out hlt).2.2.2.2.2
        have HLS := HL
        clear hv
        go_wp2
        refine wp_region_sched (fun w' => ∃ s : In (fun W => Reads W 6 (some ad) n (mcells l)), w' = s.W) [0,1,2,3,4,5,6,7,9,10,11,12,13] (.one 8 [] (.one 14 [15,16,17,18,19] (.one 20 [21,22] .done))) (by kernel_rfl) (by kernel_rfl) (fun d _ _ _ _ h => by cases d <;> exact h) ⟨⟨_, HLS.out _ hB.drew⟩, rfl⟩ ?_
        simp only [opsAt, List.getElem?_toArray, List.getElem?_cons_succ, List.getElem?_cons_zero]
        repeat (go_big_quiet_step (fail))
        refine wpQuiet_nil ?_
        (refine eff_lit rfl rfl (fun K hK => ?_))
        go_big_op
        refine (app_any w.heap.size p _ x m _ (HR.out.below (Below.refl _ _).drew) HGM.out).mono ?_
        rintro e v2 ⟨x2, rfl, hR2, hO2, hx2⟩
        have HR2 := Lib.hid hR2
        have HM2 := Lib.hid ((HM.out.below (Below.refl _ _).drew).onlyF hO2 (fun i hi hf => HSP.out i hf hi))
        have hB2 : Below w.heap.size w v2 := hB.drew.trans (hO2.below (by simpa using hB.size) (fun i hi => (HR.out.foot i hi).1))
        have hvz2 : wr.heap.size ≤ v2.heap.size := by have := hO2.size; simpa using this
        have HX2 := Lib.hid hx2
        clear hR2 hO2 hx2
        refine hK _ _ ⟨⟨_, HLS.out _ hB2⟩, rfl⟩ ?_
        clear hK K
        simp only [opsAt, List.getElem?_toArray, List.getElem?_cons_succ, List.getElem?_cons_zero]
        refine wpQuiet_nil ?_
        (refine eff_lit rfl rfl (fun K hK => ?_))
        go_big_op
        refine (ladd_any g _ y m _ HM2.out HGM.out).mono ?_
        rintro e v3 ⟨y3, rfl, hM3, hO3, hy3⟩
        rw [← HS.out] at hM3
        have hR2' := HR2.out
        rw [← HS.out] at hR2'
        have HR2' := Lib.hid hR2'
        have HSP2 : Hid (∀ i, Foot p x2 i → ¬ FootM g y i) := Lib.hid fun i hi hf => by
          rcases HX2.out i hi with h | h
          · exact HSP.out i h hf
          · have h1 := HM.out.foot i hf
            simp at h
            omega
        have HR3 := Lib.hid (hR2'.onlyF hO3 (fun i hi hf => HSP2.out i hi (.inl hf)))
        have HM3 := Lib.hid hM3
        have hB3 : Below w.heap.size w v3 := hB2.trans (hO3.below hB2.size (fun i hi => by rw [hi]; exact hgw))
        have HSP3 : Hid (∀ i, Foot p x2 i → ¬ FootM g y3 i) := Lib.hid fun i hi hf => by
          rcases hy3 i hf with h | h
          · exact HSP2.out i hi h
          · have h1 := (HR2'.out.foot i hi).2
            omega
        have HF3 : Hid (∀ i, FootM g y3 i → w.heap.size ≤ i) := Lib.hid fun i hi => by
          rcases hy3 i hi with h | h
          · exact HF.out i h
          · have := hB2.size
            omega
        clear hR2' hM3 hO3
        refine hK _ _ ⟨⟨_, HLS.out _ hB3⟩, rfl⟩ ?_
        clear hK K
        simp only [opsAt, List.getElem?_toArray, List.getElem?_cons_succ, List.getElem?_cons_zero]
        repeat (go_big_quiet_step (fail))
        refine wpQuiet_nil ?_
        (refine eff_lit rfl rfl (fun K hK => ?_))
        go_big_op
        refine (alike_any w.heap.size p g _ x2 y3 _ HR3.out HM3.out).mono ?_
        rintro e v4 ⟨rfl, hb4⟩
        have hB4 := below_call hB3 hb4 hB3.size
        refine hK _ _ ⟨⟨_, HLS.out _ hB4⟩, rfl⟩ ?_
        clear hK K
        simp only [opsAt, List.getElem?_toArray, List.getElem?_cons_succ, List.getElem?_cons_zero]
        repeat (go_big_quiet_step (fail))
        refine wpQuiet_nil ?_
        refine effs_done ?_
        clear c0 c1 c2 c3 c4 c5 hNE
        go_wp2
        go_roundw
        case rel => exact ⟨k + 1, p, x2, y3, by omega, by go_num, rfl, HR3.out.below hb4, HM3.out.below hb4, HSP3, HF3, hB4⟩
        case measure => simp [intOf]; omega
    · obtain rfl : k = n := by omega
      have HQ := Lib.hid (madds_key (l.take k) (st0 key))
      have hq : (st0 key).madds (l.take k) = (st0 key).madds (l.take k) := rfl
      generalize (st0 key).madds (l.take k) = q at *
      have hnm := HM.out.nm_eq
      have y1 := (HM.out.blk.at_ 1).trans rfl
      rw [hnm] at y1
      have HNM := Lib.hid hnm
      clear hnm hq HL HG HLL
      rcases Int.lt_or_le cut 0 with hc0 | hc0
      · go_wp2_with fail
        refine (cut_neg p cut _ hc0).mono ?_
        rintro e v2 ⟨rfl, rfl⟩
        go_wp2_with (go_at_call 7; refine (known_any _).mono ?_; rintro e w3 ⟨rfl, hb3⟩)
        go_ret
        exact ⟨rfl, below_call hB hb3 hz⟩
      · rcases Int.lt_or_le q.mv.length cut with hc1 | hc1
        · have hc0' : ¬ cut < 0 := by omega
          clear hc0
          go_wp2_with fail
          refine (cut_over w.heap.size p q x cut _ HR.out hc1).mono ?_
          rintro e v2 ⟨rfl, rfl⟩
          go_wp2_with (go_at_call 7; refine (known_any _).mono ?_; rintro e w3 ⟨rfl, hb3⟩)
          go_ret
          exact ⟨rfl, below_call hB hb3 hz⟩
        · obtain ⟨j0, rfl⟩ : ∃ j0 : Nat, cut = j0 := ⟨cut.toNat, by omega⟩
          have hc0' : decide ((j0 : Int) < 0) = false := decide_eq_false (by omega)
          have hc1' : decide ((q.mv.length : Int) < j0) = false := decide_eq_false (by omega)
          have hc2' : decide (q.mv.length < j0) = false := decide_eq_false (by omega)
          have hj0 : j0 ≤ q.mv.length := by omega
          have hcnt := HR.out.ok.cnt
          have hj4 : j0 ≤ 4096 := by omega
          clear hc0 hc1
          generalize wr = wz at *
          go_wp2_with fail
          refine (cut_ok w.heap.size p q x j0 _ HR.out hj0).mono ?_
          rintro e v2 ⟨g2, x2, rfl, hR2, hb2⟩
          rw [HQ.out, show (st0 key).key = key from rfl] at hR2
          have HR2 := Lib.hid hR2
          have hz2 := hb2.size
          have HMV := Lib.hid (HM.out.below hb2)
          have y1 := (HMV.out.blk.at_ 1).trans rfl
          rw [HNM.out] at y1
          have hB2 := below_call hB hb2 hz
          have hzg2 : g < v2.heap.size := by omega
          have hj0' : ∀ j : Nat, j < j0 → (j : Int) < q.mv.length := fun j h => by omega
          have HM3 : Hid (Md _ v2.heap.size ((st0 key).madds (q.mv.take 0)) _) := Lib.hid (md0 HK.out (Blk.mk_ v2 31 #[.int .u32 key, .slice none 0 0, .slice none 0 0, .slice none 0 0, .int .u32 key] v2.heap.size rfl))
          have HGQ : Hid (∀ m ∈ q.mv, GoodM m) := Lib.hid fun m hm => by
            have := HR.out.ok.kept m hm
            exact ⟨this.2.2, this.2.1⟩
          clear hR2
          go_wp2
          go_loopw [16] (fun i W => ∃ (j : Nat) (y' : MdC), j ≤ j0 ∧ i = .int .i64 j ∧ Md W v2.heap.size ((st0 key).madds (q.mv.take j)) y' ∧ Below v2.heap.size v2 W) (fun i _ => j0 - (intOf i).toNat)
          case atStart => exact ⟨0, _, Nat.zero_le _, rfl, HM3.out, by (focus (repeat' (first | (with_reducible exact Below.refl _ _) | (with_reducible assumption) | (with_reducible refine Below.alloc ?_ ?_ _) | (with_reducible refine below_drewN ?_ _) | (with_reducible refine Below.drew ?_) | (with_reducible refine Below.setCell ?_ ?_ _) | omega | (simp; done) | (simp; omega))))⟩
          case round =>
            obtain ⟨j, y', hj, rfl, hM', hBj⟩ := hrel
            have HMJ := Lib.hid hM'
            have hzj := hBj.size
            have hzv := hM'.blk.lt
            clear hM' HM3
            by_cases hlj : j < j0
            · have hlj' : (j : Int) < j0 := by omega
              have hlq := hj0' j hlj
              have hRm : Reads wr 6 y.M q.mv.length (mcells q.mv) := by have h := (HMV.out.below hBj).mv.1; rw [HNM.out] at h; exact h
              obtain ⟨ad, m, hA, hab, hv, c0, c1, c2, c3, c4, c5⟩ := move_at hRm (show j < q.mv.length by omega)
              have HGM := Lib.hid (HGQ.out m (List.mem_of_getElem? hv))
              have HS := Lib.hid (madds_snoc (st0 key) hv)
              have z1 := ((HMV.out.below hBj).blk.at_ 1).trans rfl
              rw [HNM.out, hA] at z1
              clear hv hA hRm y1
              go_wp2_with fail
              refine (ladd_any v2.heap.size _ y' m _ HMJ.out HGM.out).mono ?_
              rintro e w5 ⟨y5, rfl, hM5, hO5, _⟩
              rw [← HS.out] at hM5
              have HM5 := Lib.hid hM5
              have hB5 : Below v2.heap.size v2 w5 := hBj.trans (hO5.below hzj (fun i hi => by rw [hi]; exact Nat.le_refl _))
              clear c0 c1 c2 c3 c4 c5 hM5 hO5 z1
              go_wp2
              go_roundw
              case rel => exact ⟨j + 1, y5, by omega, by go_num, HM5.out, hB5⟩
              case measure => simp [intOf]; omega
            · obtain rfl : j = j0 := by omega
              have hBw : Below w.heap.size w wr := hB2.trans (hBj.mono (by omega))
              go_wp2_with fail
              refine (alike_any wz.heap.size g2 v2.heap.size _ x2 y' _ (HR2.out.below hBj) HMJ.out).mono ?_
              rintro e w6 ⟨rfl, hb6⟩
              have hB6 := hBj.trans (hb6.mono hzj)
              go_wp2_with fail
              refine (alike_any w.heap.size p g q x y _ ((HR.out.below hb2).below hB6) (HMV.out.below hB6)).mono ?_
              rintro e w7 ⟨rfl, hb7⟩
              go_wp2_with (go_at_call 7; refine (known_any _).mono ?_; rintro e w8 ⟨rfl, hb8⟩)
              go_ret
              exact ⟨rfl, below_call (below_call (below_call hBw hb6 hBw.size) hb7 (below_call hBw hb6 hBw.size).size) hb8 (below_call (below_call hBw hb6 hBw.size) hb7 (below_call hBw hb6 hBw.size).size).size⟩
end Go.Proofs.Ythckmcpngpigkaa
