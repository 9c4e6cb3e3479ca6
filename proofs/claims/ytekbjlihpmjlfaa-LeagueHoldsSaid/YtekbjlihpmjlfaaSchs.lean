/-
  schedules: the schedule's numbers, one after the other.
-/
import Derived.Test.YtekbjlihpmjlfaaEqs
import Derived.Test.YtekbjlihpmjlfaaSch
set_option linter.unusedSimpArgs false
set_option linter.unusedVariables false
namespace Go.Proofs.Ytekbjlihpmjlfaa
open Go.RowKit

def d0 : D := ⟨0, 0⟩
def dth (l : List D) (k : Nat) : D := l.getD k d0
theorem dth_get {xs : List D} {k : Nat} (h : k < xs.length) : xs[k]? = some (dth xs k) := by simp [dth, List.getD, List.getElem?_eq_getElem h]
theorem dlen {w : World} {A : Option Addr} {n : Nat} {l : List D} (h : Reads w 2 A n (dcells l)) : l.length = n := by have := h.1; rw [dcells_len] at this; omega
theorem duel_at {w : World} {A : Option Addr} {n : Nat} {l : List D} (h : Reads w 2 A n (dcells l)) {k : Nat} (hk : k < n) : ∃ ad, A = some ad ∧ ad.block < w.heap.size ∧
    w.cell? (ad.add (k * 2)) = some (.int .i64 (dth l k).a) ∧ w.cell? ⟨(ad.add (k * 2)).block, (ad.add (k * 2)).off + 1, none⟩ = some (.int .i64 (dth l k).b) := by
  have hr : RowR w 2 A n (l.map D.cells) := ⟨by simpa [dcells, List.flatMap] using h, fun r hr => by obtain ⟨m, _, rfl⟩ := List.mem_map.1 hr; rfl, by rw [List.length_map]; exact dlen h⟩
  obtain ⟨ad, r, e, hb, hr, _, hc⟩ := RowR.at_ hr hk
  rw [List.getElem?_map, dth_get (by have := dlen h; omega)] at hr
  simp only [Option.map_some, Option.some.injEq] at hr
  subst hr
  exact ⟨ad, e, hb, hc 0 _ rfl, part_at 0 (hc 1 _ rfl)⟩
theorem dtake_snoc {m : List D} {k : Nat} (hk : k < m.length) : m.take (k + 1) = m.take k ++ [dth m k] := by
  rw [List.take_succ_eq_append_getElem hk]
  have := dth_get hk
  rw [List.getElem?_eq_getElem hk] at this
  injection this with this
  rw [this]
/-- The numbers of all duels, one after the other. -/
def flatI (l : List D) : List Int := l.flatMap fun d => [d.a, d.b]
theorem flatI_len (l : List D) : (flatI l).length = 2 * l.length := by
  induction l with
  | nil => rfl
  | cons d l ih => simp only [flatI, List.flatMap_cons, List.length_append, List.length_cons] at ih ⊢; rw [ih]; simp; omega
theorem flatI_snoc {l : List D} {d : D} : flatI (l ++ [d]) = flatI l ++ [d.a, d.b] := by simp [flatI]
theorem SchM.inner {B gO M k : Nat} {G C : Nat → Nat} {n : Nat} {A : Option Addr} {q c : Nat} {cur : List D} {W : World} (h : SchM B gO M k G C n A q c cur W) {i : Nat} (hi : i < k) (hM : i < M) : W.cell? ⟨gO, i, none⟩ = some (.slice (some ⟨G i, 0, none⟩) (schS n i).length (C i)) ∧ gO < W.heap.size := by
  obtain ⟨g', hg, _, h2, hc, hf⟩ := h.O.cell (outD_in (G := G) (C := C) (n := n) (v := .slice A q c) hM hi)
  injection hg with hg
  injection hg with hg
  subst hg
  exact ⟨hc, h2⟩
/-- What is wanted of the schedule. -/
def WantS (n M : Nat) (Aw : Option Addr) (w : World) : Prop := ∀ W, Below w.heap.size w W → ∀ i, i < M → ∃ ad Ai ci, Aw = some ad ∧ W.cell? (ad.add i) = some (.slice Ai (2 * (schS n i).length) ci) ∧ Reads W 1 Ai (2 * (schS n i).length) (ics (flatI (schS n i)))
theorem sch_len {n r : Nat} (hn : 2 ≤ n ∧ n ≤ 40) (hr : r < evN n - 1) : (schS n r).length ≤ 40 := by
  unfold schS schN
  rw [List.length_map]
  refine Nat.le_trans (List.length_filterMap_le _ _) ?_
  rw [List.length_range]
  exact hn.2

set_option maxRecDepth 100000 in
set_option maxHeartbeats 1600000 in
theorem schedules_any (n M : Nat) (Aw : Option Addr) (cw : Nat) (w : World) (hn : 2 ≤ n ∧ n ≤ 40) (hM : evN n - 1 = M) (hw : WantS n M Aw w) :
    Calls Try.prog 20 #[.int .i64 n, .slice Aw M cw] w fun e w' => e = .returned (.bool true) ∧ Below w.heap.size w w' := by
  have HC : Hid (Calls Try.prog 18 #[.int .i64 n] w (SchEnd n M w)) := Lib.hid (by have := schedule_ok n w hn; rwa [hM] at this)
  have HW := Lib.hid hw
  have HLL : Hid (∀ r, r < M → (schS n r).length ≤ 40) := Lib.hid fun r hr => sch_len hn (by omega)
  have hMu : M ≤ 40 := by unfold evN at hM; omega
  clear hw hn hM
  go_enter Try.func20, Try.ntmps20
  go_wp2_with fail
  refine HC.out.mono ?_
  rintro e w1 ⟨gO, G, C, rfl, hs1, hb1⟩
  have HS1 := Lib.hid hs1
  have HB1 := Lib.hid hb1
  have hz1 := hb1.size
  clear hs1 hb1
  go_wp2
  go_loopw [7] (fun i W => ∃ r : Nat, r ≤ M ∧ i = .int .i64 r ∧ Below w1.heap.size w1 W) (fun i _ => M - (intOf i).toNat)
  case atStart => exact ⟨0, Nat.zero_le _, rfl, Below.refl _ _⟩
  case round =>
    obtain ⟨r, hr, rfl, hB⟩ := hrel
    by_cases hlt : r < M
    · have hlt' : (r : Int) < M := by omega
      have HIN : Hid (∀ W, Below w1.heap.size w1 W → W.cell? ⟨gO, r, none⟩ = some (.slice (some ⟨G r, 0, none⟩) (schS n r).length (C r))) := Lib.hid fun W hb => ((HS1.out.below hb).inner hlt hlt).1
      have HRW : Hid (∀ W, Below w1.heap.size w1 W → Reads W 2 (some ⟨G r, 0, none⟩) (schS n r).length (dcells (schS n r))) := Lib.hid fun W hb => ((HS1.out.below hb).I r hlt).reads
      have HWR : Hid (∀ W, Below w1.heap.size w1 W → ∃ ad Ai ci, Aw = some ad ∧ W.cell? (ad.add r) = some (.slice Ai (2 * (schS n r).length) ci) ∧ Reads W 1 Ai (2 * (schS n r).length) (ics (flatI (schS n r)))) := Lib.hid fun W hb => HW.out W (below_call HB1.out hb hz1) r hlt
      have hl40 := HLL.out r hlt
      have hgO : gO < w1.heap.size := (HS1.out.inner hlt hlt).2
      obtain ⟨ls, hls⟩ : ∃ ls, schS n r = ls := ⟨_, rfl⟩
      rw [hls] at HIN HRW HWR hl40
      clear hls
      generalize wr = wq at *
      go_wp2
      go_loopw [8, 9] (fun o j W => ∃ (k : Nat) (A : Option Addr) (c : Nat), k ≤ ls.length ∧ o = .slice A (2 * k) c ∧ j = .int .i64 k ∧ XOwns W w1.heap.size 3 1 A (2 * k) c (ics (flatI (ls.take k))) ∧ Below w1.heap.size w1 W) (fun _ j _ => ls.length - (intOf j).toNat)
      case atStart => exact ⟨0, none, 0, Nat.zero_le _, rfl, rfl, XOwns.nil_ _ _ _ _, hB⟩
      case round =>
        obtain ⟨k, A, c, hk, rfl, rfl, hO, hB2⟩ := hrel
        have HO := Lib.hid hO
        clear hO hB
        have x0 := HIN.out _ hB2
        have hzz := hB2.size
        by_cases hlt2 : k < ls.length
        · have hlt2' : (k : Int) < ls.length := by omega
          have y0 : ∀ s : Later w1.heap.size w1, s.W.cell? ⟨gO, r, none⟩ = some (.slice (some ⟨G r, 0, none⟩) ls.length (C r)) := fun s => HIN.out _ s.h
          have y1 : ∀ s : Later w1.heap.size w1, s.W.cell? ⟨G r, k * 2, none⟩ = some (.int .i64 (dth ls k).a) := fun s => by
            obtain ⟨ad, hA, _, c0, _⟩ := duel_at (HRW.out _ s.h) hlt2
            injection hA with hA
            subst hA
            rwa [ad_zero] at c0
          have y2 : ∀ s : Later w1.heap.size w1, s.W.cell? ⟨G r, k * 2 + 1, none⟩ = some (.int .i64 (dth ls k).b) := fun s => by
            obtain ⟨ad, hA, _, _, c1⟩ := duel_at (HRW.out _ s.h) hlt2
            injection hA with hA
            subst hA
            rwa [ad_zero] at c1
          have HTK := Lib.hid (dtake_snoc hlt2)
          generalize dth ls k = d at *
          obtain ⟨da, db⟩ := d
          simp only at y1 y2
          go_wp2
          refine wp_region_sched (fun w' => ∃ s : Later w1.heap.size w1, w' = s.W) [0,1,2,3,4,5,6,7,8,9,10,11,12,13,14,15,16] (.one 17 [] (.one 18 [19] .done)) (by kernel_rfl) (by kernel_rfl) (fun d _ _ _ _ h => by cases d <;> exact h) ⟨⟨_, hB2.drew⟩, rfl⟩ ?_
          simp only [opsAt, List.getElem?_toArray, List.getElem?_cons_succ, List.getElem?_cons_zero]
          repeat (go_big_quiet_step (fail))
          refine wpQuiet_nil ?_
          (refine eff_lit rfl rfl (fun K hK => ?_))
          go_big_op
          have hal : Below wr.heap.size wr (wr.alloc (.cells #[.int .i64 da, .int .i64 db] 3)).drew := ((Below.refl _ _).alloc (Nat.le_refl _) _).drew
          have hB3 := below_call hB2 hal hzz
          have HBL := Lib.hid (Blk.mk_ wr 3 #[.int .i64 da, .int .i64 db] _ rfl).drew
          refine hK _ _ ⟨⟨_, hB3⟩, rfl⟩ ?_
          clear hK K y0 y1 y2
          simp only [opsAt, List.getElem?_toArray, List.getElem?_cons_succ, List.getElem?_cons_zero]
          repeat (go_big_quiet_step (fail))
          refine wpQuiet_nil ?_
          (refine eff_lit rfl rfl (fun K hK => ?_))
          refine append_xr_op (w := (wr.alloc (.cells #[.int .i64 da, .int .i64 db] 3)).drew) (.tmp 39) (.tmp 56) 42 rfl w1.heap.size 3 (.int .i64 0) 1 8 Try.info3 Try.underlying42 rfl (by decide) A (2 * k) c (ics (flatI (ls.take k))) rfl (HO.out.below hal) (some ⟨wr.heap.size, 0, none⟩) 2 2 (ics [da, db]) rfl (fun h => by cases h) (reads_block HBL.out 1 2 rfl) (ics_one _) (by omega) (by omega) hB3.size ?_
          intro A6 c6 w6 ho6 hb6
          simp only [Act.put, List.setIfInBounds_toArray, List.set_cons_succ, List.set_cons_zero]
          refine hK _ _ ⟨⟨_, hB3.trans hb6⟩, rfl⟩ ?_
          clear hK K
          simp only [opsAt, List.getElem?_toArray, List.getElem?_cons_succ, List.getElem?_cons_zero]
          repeat (go_big_quiet_step (fail))
          refine wpQuiet_nil ?_
          refine effs_done ?_
          go_wp2
          go_roundw
          case rel => exact ⟨k + 1, A6, c6, hlt2, by rw [show 2 * (k + 1) = 2 * k + 2 by omega], by go_num, by rw [HTK.out, flatI_snoc, show 2 * (k + 1) = 2 * k + 2 by omega]; (have h := ho6; rw [show ics (flatI (ls.take k)) ++ ics [da, db] = ics (flatI (ls.take k) ++ [da, db]) by simp [ics]] at h; exact h), hB3.trans hb6⟩
          case measure => simp [intOf]; omega
        · obtain rfl : k = ls.length := by omega
          have HO2 : Hid (Reads wr 1 A (2 * ls.length) (ics (flatI ls))) := Lib.hid (by have h := HO.out.reads; rwa [List.take_length] at h)
          obtain ⟨ad, Ai, ci, rfl, cw1, hrw⟩ := HWR.out _ hB2
          have HRD := Lib.hid hrw
          clear hrw
          obtain ⟨L2, hL2⟩ : ∃ L2, 2 * ls.length = L2 := ⟨_, rfl⟩
          rw [hL2] at HO2 HRD cw1 ⊢
          have hl80 : L2 ≤ 80 := by omega
          clear hL2
          go_wp2_with (go_at_call 17; refine (ints_same (flatI ls) _ HO2.out HRD.out (by omega)).mono ?_; rintro e w8 ⟨rfl, hb8⟩)
          go_roundw
          case rel => exact ⟨r + 1, hlt, by go_num, below_call hB2 hb8 hzz⟩
          case measure => simp [intOf]; omega
    · obtain rfl : r = M := by omega
      go_wp2
      go_ret
      exact ⟨rfl, below_call HB1.out hB hz1⟩
end Go.Proofs.Ytekbjlihpmjlfaa
