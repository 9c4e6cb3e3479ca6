/-
  SortStableFunc of few; Order.
-/
import Derived.Test.YtngcmihaheiigaaOrdP
set_option linter.unusedSimpArgs false
set_option linter.unusedVariables false
namespace Go.Proofs.Ytngcmihaheiigaa
open Go.RowKit

set_option maxRecDepth 100000 in
set_option maxHeartbeats 1600000 in
theorem stable_any (B g n c bx gp : Nat) (pts : List Int) (w : World) (ho : XOwns w B 3 1 (some ⟨g, 0, none⟩) n c (ics (rangeI n))) (hbx : Box w bx gp n pts) (h1 : bx ≠ g) (h2 : gp ≠ g) (hn : 2 ≤ n ∧ n ≤ 14) :
    Calls Try.prog 46 #[.slice (some ⟨g, 0, none⟩) n c, .int .i64 n, .func (.func 34) #[] #[.pointer (some ⟨bx, 0, none⟩)]] w (SortEnd B g n c pts w) := by
  have HI := Lib.hid (isort_any B g n c bx gp pts w ho hbx h1 h2 hn)
  have h20 : ¬ (20 : Int) ≤ n := by omega
  have h21 : ¬ (20 : Int) < n := by omega
  have h22 : decide ((20 : Int) ≤ n) = false := decide_eq_false h20
  have h23 : decide ((20 : Int) < n) = false := decide_eq_false h21
  clear ho hbx
  go_enter Try.func46, Try.ntmps46
  go_wp2
  go_loopw [7, 8] (fun i j W => W = w ∧ i = .int .i64 0 ∧ j = .int .i64 20) (fun i j _ => 0)
  case atStart => exact ⟨rfl, rfl, rfl⟩
  case round =>
    obtain ⟨rfl, rfl, rfl⟩ := hrel
    go_wp2_with fail
    refine HI.out.mono ?_
    rintro e w2 ⟨rfl, ys, ho, hp, hs, hf⟩
    go_wp2
    go_loopw [6] (fun i W => W = w2 ∧ i = .int .i64 20) (fun i _ => 0)
    case atStart => exact ⟨rfl, rfl⟩
    case round =>
      obtain ⟨rfl, rfl⟩ := hrel
      go_wp2
      go_returns
      exact ⟨rfl, ys, ho, hp, hs, hf⟩
set_option maxHeartbeats 800000 in
theorem sortf_any (B g n c bx gp : Nat) (pts : List Int) (w : World) (ho : XOwns w B 3 1 (some ⟨g, 0, none⟩) n c (ics (rangeI n))) (hbx : Box w bx gp n pts) (h1 : bx ≠ g) (h2 : gp ≠ g) (hn : 2 ≤ n ∧ n ≤ 14) :
    Calls Try.prog 33 #[.slice (some ⟨g, 0, none⟩) n c, .func (.func 34) #[] #[.pointer (some ⟨bx, 0, none⟩)]] w (SortEnd B g n c pts w) := by
  have HI := Lib.hid (stable_any B g n c bx gp pts w ho hbx h1 h2 hn)
  clear ho hbx
  go_enter Try.func33, Try.ntmps33
  go_wp2_with fail
  refine HI.out.mono ?_
  rintro e w2 ⟨rfl, ys, ho, hp, hs, hf⟩
  go_wp2
  go_returns
  exact ⟨rfl, ys, ho, hp, hs, hf⟩

set_option maxRecDepth 100000 in
set_option maxHeartbeats 1600000 in
theorem order_any (B p : Nat) (st : TS) (x : TC) (w : World) (h : Tn w B p st x) : Calls Try.prog 20 #[.pointer (some ⟨p, 0, none⟩)] w fun e w' => ∃ g, e = .returned (.slice (some ⟨g, 0, none⟩) st.n st.n) ∧ XOwns w' w.heap.size 3 1 (some ⟨g, 0, none⟩) st.n st.n (ics st.ord) ∧ Below w.heap.size w w' := by
  have HT := Lib.hid h
  have hn := h.ok.n0
  have HPB := Lib.hid (pts_bd h.ok)
  clear h
  obtain ⟨hn1, hn2⟩ := hn
  go_enter Try.func20, Try.ntmps20
  go_wp2_with (first
    | (go_at_call 25; refine (none_f B p st x _ HT.out).mono ?_; rintro e w1 ⟨rfl, rfl⟩)
    | (go_at_call 13; refine (points_any B p st x _ HT.out).mono ?_; rintro e w1 ⟨gp, rfl, ho1, hb1⟩; have HO1 := Lib.hid ho1; have hz1 := hb1.size; clear ho1)
    | (at_make; refine make_x _ rfl (.tmp 11) (.tmp 11) 37 rfl (w1.heap.size + 1) 3 (.int .i64 0) 8 Try.info3 Try.underlying37 rfl .i64 .i64 _ _ st.n rfl rfl rfl rfl ?_ ?_ ?_ ?_; omega; omega; simp; intro w2 ho2 hb2; have HO2 := Lib.hid ho2; have hz2 : w1.heap.size + 1 ≤ w2.heap.size := by have := hb2.size; simpa using this)
    | fail)
  have hb1' : Below w1.heap.size w1 (w1.alloc (.cells #[.slice (some ⟨gp, 0, none⟩) st.n st.n] 37)) := (Below.refl _ _).alloc (Nat.le_refl _) _
  have HBX : Hid (Box (w1.alloc (.cells #[.slice (some ⟨gp, 0, none⟩) st.n st.n] 37)) w1.heap.size gp st.n (ptsS st.n st.rounds st.scores)) := Lib.hid ⟨Blk.mk_ _ _ _ _ rfl, HO1.out.reads.below hb1'⟩
  have HB2 := Lib.hid (HBX.out.below hb2)
  have hB2 : Below w.heap.size w w2 := hb1.trans (((hb1'.trans (hb2.mono (by simp)))).mono hz1)
  have hgp := (HO1.out.lt gp rfl).2
  have hg2 := (HO2.out.lt _ rfl).2
  simp only [World.size_alloc] at HO2 hg2 ⊢
  have HO3 : Hid (XOwns w2 (w1.heap.size + 1) 3 1 (some ⟨w1.heap.size + 1, 0, none⟩) st.n st.n (ics (List.replicate st.n 0))) := Lib.hid (by have h := HO2.out; simpa [ics] using h)
  clear HO2 hb2 HBX hb1'
  go_loopw [15] (fun i W => ∃ (k : Nat) (zs : List Int), k ≤ st.n ∧ i = .int .i64 k ∧ zs.length = st.n ∧ Hid (∀ j, j < k → ith zs j = j) ∧ XOwns W (w1.heap.size + 1) 3 1 (some ⟨w1.heap.size + 1, 0, none⟩) st.n st.n (ics zs) ∧ Below (w1.heap.size + 1) w2 W) (fun i _ => st.n - (intOf i).toNat)
  case atStart => exact ⟨0, _, Nat.zero_le _, rfl, by simp, Lib.hid (fun j h => absurd h (by omega)), HO3.out, Below.refl _ _⟩
  case round =>
    obtain ⟨k, zs, hk, rfl, hzl, HZ, hO, hB⟩ := hrel
    have HO := Lib.hid hO
    have hzw := hB.size
    clear hO HO3
    by_cases hlt : k < st.n
    · have hlt' : (k : Int) < st.n := by omega
      obtain ⟨o0, f0⟩ := HO.out.icell hlt
      go_wp2
      go_roundw
      case rel => exact ⟨k + 1, zs.set k k, by omega, by go_num, by simp [hzl], Lib.hid (fun j hj => by
        rw [ith_set (by omega)]
        split
        · rename_i h; rw [h]
        · exact HZ.out j (by omega)), HO.out.store k k, hB.setCell (p := ⟨w1.heap.size + 1, k, none⟩) (Nat.le_refl _) _⟩
      case measure => simp [intOf]; omega
    · obtain rfl : k = st.n := by omega
      have hzr : zs = rangeI st.n := ith_ext (by rw [hzl, rangeI_len]) (fun j hj => by
        rw [HZ.out j (by omega)]
        have := ith_get (xs := rangeI st.n) (k := j) (by rw [rangeI_len]; omega)
        simp [rangeI, List.getElem?_range (show j < st.n by omega)] at this
        exact this)
      subst hzr
      have HBY := Lib.hid (HB2.out.onlyF (F := fun i => w1.heap.size + 1 ≤ i) ⟨hB.os, hB.tape, hB.output, hB.size, fun i hi hn => hB.block i (by omega)⟩ (by omega) (by omega))
      have hzz := hB2.size
      go_wp2_with fail
      refine (sortf_any (w1.heap.size + 1) (w1.heap.size + 1) st.n st.n w1.heap.size gp _ _ HO.out HBY.out (by omega) (by omega) ⟨hn1, hn2⟩).mono ?_
      rintro e w4 ⟨rfl, ys, ho4, hp4, hs4, hf4⟩
      have hye : ys = st.ord := ord_eq HPB.out hp4 hs4
      subst hye
      go_wp2
      go_ret
      exact ⟨w1.heap.size + 1, rfl, ho4.more (by omega), (hB2.trans (hB.mono (by omega))).trans (hf4.below (by omega) (fun i hi => by rw [hi]; omega))⟩
end Go.Proofs.Ytngcmihaheiigaa
