/-
  Copy and Cut.
-/
import Derived.Test.YthckmcpngpigkaaFu
set_option linter.unusedSimpArgs false
set_option linter.unusedVariables false
namespace Go.Proofs.Ythckmcpngpigkaa
open Go.RowKit

theorem ints_one (l : List Int) : ∀ u ∈ l.map (Value.int .i64), u.oneCell' = true := by
  intro u hu
  obtain ⟨x, _, rfl⟩ := List.mem_map.1 hu
  rfl
set_option maxHeartbeats 400000 in
theorem iclone_any (A : Option Addr) (n c : Nat) (l : List Int) (w : World) (hx : Reads w 1 A n (l.map (Value.int .i64))) (hA : A = none → c = 0) (hn : n ≤ 1000000) :
    Calls Try.prog 37 #[.slice A n c] w fun e w' => ∃ A' c', e = .returned (.slice A' n c') ∧ XOwns w' w.heap.size 3 1 A' n c' (l.map (Value.int .i64)) ∧ Below w.heap.size w w' := by
  cases A with
  | none =>
    have hc := hA rfl
    subst hc
    have h0 : n = 0 := by
      rcases Nat.eq_zero_or_pos n with h0 | h0
      · exact h0
      · obtain ⟨ad, e, _⟩ := hx.2 h0
        cases e
    subst h0
    have hxe : l.map (Value.int .i64) = [] := List.eq_nil_of_length_eq_zero (by rw [hx.1])
    rw [hxe]
    clear hx hA hxe
    have heql := fun W a n c => Lib.run_eql_slice_nil (P := Try.prog) W 29 3 a n c 0 0 Try.underlying29
    go_enter Try.func37, Try.ntmps37
    go_wp2
    go_ret
    exact ⟨none, 0, rfl, ⟨World.ownsRow_nil _ _ _ _, fun _ => rfl⟩, Below.refl _ _⟩
  | some ad =>
    have heql := fun W a n c => Lib.run_eql_slice_nil (P := Try.prog) W 29 3 a n c 0 0 Try.underlying29
    have HX := Lib.hid hx
    clear hx hA
    obtain ⟨i0, hi, hz0, hz1, hz2⟩ := info_parts Try.info3
    have HI := Lib.hid hi
    have HZ0 := Lib.hid hz0
    have HZ1 := Lib.hid hz1
    have HZ2 := Lib.hid hz2
    clear hi hz0 hz1 hz2
    go_enter Try.func37, Try.ntmps37
    go_wp2_with (at_builtin; refine wpList_append_reads _ ?_ (.tmp 5) (.tmp 6) 29 ?_ w.heap.size 3 i0 _ 1 8 Try.underlying29 HI.out HZ0.out HZ1.out HZ2.out rfl (by decide) (.slice (some ⟨w.heap.size, 0, none⟩) 0 0) 0 [] ?_ (World.ownsRow_lit (base := w.heap.size) (e := 3) (size := 1) w #[] 0 (Nat.le_refl _) (by unfold maxLen; omega) (by simp)) (some ad) n c (l.map (Value.int .i64)) ?_ (fun h => by cases h) (HX.out.alloc _) (ints_one l) ?_ ?_ ?_ ?_; rfl; rfl; rfl; rfl; (unfold maxLen; omega); omega; (focus (first | omega | (simp only [World.size_alloc]; done) | (simp only [World.size_alloc]; omega) | (simp; done) | (simp; omega))); intro v2 w2 ho2 hg2 hiff)
    go_ret
    have hb : Below w.heap.size w w2 := Below.trans (by (focus (repeat' (first | (with_reducible exact Below.refl _ _) | (with_reducible assumption) | (with_reducible refine Below.alloc ?_ ?_ _) | (with_reducible refine below_drewN ?_ _) | (with_reducible refine Below.drew ?_) | (with_reducible refine Below.setCell ?_ ?_ _) | omega | (simp; done) | (simp; omega))))) ((Below.refl _ _).grown hg2 (by (focus (first | omega | (simp only [World.size_alloc]; done) | (simp only [World.size_alloc]; omega) | (simp; done) | (simp; omega)))) (fun k hk => by (have hkk : w.heap.size = k := by simpa [Value.ownBlock] using hk); omega))
    rw [Nat.zero_add, List.nil_append] at ho2
    rcases ho2.2 with ⟨h0, h00⟩ | ⟨g, cap, cur, h0, _⟩
    · exact ⟨none, 0, by (first | (rw [h00]; exact congrArg Ending.returned h0) | (subst h00; exact congrArg Ending.returned h0)), ⟨by rw [h0] at ho2; rw [h00] at ho2 ⊢; exact ho2, fun _ => rfl⟩, hb⟩
    · exact ⟨some ⟨g, 0, none⟩, cap, congrArg Ending.returned h0, ⟨by rw [h0] at ho2; exact ho2, fun h => by cases h⟩, hb⟩
theorem mcells_take (l : List MoveV) (k : Nat) : (mcells l).take (k * 6) = mcells (l.take k) := by
  induction l generalizing k with
  | nil => simp [mcells]
  | cons m l ih =>
    cases k with
    | zero => simp [mcells]
    | succ k =>
      have h6 : m.cells.length = 6 := rfl
      have := ih k
      simp only [mcells, List.flatMap_cons, List.take_succ_cons] at this ⊢
      rw [show (k + 1) * 6 = m.cells.length + k * 6 by rw [h6]; omega, List.take_length_add_append, this]
theorem Rp.more {w : World} {B B' p : Nat} {q : St} {x : RpC} (h : Rp w B p q x) (hb : B' ≤ B) : Rp w B' p q x := ⟨h.blk, by have := h.base; omega, h.data.more hb, h.ends.more hb, h.mv.more hb, h.ok⟩

set_option maxRecDepth 100000 in
set_option maxHeartbeats 1600000 in
theorem copy_any (B p : Nat) (q : St) (x : RpC) (w : World) (h : Rp w B p q x) : Calls Try.prog 18 #[.pointer (some ⟨p, 0, none⟩)] w fun e w' => ∃ g x', e = .returned (.pointer (some ⟨g, 0, none⟩)) ∧ Rp w' w.heap.size g q x' ∧ Below w.heap.size w w' := by
  have HR := Lib.hid h
  have HRL : Hid (∀ s : Later w.heap.size w, Rp s.W B p q x) := Lib.hid fun s => h.below s.h
  have hq := h.ok.cnt
  have hql := h.ok.len
  have hn := h.n_eq
  have hnm := h.nm_eq
  have hne := h.ne_eq
  have x0 : ∀ s : Later w.heap.size w, s.W.cell? ⟨p, 0, none⟩ = some (.int .u32 q.key) := fun s => ((HRL.out s).blk.at_ 0).trans rfl
  have x1 : ∀ s : Later w.heap.size w, s.W.cell? ⟨p, 1, none⟩ = some (.slice x.A x.n x.c) := fun s => ((HRL.out s).blk.at_ 1).trans rfl
  have x2 : ∀ s : Later w.heap.size w, s.W.cell? ⟨p, 2, none⟩ = some (.slice x.E x.ne x.ce) := fun s => ((HRL.out s).blk.at_ 2).trans rfl
  have x3 : ∀ s : Later w.heap.size w, s.W.cell? ⟨p, 3, none⟩ = some (.slice x.M x.nm x.cm) := fun s => ((HRL.out s).blk.at_ 3).trans rfl
  have b1 : x.n ≤ 1000000 := by omega
  have b2 : x.ne ≤ 1000000 := by omega
  have b3 : x.nm ≤ 1000000 := by omega
  clear h hq hql hn hnm hne
  go_enter Try.func18, Try.ntmps18
  go_wp2
  refine wp_region_sched (fun w' => ∃ s : Later w.heap.size w, w' = s.W) [0,1,2,3,4,5,6,7,9,10,11,12,14,15,16,17] (.one 8 [] (.one 13 [] (.one 18 [19] (.one 20 [21] .done)))) (by kernel_rfl) (by kernel_rfl) (fun d _ _ _ _ h => by cases d <;> exact h) ⟨⟨_, (Below.refl _ _).drew⟩, rfl⟩ ?_
  simp only [opsAt, List.getElem?_toArray, List.getElem?_cons_succ, List.getElem?_cons_zero]
  repeat (go_big_quiet_step (fail))
  refine wpQuiet_nil ?_
  (refine eff_lit rfl rfl (fun K hK => ?_))
  go_big_op
  refine (bclone_any _ _ _ q.data _ (HR.out.below (Below.refl _ _).drew).bown.reads HR.out.data.2 b1).mono ?_
  rintro e w1 ⟨A1, c1, rfl, ho1, hb1⟩
  have hB1 : Below w.heap.size w w1 := (Below.refl _ _).drew.trans hb1
  have hz1 := hB1.size
  have HO1 : Hid (BOwns w1 w.heap.size 5 A1 x.n c1 q.data) := Lib.hid ho1
  refine hK _ _ ⟨⟨_, hB1⟩, rfl⟩ ?_
  clear hK K ho1
  simp only [opsAt, List.getElem?_toArray, List.getElem?_cons_succ, List.getElem?_cons_zero]
  refine wpQuiet_nil ?_
  (refine eff_lit rfl rfl (fun K hK => ?_))
  go_big_op
  refine (iclone_any _ _ _ q.ends _ (HR.out.below hB1).ends.reads HR.out.ends.2 b2).mono ?_
  rintro e w2 ⟨A2, c2, rfl, ho2, hb2⟩
  have hB2 := below_call hB1 hb2 hz1
  have hz2 := hB2.size
  have HO2 := Lib.hid ho2
  have HO1 := Lib.hid (HO1.out.below hb2)
  refine hK _ _ ⟨⟨_, hB2⟩, rfl⟩ ?_
  clear hK K ho2
  simp only [opsAt, List.getElem?_toArray, List.getElem?_cons_succ, List.getElem?_cons_zero]
  refine wpQuiet_nil ?_
  (refine eff_lit rfl rfl (fun K hK => ?_))
  go_big_op
  refine (mclone_any _ _ _ q.mv _ (HR.out.below hB2).mv.reads HR.out.mv.2 b3).mono ?_
  rintro e w3 ⟨A3, c3, rfl, ho3, hb3⟩
  have hB3 := below_call hB2 hb3 hz2
  have hz3 := hB3.size
  have HO3 := Lib.hid ho3
  have HO2 := Lib.hid (HO2.out.below hb3)
  have HO1 := Lib.hid (HO1.out.below hb3)
  refine hK _ _ ⟨⟨_, hB3⟩, rfl⟩ ?_
  clear hK K ho3
  simp only [opsAt, List.getElem?_toArray, List.getElem?_cons_succ, List.getElem?_cons_zero]
  repeat (go_big_quiet_step (fail))
  refine wpQuiet_nil ?_
  (refine eff_lit rfl rfl (fun K hK => ?_))
  go_big_op
  have hB4 := (Below.refl w3.heap.size w3).alloc (Nat.le_refl _) (.cells #[.int .u32 q.key, .slice A1 x.n c1, .slice A2 x.ne c2, .slice A3 x.nm c3] 65)
  refine hK _ _ ⟨⟨_, hB3.trans (hB4.mono hz3)⟩, rfl⟩ ?_
  clear hK K x0 x1 x2 x3
  simp only [opsAt, List.getElem?_toArray, List.getElem?_cons_succ, List.getElem?_cons_zero]
  repeat (go_big_quiet_step (fail))
  refine wpQuiet_nil ?_
  refine effs_done ?_
  go_wp2
  go_ret
  exact ⟨w3.heap.size, ⟨A1, x.n, c1, A2, x.ne, c2, A3, x.nm, c3⟩, rfl, ⟨Blk.mk_ _ _ _ _ rfl, hz3, (HO1.out.below hB4).x, (HO2.out.below hB4).more hz1, (HO3.out.below hB4).more hz2, HR.out.ok⟩, hB3.trans (hB4.mono hz3)⟩

theorem cut_neg (p : Nat) (k : Int) (w : World) (hk : k < 0) : Calls Try.prog 19 #[.pointer (some ⟨p, 0, none⟩), .int .i64 k] w fun e w' => e = .returned (.tuple #[.pointer none, .int .i64 2]) ∧ w = w' := by
  go_enter Try.func19, Try.ntmps19
  go_wp2
  go_ret2
  exact ⟨rfl, rfl⟩
theorem cut_over (B p : Nat) (q : St) (x : RpC) (k : Int) (w : World) (h : Rp w B p q x) (hk : (q.mv.length : Int) < k) : Calls Try.prog 19 #[.pointer (some ⟨p, 0, none⟩), .int .i64 k] w fun e w' => e = .returned (.tuple #[.pointer none, .int .i64 3]) ∧ w = w' := by
  have x3 := (h.blk.at_ 3).trans rfl
  rw [h.nm_eq] at x3
  have hk' : ¬ k < 0 := by omega
  clear h
  go_enter Try.func19, Try.ntmps19
  go_wp2
  go_ret2
  exact ⟨rfl, rfl⟩

set_option maxRecDepth 100000 in
set_option maxHeartbeats 1600000 in
theorem cut_ok (B p : Nat) (q : St) (x : RpC) (k : Nat) (w : World) (h : Rp w B p q x) (hk : k ≤ q.mv.length) : Calls Try.prog 19 #[.pointer (some ⟨p, 0, none⟩), .int .i64 k] w fun e w' => ∃ g x', e = .returned (.tuple #[.pointer (some ⟨g, 0, none⟩), .int .i64 0]) ∧ Rp w' w.heap.size g ((st0 q.key).madds (q.mv.take k)) x' ∧ Below w.heap.size w w' := by
  have x0 := (h.blk.at_ 0).trans rfl
  have x3 := (h.blk.at_ 3).trans rfl
  rw [h.nm_eq] at x3
  have HR := Lib.hid h
  have hcap : (k : Int) ≤ x.cm := by
    have h1 := h.nm_eq
    rcases h.mv.1.2 with ⟨h0, h00⟩ | ⟨g, c, cur, h2, _, _, h4, _⟩
    · omega
    · injection h2 with _ _ h2
      omega
  have HMV : Hid (∀ W, Below w.heap.size w W → Reads W 6 x.M k (mcells (q.mv.take k))) := Lib.hid fun W hb => by
    have h1 := (h.below hb).mv.reads.head (k := k) (by rw [h.nm_eq]; exact hk)
    rw [show (mcells q.mv).take (k * 6) = mcells (q.mv.take k) from mcells_take _ _] at h1
    exact h1
  have HG : Hid (∀ m ∈ q.mv.take k, GoodM m) := Lib.hid fun m hm => by
    have := h.ok.kept m (List.mem_of_mem_take hm)
    exact ⟨this.2.2, this.2.1⟩
  have HL : Hid ((q.mv.take k).length = k) := Lib.hid (by rw [List.length_take]; omega)
  have HKEY := Lib.hid h.ok.key0
  have hk0 : ¬ (k : Int) < 0 := by omega
  have hk1 : ¬ (q.mv.length : Int) < k := by omega
  have hlt := h.blk.lt
  have hcnt := h.ok.cnt
  clear h
  generalize q.mv.take k = l at *
  go_enter Try.func19, Try.ntmps19
  go_wp2_with fail
  refine (new_any q.key _ HKEY.out).mono ?_
  rintro e w1 ⟨rfl, hR1, hb1⟩
  have y3 := (((HR.out.below hb1).blk.at_ 3).trans rfl : w1.cell? ⟨p, 3, none⟩ = some (.slice x.M x.nm x.cm))
  rw [HR.out.nm_eq] at y3
  have HR1 : Hid (Rp w1 w.heap.size w.heap.size ((st0 q.key).madds (l.take 0)) _) := Lib.hid hR1
  have hz1 := hb1.size
  clear hR1
  go_wp2
  go_loopw [35] (fun i W => ∃ (j : Nat) (x' : RpC), j ≤ k ∧ i = .int .i64 j ∧ Rp W w.heap.size w.heap.size ((st0 q.key).madds (l.take j)) x' ∧ Below w.heap.size w W) (fun i _ => k - (intOf i).toNat)
  case atStart => exact ⟨0, _, Nat.zero_le _, rfl, HR1.out, hb1⟩
  case round =>
    obtain ⟨j, x', hj, rfl, hR, hB⟩ := hrel
    have hz := hB.size
    have HRJ := Lib.hid hR
    have hzp := hR.blk.lt
    clear hR HR1
    by_cases hlj : j < k
    · obtain ⟨ad, m, hadd, hab, hv, c0, c1, c2, c3, c4, c5⟩ := move_at (HMV.out _ hB) hlj
      have hlj' : (j : Int) < k := by omega
      have HGM := Lib.hid (HG.out m (List.mem_of_getElem? hv))
      have HS := Lib.hid (madds_snoc (st0 q.key) hv)
      have hw : wrap64 ((j : Int) + 1) = (j : Int) + 1 := IntWalk.wrap64_in _ (by omega)
      rw [hadd]
      clear hv y3 x0 x3
      go_wp2_with fail
      refine (app_any w.heap.size w.heap.size _ x' m _ (HRJ.out.below (by (focus (repeat' (first | (with_reducible exact Below.refl _ _) | (with_reducible assumption) | (with_reducible refine Below.alloc ?_ ?_ _) | (with_reducible refine below_drewN ?_ _) | (with_reducible refine Below.drew ?_) | (with_reducible refine Below.setCell ?_ ?_ _) | omega | (simp; done) | (simp; omega)))))) HGM.out).mono ?_
      rintro e w2 ⟨x2, rfl, hR2, hO2, _⟩
      rw [← HS.out] at hR2
      have HR2 := Lib.hid hR2
      have hB2 : Below w.heap.size w w2 := (hB.trans (by (focus (repeat' (first | (with_reducible exact Below.refl _ _) | (with_reducible assumption) | (with_reducible refine Below.alloc ?_ ?_ _) | (with_reducible refine below_drewN ?_ _) | (with_reducible refine Below.drew ?_) | (with_reducible refine Below.setCell ?_ ?_ _) | omega | (simp; done) | (simp; omega)))))).trans (hO2.below (by (focus (first | omega | (simp only [World.size_alloc]; done) | (simp only [World.size_alloc]; omega) | (simp; done) | (simp; omega)))) (fun i hi => (HRJ.out.foot i hi).1))
      clear c0 c1 c2 c3 c4 c5 hR2 hO2
      go_wp2
      go_roundw
      case rel => exact ⟨j + 1, x2, by omega, by go_num, HR2.out, hB2⟩
      case measure => simp [intOf]; omega
    · obtain rfl : j = k := by omega
      go_wp2
      go_ret2
      exact ⟨_, x', rfl, by (have := HRJ.out; rw [List.take_of_length_le (by rw [HL.out]; exact Nat.le_refl _)] at this; exact this), hB⟩
end Go.Proofs.Ythckmcpngpigkaa
