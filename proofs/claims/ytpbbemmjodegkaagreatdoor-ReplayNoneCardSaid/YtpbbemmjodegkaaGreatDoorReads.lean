/-
  The law's reads: what Read hands back, against what is wanted.
-/
import Derived.Test.YtpbbemmjodegkaaGreatDoorReadR
import Derived.Test.YtpbbemmjodegkaaGreatDoorEqs
import Derived.Handy
set_option linter.unusedSimpArgs false
set_option linter.unusedVariables false
namespace Go.Proofs.YtpbbemmjodegkaaGreatDoor
open Go.RowKit

theorem readF_key : ∀ (f : Nat) (q : St) (xs : List Int), (readF f q xs).key = q.key := by
  intro f
  induction f with
  | zero => intro q xs; rfl
  | succ f ih =>
    intro q xs
    simp only [readF]
    split
    · split
      · rw [ih]; rfl
      · rfl
    · rfl
theorem readS_key (q : St) (xs : List Int) : (readS q xs).key = q.key := readF_key _ _ _

set_option maxRecDepth 100000 in
set_option maxHeartbeats 1600000 in
theorem reads_q (key : Int) (q : St) (A M : Option Addr) (n c mc : Nat) (xs : List Int) (w : World) (hk : 0 ≤ key ∧ key ≤ 4294967295) (hx : BReads w A n xs) (hc : n ≤ c) (hc2 : c ≤ 9223372036854775807) (hA : A = none → c = 0)
    (hM : Reads w 6 M q.mv.length (mcells q.mv)) (hq : readS (st0 key) xs = q) (hd : q.data = xs.take q.data.length) (hu : q.data.length ≤ n) :
    Calls Tryz.prog 24 #[.int .u32 key, .slice A n c, .slice M q.mv.length mc, .int .i64 q.data.length] w fun e w' => e = .returned (.bool true) ∧ Below w.heap.size w w' := by
  have HX : Hid (∀ W, Below w.heap.size w W → BReads W A n xs) := fun W hb => hx.below hb
  have HM : Hid (∀ W, Below w.heap.size w W → Reads W 6 M q.mv.length (mcells q.mv)) := fun W hb => hM.below hb
  have HA := Lib.hid hA
  have HK := Lib.hid hk
  have HD := Lib.hid hd
  have hkey : Hid (q.key = key) := Lib.hid (by rw [← hq, readS_key]; rfl)
  have HQ := Lib.hid hq
  have hu' : (q.data.length : Int) ≤ c := by omega
  clear hx hA hM hk hq hd
  go_enter Tryz.func24, Tryz.ntmps24
  go_wp2_with fail
  refine (readr_any key A n c xs _ HK.out (HX.out _ (Below.refl _ _)) hc hc2 HA.out).mono ?_
  rintro e w1 ⟨x, he, hR, hb1⟩
  rw [HQ.out] at he hR
  subst he
  have HR := Lib.hid hR
  have hcnt := hR.ok.cnt
  have hz1 := hb1.size
  have hzp := hR.blk.lt
  clear hR
  have v2 : ∀ s : Later w1.heap.size w1, (convert 36 9 (.slice A q.data.length c)).run Tryz.prog s.W = .ok (.string (strOfNums q.data)) s.W := fun s => by
    have h := (HX.out _ (hb1.trans (s.h.mono hz1))).head hu
    rw [← HD.out] at h
    exact convert_bytes (P := Tryz.prog) h c 36 5 Tryz.underlying36 Tryz.underlying5 9 Tryz.underlying9
  go_wp2
  refine wp_region_sched (fun w' => ∃ s : Later w1.heap.size w1, w' = s.W) [0,1,2,3,5] (.one 4 [6,7,8,9,11] (.one 10 [] (.one 12 [13,14,15,16,17,18,19,20,23,24,25,26] (.one 21 [] (.one 22 [27,28,29] .done))))) (by kernel_rfl) (by kernel_rfl) (fun d _ _ _ _ h => by cases d <;> exact h) ⟨⟨_, (Below.refl _ _).drew⟩, rfl⟩ ?_
  simp only [opsAt, List.getElem?_toArray, List.getElem?_cons_succ, List.getElem?_cons_zero]
  repeat (go_big_quiet_step (fail))
  refine wpQuiet_nil ?_
  (refine eff_lit rfl rfl (fun K hK => ?_))
  go_big_op
  refine (key_any w.heap.size w.heap.size q x _ (HR.out.below (Below.refl _ _).drew)).mono ?_
  rintro e w2 ⟨rfl, rfl⟩
  rw [hkey.out]
  refine hK _ _ ⟨⟨_, (Below.refl _ _).drew⟩, rfl⟩ ?_
  clear hK K
  simp only [opsAt, List.getElem?_toArray, List.getElem?_cons_succ, List.getElem?_cons_zero]
  repeat (go_big_quiet_step (fail))
  refine wpQuiet_nil ?_
  (refine eff_lit rfl rfl (fun K hK => ?_))
  go_big_op
  refine (moves_any w.heap.size w.heap.size q x _ (HR.out.below (Below.refl _ _).drew)).mono ?_
  rintro e w3 ⟨A3, c3, rfl, ho3, hb3⟩
  have hB3 : Below w1.heap.size w1 w3 := (Below.refl _ _).drew.trans hb3
  have HO3 := Lib.hid ho3
  clear ho3
  refine hK _ _ ⟨⟨_, hB3⟩, rfl⟩ ?_
  clear hK K
  simp only [opsAt, List.getElem?_toArray, List.getElem?_cons_succ, List.getElem?_cons_zero]
  refine wpQuiet_nil ?_
  (refine eff_lit rfl rfl (fun K hK => ?_))
  go_big_op
  refine (mequal_same A3 M q.mv.length c3 mc q.mv _ HO3.out.reads (HM.out _ (hb1.trans (hB3.mono hz1))) hcnt).mono ?_
  rintro e w4 ⟨rfl, hb4⟩
  have hB4 := below_call hB3 hb4 hB3.size
  refine hK _ _ ⟨⟨_, hB4⟩, rfl⟩ ?_
  clear hK K
  simp only [opsAt, List.getElem?_toArray, List.getElem?_cons_succ, List.getElem?_cons_zero]
  repeat (go_big_quiet_step (fail))
  refine wpQuiet_nil ?_
  (refine eff_lit rfl rfl (fun K hK => ?_))
  go_big_op
  refine (bytes_any w.heap.size w.heap.size q x _ (HR.out.below hB4)).mono ?_
  rintro e w5 ⟨A5, c5, rfl, ho5, hb5⟩
  have hB5 := below_call hB4 hb5 hB4.size
  have v5 := convert_bytes (P := Tryz.prog) ho5.reads c5 36 5 Tryz.underlying36 Tryz.underlying5 9 Tryz.underlying9
  clear ho5
  refine hK _ _ ⟨⟨_, hB5⟩, rfl⟩ ?_
  clear hK K
  simp only [opsAt, List.getElem?_toArray, List.getElem?_cons_succ, List.getElem?_cons_zero]
  refine wpQuiet_nil ?_
  (refine eff_lit rfl rfl (fun K hK => ?_))
  go_big_op
  refine hK _ _ ⟨⟨_, hB5⟩, rfl⟩ ?_
  clear hK K
  simp only [opsAt, List.getElem?_toArray, List.getElem?_cons_succ, List.getElem?_cons_zero]
  repeat (go_big_quiet_step (fail))
  refine wpQuiet_nil ?_
  refine effs_done ?_
  clear v2 v5
  go_wp2
  go_ret
  exact ⟨rfl, hb1.trans (hB5.mono hz1)⟩

/-- The moves of the chapter's examples. -/
def passV : MoveV := ⟨1, 1, 1, 0, 0, 5⟩
def concedeV : MoveV := ⟨0, 4, 0, 0, 0, 300⟩
theorem pass_any (w : World) : Calls Tryz.prog 22 #[] w fun e w' => e = .returned (.agg #[.int .i64 1, .int .i64 1, .int .i64 1, .int .i64 0, .int .i64 0, .int .u64 5]) ∧ Below w.heap.size w w' := by
  go_enter Tryz.func22, Tryz.ntmps22
  go_wp2
  go_returns
  exact ⟨rfl, by (focus (repeat' (first | (with_reducible exact Below.refl _ _) | (with_reducible assumption) | (with_reducible refine Below.alloc ?_ ?_ _) | (with_reducible refine below_drewN ?_ _) | (with_reducible refine Below.drew ?_) | (with_reducible refine Below.setCell ?_ ?_ _) | omega | (simp; done) | (simp; omega))))⟩
theorem concede_any (w : World) : Calls Tryz.prog 23 #[] w fun e w' => e = .returned (.agg #[.int .i64 0, .int .i64 4, .int .i64 0, .int .i64 0, .int .i64 0, .int .u64 300]) ∧ Below w.heap.size w w' := by
  go_enter Tryz.func23, Tryz.ntmps23
  go_wp2
  go_returns
  exact ⟨rfl, by (focus (repeat' (first | (with_reducible exact Below.refl _ _) | (with_reducible assumption) | (with_reducible refine Below.alloc ?_ ?_ _) | (with_reducible refine below_drewN ?_ _) | (with_reducible refine Below.drew ?_) | (with_reducible refine Below.setCell ?_ ?_ _) | omega | (simp; done) | (simp; omega))))⟩
end Go.Proofs.YtpbbemmjodegkaaGreatDoor
