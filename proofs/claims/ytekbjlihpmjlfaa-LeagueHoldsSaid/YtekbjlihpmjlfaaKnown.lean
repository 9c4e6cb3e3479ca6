/-
  known: the chapter's examples.
-/
import Derived.Test.YtekbjlihpmjlfaaSchs
import Derived.Test.YtekbjlihpmjlfaaTab
import Derived.Test.YtekbjlihpmjlfaaCrs
import Derived.Test.YtekbjlihpmjlfaaFrm
set_option linter.unusedSimpArgs false
set_option linter.unusedVariables false
namespace Go.Proofs.Ytekbjlihpmjlfaa
open Go.RowKit

theorem al_below {w : World} (o : Obj) : Below w.heap.size w (w.alloc o) := (Below.refl _ _).alloc (Nat.le_refl _) o
def someT : List Rw := [⟨0, 4, 0, 1, 1, 1⟩, ⟨1, 3, 3, 1, 0, 1⟩, ⟨2, 3, 0, 1, 0, 1⟩, ⟨3, 1, 0, 0, 1, 0⟩]
theorem Try.some_err : errS 4 someG = 0 := by decide +kernel
theorem Try.some_tab : tabS 4 someG = someT := by decide +kernel
theorem Try.some_c0 : rowC 4 someG 0 = [0, 3, 0, 1] := by decide +kernel
theorem Try.some_c2 : rowC 4 someG 2 = [3, 0, 0, 0] := by decide +kernel
theorem Try.some_f0 : lastS (frmS someG 0) 2 = [2, 3] := by decide +kernel
theorem Try.some_f3 : lastS (frmS someG 3) 5 = [3] := by decide +kernel
theorem Try.some_s4 : flatI (schS 4 0) = [3, 0, 2, 1] ∧ flatI (schS 4 1) = [0, 2, 1, 3] ∧ flatI (schS 4 2) = [1, 0, 3, 2] := by decide +kernel
theorem Try.some_s3 : flatI (schS 3 0) = [2, 1] ∧ flatI (schS 3 1) = [0, 2] ∧ flatI (schS 3 2) = [1, 0] := by decide +kernel
theorem Try.some_l4 : (schS 4 0).length = 2 ∧ (schS 4 1).length = 2 ∧ (schS 4 2).length = 2 := by decide +kernel
theorem Try.some_l3 : (schS 3 0).length = 1 ∧ (schS 3 1).length = 1 ∧ (schS 3 2).length = 1 := by decide +kernel

theorem want3 {w : World} {g0 g1 g2 g k n c : Nat} {t : TypeId} {x0 x1 x2 : List Int} (h : Blk w g t #[.slice (some ⟨g0, 0, none⟩) k c, .slice (some ⟨g1, 0, none⟩) k c, .slice (some ⟨g2, 0, none⟩) k c])
    (h0 : Reads w 1 (some ⟨g0, 0, none⟩) k (ics x0)) (h1 : Reads w 1 (some ⟨g1, 0, none⟩) k (ics x1)) (h2 : Reads w 1 (some ⟨g2, 0, none⟩) k (ics x2))
    (e0 : flatI (schS n 0) = x0 ∧ flatI (schS n 1) = x1 ∧ flatI (schS n 2) = x2) (el : 2 * (schS n 0).length = k ∧ 2 * (schS n 1).length = k ∧ 2 * (schS n 2).length = k) : WantS n 3 (some ⟨g, 0, none⟩) w := by
  intro W hb i hi
  have hg := h.below hb h.lt
  rcases (show i = 0 ∨ i = 1 ∨ i = 2 by omega) with rfl | rfl | rfl
  · exact ⟨_, _, c, rfl, by rw [el.1, ad_zero, hg.at_]; rfl, by rw [el.1, e0.1]; exact h0.below hb⟩
  · exact ⟨_, _, c, rfl, by rw [el.2.1, ad_zero, hg.at_]; rfl, by rw [el.2.1, e0.2.1]; exact h1.below hb⟩
  · exact ⟨_, _, c, rfl, by rw [el.2.2, ad_zero, hg.at_]; rfl, by rw [el.2.2, e0.2.2]; exact h2.below hb⟩

theorem known_sched (w : World) (n k : Nat) (x0 x1 x2 : List Int) (l0 : x0.length = k) (l1 : x1.length = k) (l2 : x2.length = k) (hn : 2 ≤ n ∧ n ≤ 40) (hM : evN n - 1 = 3)
    (e0 : flatI (schS n 0) = x0 ∧ flatI (schS n 1) = x1 ∧ flatI (schS n 2) = x2) (el : 2 * (schS n 0).length = k ∧ 2 * (schS n 1).length = k ∧ 2 * (schS n 2).length = k) :
    Calls Try.prog 20 #[.int .i64 n, .slice (some ⟨w.heap.size + 1 + 1 + 1, 0, none⟩) 3 3] ((((w.alloc (.cells (ics x0).toArray 3)).alloc (.cells (ics x1).toArray 3)).alloc (.cells (ics x2).toArray 3)).alloc (.cells #[.slice (some ⟨w.heap.size, 0, none⟩) k k, .slice (some ⟨w.heap.size + 1, 0, none⟩) k k, .slice (some ⟨w.heap.size + 1 + 1, 0, none⟩) k k] 42))
      fun e w' => e = .returned (.bool true) ∧ Below w.heap.size w w' := by
  have ha := ((((Below.refl w.heap.size w).alloc (Nat.le_refl _) (.cells (ics x0).toArray 3)).alloc (by simp) (.cells (ics x1).toArray 3)).alloc (by simp; omega) (.cells (ics x2).toArray 3)).alloc (by simp; omega) (.cells #[.slice (some ⟨w.heap.size, 0, none⟩) k k, .slice (some ⟨w.heap.size + 1, 0, none⟩) k k, .slice (some ⟨w.heap.size + 1 + 1, 0, none⟩) k k] 42)
  refine (schedules_any n 3 _ 3 _ hn hM ?_).mono ?_
  · refine want3 (k := k) (Blk.mk_ _ 42 _ _ (by simp)) (x0 := x0) (x1 := x1) (x2 := x2) ?_ ?_ ?_ e0 el
    · have := reads_block ((((Blk.mk_ w 3 (ics x0).toArray _ rfl).alloc (.cells (ics x1).toArray 3)).alloc (.cells (ics x2).toArray 3)).alloc (.cells #[.slice (some ⟨w.heap.size, 0, none⟩) k k, .slice (some ⟨w.heap.size + 1, 0, none⟩) k k, .slice (some ⟨w.heap.size + 1 + 1, 0, none⟩) k k] 42)) 1 k (by simp [ics, l0])
      simpa using this
    · have := reads_block (((Blk.mk_ (w.alloc (.cells (ics x0).toArray 3)) 3 (ics x1).toArray (w.heap.size + 1) (by simp)).alloc (.cells (ics x2).toArray 3)).alloc (.cells #[.slice (some ⟨w.heap.size, 0, none⟩) k k, .slice (some ⟨w.heap.size + 1, 0, none⟩) k k, .slice (some ⟨w.heap.size + 1 + 1, 0, none⟩) k k] 42)) 1 k (by simp [ics, l1])
      simpa using this
    · have := reads_block ((Blk.mk_ ((w.alloc (.cells (ics x0).toArray 3)).alloc (.cells (ics x1).toArray 3)) 3 (ics x2).toArray (w.heap.size + 1 + 1) (by simp)).alloc (.cells #[.slice (some ⟨w.heap.size, 0, none⟩) k k, .slice (some ⟨w.heap.size + 1, 0, none⟩) k k, .slice (some ⟨w.heap.size + 1 + 1, 0, none⟩) k k] 42)) 1 k (by simp [ics, l2])
      simpa using this
  · rintro e w' ⟨rfl, hb⟩
    exact ⟨rfl, below_call ha hb ha.size⟩
theorem Try.some_l4' : 2 * (schS 4 0).length = 4 ∧ 2 * (schS 4 1).length = 4 ∧ 2 * (schS 4 2).length = 4 := by decide +kernel
theorem Try.some_l3' : 2 * (schS 3 0).length = 2 ∧ 2 * (schS 3 1).length = 2 ∧ 2 * (schS 3 2).length = 2 := by decide +kernel
theorem known_form (A B : Option Addr) {w : World} {len c k c' : Nat} (p m : Int) (xs : List Int) (hr : Reads w 3 A len (gcells someG)) (hp : 0 ≤ p ∧ p < 4) (hm : 0 ≤ m ∧ m ≤ 9223372036854775807) (e : lastS (frmS someG p) m = xs) (hw : Reads w 1 B k (ics xs)) :
    Calls Try.prog 15 #[.int .i64 4, .slice A len c, .int .i64 p, .int .i64 m, .slice B k c', .int .i64 0] w fun e w' => e = .returned (.bool true) ∧ Below w.heap.size w w' := by
  have hk := ilen hw
  subst e
  have h := forms_ok 4 A len c someG p m B c' w hr Try.some_err (by omega) hm (by rwa [hk])
  rwa [hk] at h
set_option maxRecDepth 100000 in
set_option maxHeartbeats 1600000 in
theorem known_any (w : World) : Calls Try.prog 8 #[] w fun e w' => e = .returned (.bool true) ∧ Below w.heap.size w w' := by
  go_enter Try.func8, Try.ntmps8
  go_wp2_with fail
  refine (some_any _).mono ?_
  rintro e w1 ⟨rfl, hr, hB1⟩
  have hz1 := hB1.size
  go_wp2_with fail
  refine (table_ok 4 _ _ _ someG _ hr Try.some_err).mono ?_
  rintro e w2 ⟨g2, rfl, ho, hb⟩
  rw [Try.some_tab] at ho
  have hB2 := hB1.trans (hb.mono hz1)
  have hz2 := hB2.size
  have HO := Lib.hid ho
  clear hr ho hb hB1 hz1
  go_wp2_with fail
  refine (rows_same someT _ (HO.out.below (al_below _)).reads (reads_block (Blk.mk_ w2 33 (rcells someT).toArray _ rfl) 6 4 rfl) (by decide)).mono ?_
  rintro e w3 ⟨rfl, hb⟩
  have hb2 := below_call (al_below _) hb (al_below _).size
  have hB3 := hB2.trans (hb2.mono hz2)
  have hz3 := hB3.size
  clear HO hb hb2 hB2 hz2
  go_wp2_with fail
  refine (some_any _).mono ?_
  rintro e w4 ⟨rfl, hr, hb⟩
  have hB4 := hB3.trans (hb.mono hz3)
  have hz4 := hB4.size
  clear hb hB3 hz3
  go_wp2_with fail
  refine (cross_ok 4 _ _ _ someG _ hr Try.some_err).mono ?_
  rintro e w5 ⟨gO, G, rfl, hc, hb⟩
  have hB5 := hB4.trans (hb.mono hz4)
  have hz5 := hB5.size
  have x0 := hc.ocell (i := 0) (by decide) (by decide)
  have x2 := hc.ocell (i := 2) (by decide) (by decide)
  have HC := Lib.hid hc
  have HI0 : Hid (Reads w5 1 (some ⟨G 0, 0, none⟩) 4 (ics [0, 3, 0, 1])) := Lib.hid (by have h := (hc.I 0 (by decide)).reads; rwa [Int.natCast_zero, Try.some_c0] at h)
  have HI2 : Hid (Reads w5 1 (some ⟨G 2, 0, none⟩) 4 (ics [3, 0, 0, 0])) := Lib.hid (by have h := (hc.I 2 (by decide)).reads; rwa [show ((2 : Nat) : Int) = 2 from rfl, Try.some_c2] at h)
  clear hr hc hb hB4 hz4
  go_wp2_with fail
  refine (ints_same [0, 3, 0, 1] _ (HI0.out.below (al_below _)) (reads_block (Blk.mk_ w5 3 (ics [0, 3, 0, 1]).toArray _ rfl) 1 4 rfl) (by decide)).mono ?_
  rintro e w6 ⟨rfl, hb⟩
  have hb2 := below_call (al_below _) hb (al_below _).size
  have y2 := ((HC.out.below hb2).ocell (i := 2) (by decide) (by decide))
  have hB6 := hB5.trans (hb2.mono hz5)
  have hz6 := hB6.size
  have HI2' := Lib.hid (HI2.out.below hb2)
  clear HC HI0 HI2 x0 x2 hb hb2 hB5 hz5
  go_wp2_with fail
  refine (ints_same [3, 0, 0, 0] _ (HI2'.out.below (al_below _)) (reads_block (Blk.mk_ w6 3 (ics [3, 0, 0, 0]).toArray _ rfl) 1 4 rfl) (by decide)).mono ?_
  rintro e w7 ⟨rfl, hb⟩
  have hb2 := below_call (al_below _) hb (al_below _).size
  have hB7 := hB6.trans (hb2.mono hz6)
  have hz7 := hB7.size
  clear HI2' y2 hb hb2 hB6 hz6
  go_wp2_with fail
  refine (some_any _).mono ?_
  rintro e w8 ⟨rfl, hr, hb⟩
  have hB8 := hB7.trans (hb.mono hz7)
  have hz8 := hB8.size
  clear hb hB7 hz7
  go_wp2_with fail
  refine (known_form _ _ 0 2 [2, 3] (hr.below (al_below _)) (by decide) (by decide) Try.some_f0 (reads_block (Blk.mk_ w8 28 (ics [2, 3]).toArray _ rfl) 1 2 rfl)).mono ?_
  rintro e w9 ⟨rfl, hb⟩
  have hB9 := hB8.trans ((below_call (al_below _) hb (al_below _).size).mono hz8)
  have hz9 := hB9.size
  clear hr hb hB8 hz8
  go_wp2_with fail
  refine (some_any _).mono ?_
  rintro e w10 ⟨rfl, hr, hb⟩
  have hB10 := hB9.trans (hb.mono hz9)
  have hz10 := hB10.size
  clear hb hB9 hz9
  go_wp2_with fail
  refine (known_form _ _ 3 5 [3] (hr.below (al_below _)) (by decide) (by decide) Try.some_f3 (reads_block (Blk.mk_ w10 28 (ics [3]).toArray _ rfl) 1 1 rfl)).mono ?_
  rintro e w11 ⟨rfl, hb⟩
  have hB11 := hB10.trans ((below_call (al_below _) hb (al_below _).size).mono hz10)
  have hz11 := hB11.size
  clear hr hb hB10 hz10
  go_wp2_with fail
  refine (schedule_bad 1 _ (.inl (by decide))).mono ?_
  rintro e w12 ⟨rfl, rfl⟩
  go_wp2_with fail
  refine (known_sched w11 4 4 [3, 0, 2, 1] [0, 2, 1, 3] [1, 0, 3, 2] rfl rfl rfl (by decide) (by decide) Try.some_s4 Try.some_l4').mono ?_
  rintro e w13 ⟨rfl, hb⟩
  have hB13 := hB11.trans (hb.mono hz11)
  have hz13 := hB13.size
  clear hb hB11 hz11
  go_wp2_with fail
  refine (known_sched w13 3 2 [2, 1] [0, 2] [1, 0] rfl rfl rfl (by decide) (by decide) Try.some_s3 Try.some_l3').mono ?_
  rintro e w14 ⟨rfl, hb⟩
  have hB14 := hB13.trans (hb.mono hz13)
  clear hb hB13 hz13
  go_wp2
  go_ret
  exact ⟨rfl, hB14⟩
end Go.Proofs.Ytekbjlihpmjlfaa
