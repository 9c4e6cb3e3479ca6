/-
  Texts: Kc.
-/
import Derived.Test.YtpbbemmjodegkaaDoorXk3
import Derived.Lib.SliceRun
set_option linter.unusedSimpArgs false
set_option linter.unusedVariables false
namespace Go.Proofs.YtpbbemmjodegkaaDoor
open Go.RowKit

theorem tinfoK : (Tryd.prog.info? 104).map (fun i => (i.zero, i.size, i.bytes)) = some (some (.int .i64 0), 1, 8) := by kernel_rfl
def OfEnd : Rule → World → Ending → World → Prop
  | .none, w, e, w' => e = .returned .nilIface ∧ Below w.heap.size w w'
  | .bare ts, w, e, w' => ∃ A c, e = .returned (.iface 146 (.slice A ts.length c)) ∧ Reads w' 1 A ts.length (ics ts) ∧ Below w.heap.size w w'
  | .cnt ts most, w, e, w' => ∃ A c, e = .returned (.iface 149 (.agg #[.slice A ts.length c, .int .i64 most])) ∧ Reads w' 1 A ts.length (ics ts) ∧ Below w.heap.size w w'
  | .pair ts least, w, e, w' => ∃ A c, e = .returned (.iface 151 (.agg #[.slice A ts.length c, .int .i64 least])) ∧ Reads w' 1 A ts.length (ics ts) ∧ Below w.heap.size w w'
  | .col ts most, w, e, w' => ∃ A c, e = .returned (.iface 153 (.agg #[.slice A ts.length c, .int .i64 most])) ∧ Reads w' 1 A ts.length (ics ts) ∧ Below w.heap.size w w'
theorem clip3 (g : Nat) (w : World) : Calls Tryd.prog 77 #[.slice (some ⟨g, 0, none⟩) 3 3] w fun e w' => e = .returned (.slice (some ⟨g, 0, none⟩) 3 3) ∧ w = w' := by
  go_enter Tryd.func77, Tryd.ntmps77
  go_wp2
  go_ret
  exact ⟨rfl, rfl⟩
structure W3 (w W : World) : Prop where
  b0 : Blk W w.heap.size 104 #[.int .i64 0]
  b1 : Blk W (w.heap.size + 1) 104 #[.int .i64 0, .int .i64 4]
  b2 : Blk W (w.heap.size + 2) 104 #[.int .i64 1, .int .i64 2, .int .i64 3]
  sz : W.heap.size = w.heap.size + 3
  bl : Below w.heap.size w W
theorem w3 (w : World) : W3 w (((w.alloc (.cells #[.int .i64 0] 104)).alloc (.cells #[.int .i64 0, .int .i64 4] 104)).alloc (.cells #[.int .i64 1, .int .i64 2, .int .i64 3] 104)) :=
  ⟨((Blk.mk_ w _ _ _ rfl).alloc _).alloc _, (Blk.mk_ (w.alloc _) _ _ (w.heap.size + 1) (by simp)).alloc _, Blk.mk_ ((w.alloc _).alloc _) _ _ (w.heap.size + 2) (by simp), by simp, (((Below.refl _ _).alloc (Nat.le_refl _) _).alloc (by simp) _).alloc (by simp; omega) _⟩
theorem XOwns.of_blk {W : World} {base e g n : Nat} {cs : Array Value} (h : Blk W g e cs) (hb : base ≤ g) (hn : cs.size = n) (hl : n ≤ 1000000) : XOwns W base e 1 (some ⟨g, 0, none⟩) n n cs.toList :=
  ⟨⟨by simp [hn], .inr ⟨g, n, cs, rfl, hb, h, by omega, by unfold maxLen; omega, by simp [hn], by rw [← hn]; exact List.take_of_length_le (by simp)⟩⟩, fun h => by cases h⟩
set_option maxHeartbeats 1600000 in
theorem of_1 (w : World) : Calls Tryd.prog 70 #[.int .i64 1] w (OfEnd (.cnt [1, 2, 3, 4, 5] 99) w) := by
  obtain ⟨W, hW⟩ : ∃ W, ((w.alloc (.cells #[.int .i64 0] 104)).alloc (.cells #[.int .i64 0, .int .i64 4] 104)).alloc (.cells #[.int .i64 1, .int .i64 2, .int .i64 3] 104) = W := ⟨_, rfl⟩
  have h3 : W3 w W := hW ▸ w3 w
  have H3 := Lib.hid h3
  have HCL := Lib.hid (clip3 (w.heap.size + 1 + 1))
  have HK := Lib.hid (Blk.mk_ W 104 #[.int .i64 4, .int .i64 5] W.heap.size rfl)
  have HBL : Hid (Below w.heap.size w (W.alloc (.cells #[.int .i64 4, .int .i64 5] 104))) := Lib.hid (h3.bl.alloc (by rw [h3.sz]; omega) _)
  have HOW : Hid (XOwns (W.alloc (.cells #[.int .i64 4, .int .i64 5] 104)) w.heap.size 104 1 (some ⟨w.heap.size + 1 + 1, 0, none⟩) 3 3 (ics [1, 2, 3])) := Lib.hid (XOwns.of_blk (h3.b2.alloc _) (by omega) rfl (by decide))
  have HSZ : Hid (w.heap.size ≤ (W.alloc (.cells #[.int .i64 4, .int .i64 5] 104)).heap.size) := Lib.hid HBL.out.size
  clear h3
  go_enter Tryd.func70, Tryd.ntmps70
  go_wp2_with (first
    | (go_at_call 77; refine (HCL.out _).mono ?_; rintro e w1 ⟨rfl, rfl⟩)
    | (at_builtin; (refine append_xr ?_ (.tmp 13) (.tmp 14) 146 ?_ w.heap.size 104 (.int .i64 0) 1 8 tinfoK Tryd.underlying146 rfl (by decide) (some ⟨w.heap.size + 1 + 1, 0, none⟩) 3 3 (ics [1, 2, 3]) ?_ HOW.out (some ⟨W.heap.size, 0, none⟩) 2 2 (ics [4, 5]) ?_ (fun h => by cases h) (reads_block HK.out 1 2 rfl) (ics_one _) ?_ ?_ HSZ.out ?_; rfl; rfl; rfl; rfl; omega; omega); intro A4 c4 w4 ho4 hb4)
    | fail)
  (first | go_ret | go_ret2)
  exact ⟨_, _, rfl, ho4.reads, HBL.out.trans hb4⟩
set_option maxHeartbeats 1600000 in
theorem of_2 (w : World) : Calls Tryd.prog 70 #[.int .i64 2] w (OfEnd (.cnt [0, 4] 7) w) := by
  have H3 := Lib.hid (w3 w)
  go_enter Tryd.func70, Tryd.ntmps70
  go_wp2
  (first | go_ret | go_ret2)
  exact ⟨_, _, rfl, reads_block H3.out.b1 1 2 rfl, H3.out.bl⟩
set_option maxHeartbeats 1600000 in
theorem of_3 (w : World) : Calls Tryd.prog 70 #[.int .i64 3] w (OfEnd (.cnt [0, 4] 99) w) := by
  have H3 := Lib.hid (w3 w)
  go_enter Tryd.func70, Tryd.ntmps70
  go_wp2
  (first | go_ret | go_ret2)
  exact ⟨_, _, rfl, reads_block H3.out.b1 1 2 rfl, H3.out.bl⟩
set_option maxHeartbeats 1600000 in
theorem of_4 (w : World) : Calls Tryd.prog 70 #[.int .i64 4] w (OfEnd (.cnt [0, 4] 99) w) := by
  have H3 := Lib.hid (w3 w)
  go_enter Tryd.func70, Tryd.ntmps70
  go_wp2
  (first | go_ret | go_ret2)
  exact ⟨_, _, rfl, reads_block H3.out.b1 1 2 rfl, H3.out.bl⟩
set_option maxHeartbeats 1600000 in
theorem of_5 (w : World) : Calls Tryd.prog 70 #[.int .i64 5] w (OfEnd (.bare [1, 2, 3]) w) := by
  have H3 := Lib.hid (w3 w)
  go_enter Tryd.func70, Tryd.ntmps70
  go_wp2
  (first | go_ret | go_ret2)
  exact ⟨_, _, rfl, reads_block H3.out.b2 1 3 rfl, H3.out.bl⟩
set_option maxHeartbeats 1600000 in
theorem of_6 (w : World) : Calls Tryd.prog 70 #[.int .i64 6] w (OfEnd (.bare [1, 2, 3]) w) := by
  have H3 := Lib.hid (w3 w)
  go_enter Tryd.func70, Tryd.ntmps70
  go_wp2
  (first | go_ret | go_ret2)
  exact ⟨_, _, rfl, reads_block H3.out.b2 1 3 rfl, H3.out.bl⟩
set_option maxHeartbeats 1600000 in
theorem of_7 (w : World) : Calls Tryd.prog 70 #[.int .i64 7] w (OfEnd (.bare [6]) w) := by
  obtain ⟨W, hW⟩ : ∃ W, ((w.alloc (.cells #[.int .i64 0] 104)).alloc (.cells #[.int .i64 0, .int .i64 4] 104)).alloc (.cells #[.int .i64 1, .int .i64 2, .int .i64 3] 104) = W := ⟨_, rfl⟩
  have H3 : Hid (W3 w W) := Lib.hid (hW ▸ w3 w)
  go_enter Tryd.func70, Tryd.ntmps70
  go_wp2
  (first | go_ret | go_ret2)
  exact ⟨_, _, rfl, reads_block (Blk.mk_ W 104 #[.int .i64 6] W.heap.size rfl) 1 1 rfl, H3.out.bl.alloc (by rw [H3.out.sz]; omega) _⟩
set_option maxHeartbeats 1600000 in
theorem of_8 (w : World) : Calls Tryd.prog 70 #[.int .i64 8] w (OfEnd (.pair [1, 2, 3, 0] 0) w) := by
  obtain ⟨W, hW⟩ : ∃ W, ((w.alloc (.cells #[.int .i64 0] 104)).alloc (.cells #[.int .i64 0, .int .i64 4] 104)).alloc (.cells #[.int .i64 1, .int .i64 2, .int .i64 3] 104) = W := ⟨_, rfl⟩
  have h3 : W3 w W := hW ▸ w3 w
  have H3 := Lib.hid h3
  have HCL := Lib.hid (clip3 (w.heap.size + 1 + 1))
  have HK := Lib.hid (Blk.mk_ W 104 #[.int .i64 0] W.heap.size rfl)
  have HBL : Hid (Below w.heap.size w (W.alloc (.cells #[.int .i64 0] 104))) := Lib.hid (h3.bl.alloc (by rw [h3.sz]; omega) _)
  have HOW : Hid (XOwns (W.alloc (.cells #[.int .i64 0] 104)) w.heap.size 104 1 (some ⟨w.heap.size + 1 + 1, 0, none⟩) 3 3 (ics [1, 2, 3])) := Lib.hid (XOwns.of_blk (h3.b2.alloc _) (by omega) rfl (by decide))
  have HSZ : Hid (w.heap.size ≤ (W.alloc (.cells #[.int .i64 0] 104)).heap.size) := Lib.hid HBL.out.size
  clear h3
  go_enter Tryd.func70, Tryd.ntmps70
  go_wp2_with (first
    | (go_at_call 77; refine (HCL.out _).mono ?_; rintro e w1 ⟨rfl, rfl⟩)
    | (at_builtin; (refine append_xr ?_ (.tmp 42) (.tmp 43) 146 ?_ w.heap.size 104 (.int .i64 0) 1 8 tinfoK Tryd.underlying146 rfl (by decide) (some ⟨w.heap.size + 1 + 1, 0, none⟩) 3 3 (ics [1, 2, 3]) ?_ HOW.out (some ⟨W.heap.size, 0, none⟩) 1 1 (ics [0]) ?_ (fun h => by cases h) (reads_block HK.out 1 1 rfl) (ics_one _) ?_ ?_ HSZ.out ?_; rfl; rfl; rfl; rfl; omega; omega); intro A4 c4 w4 ho4 hb4)
    | fail)
  (first | go_ret | go_ret2)
  exact ⟨_, _, rfl, ho4.reads, HBL.out.trans hb4⟩
set_option maxHeartbeats 1600000 in
theorem of_9 (w : World) : Calls Tryd.prog 70 #[.int .i64 9] w (OfEnd (.cnt [1, 2, 3, 0] 9) w) := by
  obtain ⟨W, hW⟩ : ∃ W, ((w.alloc (.cells #[.int .i64 0] 104)).alloc (.cells #[.int .i64 0, .int .i64 4] 104)).alloc (.cells #[.int .i64 1, .int .i64 2, .int .i64 3] 104) = W := ⟨_, rfl⟩
  have h3 : W3 w W := hW ▸ w3 w
  have H3 := Lib.hid h3
  have HCL := Lib.hid (clip3 (w.heap.size + 1 + 1))
  have HK := Lib.hid (Blk.mk_ W 104 #[.int .i64 0] W.heap.size rfl)
  have HBL : Hid (Below w.heap.size w (W.alloc (.cells #[.int .i64 0] 104))) := Lib.hid (h3.bl.alloc (by rw [h3.sz]; omega) _)
  have HOW : Hid (XOwns (W.alloc (.cells #[.int .i64 0] 104)) w.heap.size 104 1 (some ⟨w.heap.size + 1 + 1, 0, none⟩) 3 3 (ics [1, 2, 3])) := Lib.hid (XOwns.of_blk (h3.b2.alloc _) (by omega) rfl (by decide))
  have HSZ : Hid (w.heap.size ≤ (W.alloc (.cells #[.int .i64 0] 104)).heap.size) := Lib.hid HBL.out.size
  clear h3
  go_enter Tryd.func70, Tryd.ntmps70
  go_wp2_with (first
    | (go_at_call 77; refine (HCL.out _).mono ?_; rintro e w1 ⟨rfl, rfl⟩)
    | (at_builtin; (refine append_xr ?_ (.tmp 50) (.tmp 51) 146 ?_ w.heap.size 104 (.int .i64 0) 1 8 tinfoK Tryd.underlying146 rfl (by decide) (some ⟨w.heap.size + 1 + 1, 0, none⟩) 3 3 (ics [1, 2, 3]) ?_ HOW.out (some ⟨W.heap.size, 0, none⟩) 1 1 (ics [0]) ?_ (fun h => by cases h) (reads_block HK.out 1 1 rfl) (ics_one _) ?_ ?_ HSZ.out ?_; rfl; rfl; rfl; rfl; omega; omega); intro A4 c4 w4 ho4 hb4)
    | fail)
  (first | go_ret | go_ret2)
  exact ⟨_, _, rfl, ho4.reads, HBL.out.trans hb4⟩
set_option maxHeartbeats 1600000 in
theorem of_10 (w : World) : Calls Tryd.prog 70 #[.int .i64 10] w (OfEnd (.pair [0] 1) w) := by
  have H3 := Lib.hid (w3 w)
  go_enter Tryd.func70, Tryd.ntmps70
  go_wp2
  (first | go_ret | go_ret2)
  exact ⟨_, _, rfl, reads_block H3.out.b0 1 1 rfl, H3.out.bl⟩
set_option maxHeartbeats 1600000 in
theorem of_11 (w : World) : Calls Tryd.prog 70 #[.int .i64 11] w (OfEnd (.bare [1, 2, 3]) w) := by
  have H3 := Lib.hid (w3 w)
  go_enter Tryd.func70, Tryd.ntmps70
  go_wp2
  (first | go_ret | go_ret2)
  exact ⟨_, _, rfl, reads_block H3.out.b2 1 3 rfl, H3.out.bl⟩
set_option maxHeartbeats 1600000 in
theorem of_12 (w : World) : Calls Tryd.prog 70 #[.int .i64 12] w (OfEnd (.col [0] 9) w) := by
  have H3 := Lib.hid (w3 w)
  go_enter Tryd.func70, Tryd.ntmps70
  go_wp2
  (first | go_ret | go_ret2)
  exact ⟨_, _, rfl, reads_block H3.out.b0 1 1 rfl, H3.out.bl⟩
set_option maxHeartbeats 1600000 in
theorem of_no (c : Int) (w : World) (h : ∀ k ∈ [1, 2, 3, 4, 5, 6, 7, 8, 9, 10, 11, 12], c ≠ (k : Int)) : Calls Tryd.prog 70 #[.int .i64 c] w (OfEnd .none w) := by
  have h1 : (c == 1) = false := by rw [beq_eq_false_iff_ne]; exact h 1 (by decide)
  have h2 : (c == 2) = false := by rw [beq_eq_false_iff_ne]; exact h 2 (by decide)
  have h3 : (c == 3) = false := by rw [beq_eq_false_iff_ne]; exact h 3 (by decide)
  have h4 : (c == 4) = false := by rw [beq_eq_false_iff_ne]; exact h 4 (by decide)
  have h5 : (c == 5) = false := by rw [beq_eq_false_iff_ne]; exact h 5 (by decide)
  have h6 : (c == 6) = false := by rw [beq_eq_false_iff_ne]; exact h 6 (by decide)
  have h7 : (c == 7) = false := by rw [beq_eq_false_iff_ne]; exact h 7 (by decide)
  have h8 : (c == 8) = false := by rw [beq_eq_false_iff_ne]; exact h 8 (by decide)
  have h9 : (c == 9) = false := by rw [beq_eq_false_iff_ne]; exact h 9 (by decide)
  have h10 : (c == 10) = false := by rw [beq_eq_false_iff_ne]; exact h 10 (by decide)
  have h11 : (c == 11) = false := by rw [beq_eq_false_iff_ne]; exact h 11 (by decide)
  have h12 : (c == 12) = false := by rw [beq_eq_false_iff_ne]; exact h 12 (by decide)
  clear h
  have H3 := Lib.hid (w3 w)
  go_enter Tryd.func70, Tryd.ntmps70
  go_wp2
  (first | go_ret | go_ret2)
  exact ⟨rfl, H3.out.bl⟩
theorem of_any (c : Int) (w : World) : Calls Tryd.prog 70 #[.int .i64 c] w (OfEnd (ofS c) w) := by
  by_cases h : c ∈ ([1, 2, 3, 4, 5, 6, 7, 8, 9, 10, 11, 12] : List Int)
  · simp only [List.mem_cons, List.not_mem_nil, or_false] at h
    rcases h with rfl | rfl | rfl | rfl | rfl | rfl | rfl | rfl | rfl | rfl | rfl | rfl
    · exact of_1 w
    · exact of_2 w
    · exact of_3 w
    · exact of_4 w
    · exact of_5 w
    · exact of_6 w
    · exact of_7 w
    · exact of_8 w
    · exact of_9 w
    · exact of_10 w
    · exact of_11 w
    · exact of_12 w
  · have h2 : ofS c = .none := by
      simp only [List.mem_cons, List.not_mem_nil, or_false, not_or] at h
      unfold ofS
      simp [h]
    rw [h2]
    exact of_no c w (fun k hk e => h (e ▸ hk))
end Go.Proofs.YtpbbemmjodegkaaDoor
