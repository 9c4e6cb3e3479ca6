/-
  Write of frame: the bytes of a frame, or the error.
-/
import Derived.Test.YtbcleifhadkecaaRWrite
import Derived.Test.YtbcleifhadkecaaLaw
namespace Go.Proofs.Ytbcleifhadkecaa
open Go.RowKit

set_option maxHeartbeats 400000 in
theorem write_no (k s m : Int) (A : Option Addr) (n cap : Nat) (w : World) (h : validB k s m n = false) :
    Calls Try.prog 12 #[.agg #[.int .i64 k, .int .u16 s, .int .u32 m, .slice A n cap]] w fun e w' => e = .returned (.tuple #[.slice none 0 0, .int .i64 2]) ∧ Below w.heap.size w w' := by
  go_enter Try.func12, Try.ntmps12
  go_wp2_with (go_at_call 21; refine (valid_any _ _ _ _ _ _ _).mono ?_; rintro e w' ⟨rfl, hb⟩)
  have hB := below_call (B := w.heap.size) (a := w) (by go_grown) hb (by simp)
  go_ret2
  exact ⟨rfl, hB⟩

set_option maxHeartbeats 800000 in
theorem write_plain (k s m : Int) (A : Option Addr) (n cap : Nat) (xs : List Int) (w : World) (hx : BReads w A n xs) (hA : A = none → cap = 0) (hn : n ≤ 1000000) (_bs : 0 ≤ s ∧ s ≤ 65535) (_bm : 0 ≤ m ∧ m ≤ 4294967295) (h0 : validB k s m n = true) (h1 : seqB k = false) (h2 : numB k = false) :
    Calls Try.prog 12 #[.agg #[.int .i64 k, .int .u16 s, .int .u32 m, .slice A n cap]] w fun e w' => ∃ A' n' c', e = .returned (.tuple #[.slice A' n' c', .int .i64 0]) ∧ BOwns w' w.heap.size 5 A' n' c' (wr k s m xs) ∧ Below w.heap.size w w' := by
  have HA := Lib.hid hA
  have HW := Lib.hid (wr_plain k s m xs h1 h2)
  have HX : Hid (∀ W, Below w.heap.size w W → BReads W A n xs) := fun W h => hx.below h
  clear hA hx
  go_enter Try.func12, Try.ntmps12
  go_wp2_with (first
    | (go_at_call 21; refine (valid_any _ _ _ _ _ _ _).mono ?_; rintro e w1 ⟨rfl, hb1⟩; have hB1 := below_call (B := w.heap.size) (a := w) (by go_grown) hb1 (by simp); have hz1 : w.heap.size < w1.heap.size := (by have := hb1.size; simp at this; omega); have hk1 := keep_at hb1 w.heap.size (by simp))
    | (go_at_call 27; refine (of_any _ _).mono ?_; rintro e w2 ⟨rfl, hb2⟩; have hB2 := below_call hB1 hb2 (by omega); have hz2 : w.heap.size < w2.heap.size := (by have := hb2.size; omega); have hk2 := keep_at hb2 w.heap.size hz1)
    | (at_make; refine make_bytes _ rfl _ _ 25 rfl (w2.heap.size + 1) 5 Try.info5 Try.underlying25 _ _ _ (n + 6) rfl rfl ?_ ?_ ?_ ?_; (omega); (omega); (simp only [World.size_alloc]; omega); intro w3 ho3 hb3; have hB3 := below_call (hB2.alloc (by omega) _) hb3 (by simp only [World.size_alloc]; omega); have hz3 := hb3.size; have hk3 := keep_far hb3 w.heap.size hz2 (by simp only [World.size_alloc]; omega); have hs3 := keep_at hb3 w2.heap.size (by simp only [World.size_alloc]; omega); simp only [World.size_alloc] at hz3 ho3; have hz3' : w.heap.size < w3.heap.size := (by omega))
    | (at_builtin; refine append_bytes _ rfl (.tmp 21) (.tmp 25) 25 rfl (w2.heap.size + 1) 5 Try.info5 Try.underlying25 _ 0 _ [] rfl (ho3.alloc _) _ 1 1 [k % 256] rfl (fun h => by cases h) (BReads.lit _ _ [k % 256] _ _ (isBytes_cons (bytes_mod k) isBytes_nil) rfl rfl) ?_ ?_ ?_; omega; (simp only [World.size_alloc]; omega); intro A4 c4 w4 ho4 hb4; have hB4 := (hB3.alloc (by omega) _).trans (hb4.mono (by omega)); have hz4 := hb4.size; have hk4 := keep_far hb4 w.heap.size hz3' (by omega); have hs4 := keep_far hb4 w2.heap.size hz3 (by omega); simp only [World.size_alloc] at hz4; have hz4' : w.heap.size < w4.heap.size := (by omega); have hz4'' : w2.heap.size < w4.heap.size := (by omega))
    | (at_builtin; refine append_bytes _ rfl (.tmp 59) (.tmp 61) 25 rfl (w2.heap.size + 1) 5 Try.info5 Try.underlying25 _ _ _ _ rfl ho4 A n cap xs rfl HA.out (HX.out _ hB4) ?_ ?_ ?_; omega; omega; intro A6 c6 w6 ho6 hb6; have hB6 := hB4.trans (hb6.mono (by omega)); have hz6 := hb6.size)
    | (go_at_call 28; refine (check_any _ _ _ _ _ ho6.reads ?_).mono ?_; omega; rintro e w' ⟨rfl, rfl⟩)
    | (at_builtin; refine append_bytes _ rfl (.tmp 63) (.tmp 66) 25 rfl (w2.heap.size + 1) 5 Try.info5 Try.underlying25 _ _ _ _ rfl (ho6.alloc _) _ 1 1 [chk ([] ++ [k % 256] ++ xs)] rfl (fun h => by cases h) (BReads.lit _ _ [chk ([] ++ [k % 256] ++ xs)] _ _ (isBytes_cons (chk_bd _) isBytes_nil) rfl rfl) ?_ ?_ ?_; omega; (simp only [World.size_alloc]; omega); intro A7 c7 w7 ho7 hb7))
  go_ret2
  refine ⟨_, _, _, rfl, ?_, (hB6.alloc (by omega) _).trans (hb7.mono (by omega))⟩
  rw [HW.out]
  exact ho7.more (by omega)

set_option maxHeartbeats 800000 in
theorem write_seq (k s m : Int) (A : Option Addr) (n cap : Nat) (xs : List Int) (w : World) (hx : BReads w A n xs) (hA : A = none → cap = 0) (hn : n ≤ 1000000) (bs : 0 ≤ s ∧ s ≤ 65535) (_bm : 0 ≤ m ∧ m ≤ 4294967295) (h0 : validB k s m n = true) (h1 : seqB k = true) (h2 : numB k = false) :
    Calls Try.prog 12 #[.agg #[.int .i64 k, .int .u16 s, .int .u32 m, .slice A n cap]] w fun e w' => ∃ A' n' c', e = .returned (.tuple #[.slice A' n' c', .int .i64 0]) ∧ BOwns w' w.heap.size 5 A' n' c' (wr k s m xs) ∧ Below w.heap.size w w' := by
  have HA := Lib.hid hA
  have HW := Lib.hid (wr_seq k s m xs h1 h2)
  have HX : Hid (∀ W, Below w.heap.size w W → BReads W A n xs) := fun W h => hx.below h
  clear hA hx
  go_enter Try.func12, Try.ntmps12
  go_wp2_with (first
    | (go_at_call 21; refine (valid_any _ _ _ _ _ _ _).mono ?_; rintro e w1 ⟨rfl, hb1⟩; have hB1 := below_call (B := w.heap.size) (a := w) (by go_grown) hb1 (by simp); have hz1 : w.heap.size < w1.heap.size := (by have := hb1.size; simp at this; omega); have hk1 := keep_at hb1 w.heap.size (by simp))
    | (go_at_call 27; refine (of_any _ _).mono ?_; rintro e w2 ⟨rfl, hb2⟩; have hB2 := below_call hB1 hb2 (by omega); have hz2 : w.heap.size < w2.heap.size := (by have := hb2.size; omega); have hk2 := keep_at hb2 w.heap.size hz1)
    | (at_make; refine make_bytes _ rfl _ _ 25 rfl (w2.heap.size + 1) 5 Try.info5 Try.underlying25 _ _ _ (n + 6) rfl rfl ?_ ?_ ?_ ?_; (omega); (omega); (simp only [World.size_alloc]; omega); intro w3 ho3 hb3; have hB3 := below_call (hB2.alloc (by omega) _) hb3 (by simp only [World.size_alloc]; omega); have hz3 := hb3.size; have hk3 := keep_far hb3 w.heap.size hz2 (by simp only [World.size_alloc]; omega); have hs3 := keep_at hb3 w2.heap.size (by simp only [World.size_alloc]; omega); simp only [World.size_alloc] at hz3 ho3; have hz3' : w.heap.size < w3.heap.size := (by omega))
    | (at_builtin; refine append_bytes _ rfl (.tmp 21) (.tmp 25) 25 rfl (w2.heap.size + 1) 5 Try.info5 Try.underlying25 _ 0 _ [] rfl (ho3.alloc _) _ 1 1 [k % 256] rfl (fun h => by cases h) (BReads.lit _ _ [k % 256] _ _ (isBytes_cons (bytes_mod k) isBytes_nil) rfl rfl) ?_ ?_ ?_; omega; (simp only [World.size_alloc]; omega); intro A4 c4 w4 ho4 hb4; have hB4 := (hB3.alloc (by omega) _).trans (hb4.mono (by omega)); have hz4 := hb4.size; have hk4 := keep_far hb4 w.heap.size hz3' (by omega); have hs4 := keep_far hb4 w2.heap.size hz3 (by omega); simp only [World.size_alloc] at hz4; have hz4' : w.heap.size < w4.heap.size := (by omega); have hz4'' : w2.heap.size < w4.heap.size := (by omega))
    | (at_builtin; refine append_bytes _ rfl (.tmp 29) (.tmp 37) 25 rfl (w2.heap.size + 1) 5 Try.info5 Try.underlying25 _ _ _ _ rfl (ho4.alloc _) _ 2 2 (seqBytes s) rfl (fun h => by cases h) (BReads.lit _ _ (seqBytes s) _ _ (isBytes_seq s bs) rfl rfl) ?_ ?_ ?_; omega; (simp only [World.size_alloc]; omega); intro A5 c5 w5 ho5 hb5; have hB5 := (hB4.alloc (by omega) _).trans (hb5.mono (by omega)); have hz5 := hb5.size; have hk5 := keep_far hb5 w.heap.size hz4' (by omega); have hs5 := keep_far hb5 w2.heap.size hz4'' (by omega); simp only [World.size_alloc] at hz5; have hz5' : w.heap.size < w5.heap.size := (by omega); have hz5'' : w2.heap.size < w5.heap.size := (by omega))
    | (at_builtin; refine append_bytes _ rfl (.tmp 59) (.tmp 61) 25 rfl (w2.heap.size + 1) 5 Try.info5 Try.underlying25 _ _ _ _ rfl ho5 A n cap xs rfl HA.out (HX.out _ hB5) ?_ ?_ ?_; omega; omega; intro A6 c6 w6 ho6 hb6; have hB6 := hB5.trans (hb6.mono (by omega)); have hz6 := hb6.size)
    | (go_at_call 28; refine (check_any _ _ _ _ _ ho6.reads ?_).mono ?_; omega; rintro e w' ⟨rfl, rfl⟩)
    | (at_builtin; refine append_bytes _ rfl (.tmp 63) (.tmp 66) 25 rfl (w2.heap.size + 1) 5 Try.info5 Try.underlying25 _ _ _ _ rfl (ho6.alloc _) _ 1 1 [chk ([] ++ [k % 256] ++ seqBytes s ++ xs)] rfl (fun h => by cases h) (BReads.lit _ _ [chk ([] ++ [k % 256] ++ seqBytes s ++ xs)] _ _ (isBytes_cons (chk_bd _) isBytes_nil) rfl rfl) ?_ ?_ ?_; omega; (simp only [World.size_alloc]; omega); intro A7 c7 w7 ho7 hb7))
  go_ret2
  refine ⟨_, _, _, rfl, ?_, (hB6.alloc (by omega) _).trans (hb7.mono (by omega))⟩
  rw [HW.out]
  exact ho7.more (by omega)

set_option maxHeartbeats 800000 in
theorem write_num (k s m : Int) (A : Option Addr) (n cap : Nat) (xs : List Int) (w : World) (hx : BReads w A n xs) (hA : A = none → cap = 0) (hn : n ≤ 1000000) (_bs : 0 ≤ s ∧ s ≤ 65535) (bm : 0 ≤ m ∧ m ≤ 4294967295) (h0 : validB k s m n = true) (h1 : seqB k = false) (h2 : numB k = true) :
    Calls Try.prog 12 #[.agg #[.int .i64 k, .int .u16 s, .int .u32 m, .slice A n cap]] w fun e w' => ∃ A' n' c', e = .returned (.tuple #[.slice A' n' c', .int .i64 0]) ∧ BOwns w' w.heap.size 5 A' n' c' (wr k s m xs) ∧ Below w.heap.size w w' := by
  have HA := Lib.hid hA
  have HW := Lib.hid (wr_num k s m xs h1 h2)
  have HX : Hid (∀ W, Below w.heap.size w W → BReads W A n xs) := fun W h => hx.below h
  clear hA hx
  go_enter Try.func12, Try.ntmps12
  go_wp2_with (first
    | (go_at_call 21; refine (valid_any _ _ _ _ _ _ _).mono ?_; rintro e w1 ⟨rfl, hb1⟩; have hB1 := below_call (B := w.heap.size) (a := w) (by go_grown) hb1 (by simp); have hz1 : w.heap.size < w1.heap.size := (by have := hb1.size; simp at this; omega); have hk1 := keep_at hb1 w.heap.size (by simp))
    | (go_at_call 27; refine (of_any _ _).mono ?_; rintro e w2 ⟨rfl, hb2⟩; have hB2 := below_call hB1 hb2 (by omega); have hz2 : w.heap.size < w2.heap.size := (by have := hb2.size; omega); have hk2 := keep_at hb2 w.heap.size hz1)
    | (at_make; refine make_bytes _ rfl _ _ 25 rfl (w2.heap.size + 1) 5 Try.info5 Try.underlying25 _ _ _ (n + 6) rfl rfl ?_ ?_ ?_ ?_; (omega); (omega); (simp only [World.size_alloc]; omega); intro w3 ho3 hb3; have hB3 := below_call (hB2.alloc (by omega) _) hb3 (by simp only [World.size_alloc]; omega); have hz3 := hb3.size; have hk3 := keep_far hb3 w.heap.size hz2 (by simp only [World.size_alloc]; omega); have hs3 := keep_at hb3 w2.heap.size (by simp only [World.size_alloc]; omega); simp only [World.size_alloc] at hz3 ho3; have hz3' : w.heap.size < w3.heap.size := (by omega))
    | (at_builtin; refine append_bytes _ rfl (.tmp 21) (.tmp 25) 25 rfl (w2.heap.size + 1) 5 Try.info5 Try.underlying25 _ 0 _ [] rfl (ho3.alloc _) _ 1 1 [k % 256] rfl (fun h => by cases h) (BReads.lit _ _ [k % 256] _ _ (isBytes_cons (bytes_mod k) isBytes_nil) rfl rfl) ?_ ?_ ?_; omega; (simp only [World.size_alloc]; omega); intro A4 c4 w4 ho4 hb4; have hB4 := (hB3.alloc (by omega) _).trans (hb4.mono (by omega)); have hz4 := hb4.size; have hk4 := keep_far hb4 w.heap.size hz3' (by omega); have hs4 := keep_far hb4 w2.heap.size hz3 (by omega); simp only [World.size_alloc] at hz4; have hz4' : w.heap.size < w4.heap.size := (by omega); have hz4'' : w2.heap.size < w4.heap.size := (by omega))
    | (at_builtin; refine append_bytes _ rfl (.tmp 41) (.tmp 57) 25 rfl (w2.heap.size + 1) 5 Try.info5 Try.underlying25 _ _ _ _ rfl (ho4.alloc _) _ 4 4 (numBytes m) rfl (fun h => by cases h) (BReads.lit _ _ (numBytes m) _ _ (isBytes_num m bm) rfl rfl) ?_ ?_ ?_; omega; (simp only [World.size_alloc]; omega); intro A5 c5 w5 ho5 hb5; have hB5 := (hB4.alloc (by omega) _).trans (hb5.mono (by omega)); have hz5 := hb5.size; have hk5 := keep_far hb5 w.heap.size hz4' (by omega); have hs5 := keep_far hb5 w2.heap.size hz4'' (by omega); simp only [World.size_alloc] at hz5; have hz5' : w.heap.size < w5.heap.size := (by omega); have hz5'' : w2.heap.size < w5.heap.size := (by omega))
    | (at_builtin; refine append_bytes _ rfl (.tmp 59) (.tmp 61) 25 rfl (w2.heap.size + 1) 5 Try.info5 Try.underlying25 _ _ _ _ rfl ho5 A n cap xs rfl HA.out (HX.out _ hB5) ?_ ?_ ?_; omega; omega; intro A6 c6 w6 ho6 hb6; have hB6 := hB5.trans (hb6.mono (by omega)); have hz6 := hb6.size)
    | (go_at_call 28; refine (check_any _ _ _ _ _ ho6.reads ?_).mono ?_; omega; rintro e w' ⟨rfl, rfl⟩)
    | (at_builtin; refine append_bytes _ rfl (.tmp 63) (.tmp 66) 25 rfl (w2.heap.size + 1) 5 Try.info5 Try.underlying25 _ _ _ _ rfl (ho6.alloc _) _ 1 1 [chk ([] ++ [k % 256] ++ numBytes m ++ xs)] rfl (fun h => by cases h) (BReads.lit _ _ [chk ([] ++ [k % 256] ++ numBytes m ++ xs)] _ _ (isBytes_cons (chk_bd _) isBytes_nil) rfl rfl) ?_ ?_ ?_; omega; (simp only [World.size_alloc]; omega); intro A7 c7 w7 ho7 hb7))
  go_ret2
  refine ⟨_, _, _, rfl, ?_, (hB6.alloc (by omega) _).trans (hb7.mono (by omega))⟩
  rw [HW.out]
  exact ho7.more (by omega)

theorem write_any (k s m : Int) (A : Option Addr) (n cap : Nat) (xs : List Int) (w : World) (hx : BReads w A n xs) (hA : A = none → cap = 0) (hn : n ≤ 1000000) (bs : 0 ≤ s ∧ s ≤ 65535) (bm : 0 ≤ m ∧ m ≤ 4294967295) (h0 : validB k s m n = true) :
    Calls Try.prog 12 #[.agg #[.int .i64 k, .int .u16 s, .int .u32 m, .slice A n cap]] w fun e w' => ∃ A' n' c', e = .returned (.tuple #[.slice A' n' c', .int .i64 0]) ∧ BOwns w' w.heap.size 5 A' n' c' (wr k s m xs) ∧ Below w.heap.size w w' := by
  rcases h1 : seqB k with _ | _
  · rcases h2 : numB k with _ | _
    · exact write_plain k s m A n cap xs w hx hA hn bs bm h0 h1 h2
    · exact write_num k s m A n cap xs w hx hA hn bs bm h0 h1 h2
  · exact write_seq k s m A n cap xs w hx hA hn bs bm h0 h1 (seq_num k h1)

end Go.Proofs.Ytbcleifhadkecaa
