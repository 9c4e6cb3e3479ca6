/-
  FrameHolds: for every frame, all bytes and every two numbers the statement FrameHolds answers true; no condition.
-/
import Derived.Test.YtbcleifhadkecaaKnown
import Derived.Test.YtbcleifhadkecaaOpen
import Derived.Test.YtbcleifhadkecaaOnly
import Derived.Test.YtbcleifhadkecaaPlain
import Derived.ProofKit
import Derived.OpenShut
import Derived.ShutString
import Derived.ChangeOld
import Derived.Below
import Derived.Lib.SmallJoins
set_option linter.unusedSimpArgs false
set_option linter.unusedVariables false
namespace Go.Proofs.Ytbcleifhadkecaa.frameHolds
open Go.Joins Go.ChangeShapes Go.WideShapes Go.ChangeAt Go.RowKit
open Go.ChangeMaps (open_string shut_string)


theorem valid_shape (k s m : Int) (n : Nat) (hv : validB k s m n = true) : (0 ≤ k ∧ k ≤ 255) ∧ (seqB k = false → s = 0) ∧ (numB k = false → m = 0) := by
  simp only [validB, Bool.and_eq_true, Bool.or_eq_true] at hv
  obtain ⟨⟨⟨⟨h1, h2⟩, h3⟩, _⟩, _⟩ := hv
  refine ⟨?_, fun h => ?_, fun h => ?_⟩
  · simp [isB] at h1
    omega
  · rcases h2 with h2 | h2
    · rw [h] at h2; cases h2
    · simpa using h2
  · rcases h3 with h3 | h3
    · rw [h] at h3; cases h3
    · simpa using h3
theorem reads_changed (A : Option Addr) (n cap : Nat) (zs : List Int) (w : World) (hx : BReads w A n zs) (hc : n ≤ cap) (h : readsB (rd zs) 0 0 0 [] 10 = true) :
    Calls Try.prog 15 #[.slice A n cap, .agg #[.int .i64 0, .int .u16 0, .int .u32 0, .slice none 0 0], .int .i64 10] w fun e w' => e = .returned (.bool true) ∧ Below w.heap.size w w' := by
  have h1 := reads_any A n cap zs 0 0 0 none 0 0 [] 10 w hx hc (nil_reads _)
  rw [h] at h1
  exact h1
theorem rd_wr_valid {w : World} {A : Option Addr} {n : Nat} (k s m : Int) (xs : List Int) (hx : BReads w A n xs) (hn : n ≤ 600) (bs : 0 ≤ s ∧ s ≤ 65535) (bm : 0 ≤ m ∧ m ≤ 4294967295) (hv : validB k s m n = true) :
    rd (wr k s m xs) = ⟨0, k, s, m, xs⟩ := by
  obtain ⟨h1, h2, h3⟩ := valid_shape k s m n hv
  have hl := hx.length
  rw [rd_wr k s m xs h1 bs bm h2 h3 (by rw [wr_length]; split <;> split <;> omega), hl, if_pos hv]
theorem rd_change {w : World} {A : Option Addr} {n : Nat} (k s m : Int) (xs : List Int) (hx : BReads w A n xs) (hn : n ≤ 600) (bs : 0 ≤ s ∧ s ≤ 65535) (bm : 0 ≤ m ∧ m ≤ 4294967295) (j : Nat) (hj : j < (wr k s m xs).length) (b : Int) (hb : 1 ≤ b ∧ b ≤ 255) :
    rd ((wr k s m xs).set j ((nth (wr k s m xs) j + b) % 256)) = rdNo 10 := by
  have hl := hx.length
  have hbs : IsBytes (wr0 k s m xs) := by
    unfold wr0 headBytes
    intro z hz
    rcases List.mem_append.1 hz with hz | hz
    · rcases List.mem_append.1 hz with hz | hz
      · rcases List.mem_append.1 hz with hz | hz
        · rw [List.mem_singleton.1 hz]; exact bytes_mod k
        · split at hz
          · exact isBytes_seq s bs z hz
          · cases hz
      · split at hz
        · exact isBytes_num m bm z hz
        · cases hz
    · exact hx.2 z hz
  have h1 := wr0_length k s m xs
  unfold wr at hj ⊢
  have hj' : j < (wr0 k s m xs).length + 1 := by simpa using hj
  have hle : (wr0 k s m xs).length + 1 ≤ 65541 := by rw [h1]; split <;> split <;> omega
  have hnb : 0 ≤ nth (wr0 k s m xs ++ [chk (wr0 k s m xs)]) j ∧ nth (wr0 k s m xs ++ [chk (wr0 k s m xs)]) j ≤ 255 := by
    have hg : nth (wr0 k s m xs ++ [chk (wr0 k s m xs)]) j = (wr0 k s m xs ++ [chk (wr0 k s m xs)])[j]'(by simpa using hj') := by simp [nth, List.getD, List.getElem?_eq_getElem (show j < (wr0 k s m xs ++ [chk (wr0 k s m xs)]).length by simpa using hj')]
    have hm := List.getElem_mem (l := wr0 k s m xs ++ [chk (wr0 k s m xs)]) (n := j) (by simpa using hj')
    rw [← hg] at hm
    rcases List.mem_append.1 hm with hm | hm
    · exact hbs _ hm
    · rw [List.mem_singleton.1 hm]; exact chk_bd _
  refine rd_set _ hbs (by omega) hle j hj' _ (by unfold IsByte; omega) (by omega)

set_option maxRecDepth 100000 in
set_option maxHeartbeats 3200000 in
theorem walk_no_bad_none (k s m : Int) (A : Option Addr) (n cap : Nat) (xs : List Int) (B : Option Addr) (n2 cap2 : Nat) (ys : List Int) (which by_ : Int) (w : World) (hx : BReads w A n xs) (hA : A = none → cap = 0) (bs : 0 ≤ s ∧ s ≤ 65535) (bm : 0 ≤ m ∧ m ≤ 4294967295) (hy : BReads w B n2 ys) (hc2 : n2 ≤ cap2) (hn : n ≤ 600) (hn2 : n2 ≤ 600) (bw : 0 ≤ which ∧ which ≤ 65535) (bb : 0 ≤ by_ ∧ by_ ≤ 255) (hv : validB k s m n = false) (her : ((rd ys).er == 0) = false) :
    Calls Try.prog 7 #[.agg #[.int .i64 k, .int .u16 s, .int .u32 m, .slice A n cap], .slice B n2 cap2, .int .u16 which, .int .u8 by_] w fun e w' => e = .returned (.bool true) ∧ Below w.heap.size w w' := by
  have HW : Hid (∀ W, Calls Try.prog 12 #[.agg #[.int .i64 k, .int .u16 s, .int .u32 m, .slice A n cap]] W fun e w' => e = .returned (.tuple #[.slice none 0 0, .int .i64 2]) ∧ Below W.heap.size W w') :=
    fun W => write_no k s m A n cap W hv
  have HR : Hid (∀ W, Below w.heap.size w W → Calls Try.prog 17 #[.slice B n2 cap2] W (ReadPost W (rd ys))) := fun W h => read_any B n2 cap2 ys W (hy.below h) hc2
  have HX : Hid (∀ W, Below w.heap.size w W → BReads W A n xs) := fun W h => hx.below h
  have HY : Hid (∀ W, Below w.heap.size w W → BReads W B n2 ys) := fun W h => hy.below h
  clear hx hA bs bm hy hc2
  generalize rd ys = r at *
  go_enter Try.func7, Try.ntmps7
  go_wp2_with fail
  refine (HW.out _).mono ?_
  rintro e w1 ⟨rfl, hb1⟩
  have hB1 : Below w.heap.size w w1 := below_call (by (focus (repeat' (first | (with_reducible exact Below.refl _ _) | (with_reducible assumption) | (with_reducible refine Below.alloc ?_ ?_ _) | (with_reducible refine below_drewN ?_ _) | (with_reducible refine Below.drew ?_) | (with_reducible refine Below.setCell ?_ ?_ _) | omega | (simp; done) | (simp; omega))))) hb1 (by (focus (first | omega | (simp only [World.size_alloc]; done) | (simp only [World.size_alloc]; omega) | (simp; done) | (simp; omega))))
  have hQ1 : Below (w.heap.size + 1) (w.alloc (.cells #[.int .i64 k, .int .u16 s, .int .u32 m, .slice A n cap] 27)) w1 := hb1.mono (by (focus (first | omega | (simp only [World.size_alloc]; done) | (simp only [World.size_alloc]; omega) | (simp; done) | (simp; omega))))
  have hZ1 : w.heap.size < w1.heap.size := by have := hb1.size; simp at this; omega
  have hk1 := keep_at hQ1 w.heap.size (by omega)
  clear hb1
  go_wp2_with fail
  refine (valid_any _ _ _ _ _ _ _).mono ?_
  rintro e w2 ⟨rfl, hb2⟩
  have hB2 : Below w.heap.size w w2 := below_call hB1 hb2 hB1.size
  have hZ2 : w.heap.size < w2.heap.size := by have := hb2.size; omega
  have hk2 := keep_at hb2 w.heap.size hZ1
  go_wp2_with fail
  refine (HR.out _ hB2).mono ?_
  rintro e w4 ⟨A4, n4, c4, rfl, ho4, hb4⟩
  obtain rfl : r.d.length = n4 := ho4.length
  have hB4 : Below w.heap.size w w4 := below_call hB2 hb4 hB2.size
  have hZ4 := hB4.size
  clear ho4
  go_wp2_with fail
  refine (known_any _).mono ?_
  rintro e w9 ⟨rfl, hb9⟩
  have hB9 : Below w.heap.size w w9 := below_call (by (focus (repeat' (first | (with_reducible exact Below.refl _ _) | (with_reducible assumption) | (with_reducible refine Below.alloc ?_ ?_ _) | (with_reducible refine below_drewN ?_ _) | (with_reducible refine Below.drew ?_) | (with_reducible refine Below.setCell ?_ ?_ _) | omega | (simp; done) | (simp; omega))))) hb9 (by (focus (first | omega | (simp only [World.size_alloc]; done) | (simp only [World.size_alloc]; omega) | (simp; done) | (simp; omega))))
  go_wp2
  go_ret
  exact ⟨rfl, hB9⟩

set_option maxRecDepth 100000 in
set_option maxHeartbeats 3200000 in
theorem walk_no_read_none (k s m : Int) (A : Option Addr) (n cap : Nat) (xs : List Int) (B : Option Addr) (n2 cap2 : Nat) (ys : List Int) (which by_ : Int) (w : World) (hx : BReads w A n xs) (hA : A = none → cap = 0) (bs : 0 ≤ s ∧ s ≤ 65535) (bm : 0 ≤ m ∧ m ≤ 4294967295) (hy : BReads w B n2 ys) (hc2 : n2 ≤ cap2) (hn : n ≤ 600) (hn2 : n2 ≤ 600) (bw : 0 ≤ which ∧ which ≤ 65535) (bb : 0 ≤ by_ ∧ by_ ≤ 255) (hv : validB k s m n = false) (her : ((rd ys).er == 0) = true) :
    Calls Try.prog 7 #[.agg #[.int .i64 k, .int .u16 s, .int .u32 m, .slice A n cap], .slice B n2 cap2, .int .u16 which, .int .u8 by_] w fun e w' => e = .returned (.bool true) ∧ Below w.heap.size w w' := by
  have HW : Hid (∀ W, Calls Try.prog 12 #[.agg #[.int .i64 k, .int .u16 s, .int .u32 m, .slice A n cap]] W fun e w' => e = .returned (.tuple #[.slice none 0 0, .int .i64 2]) ∧ Below W.heap.size W w') :=
    fun W => write_no k s m A n cap W hv
  have HR : Hid (∀ W, Below w.heap.size w W → Calls Try.prog 17 #[.slice B n2 cap2] W (ReadPost W (rd ys))) := fun W h => read_any B n2 cap2 ys W (hy.below h) hc2
  have HX : Hid (∀ W, Below w.heap.size w W → BReads W A n xs) := fun W h => hx.below h
  have HY : Hid (∀ W, Below w.heap.size w W → BReads W B n2 ys) := fun W h => hy.below h
  obtain ⟨y1, y2, y3, y4, y5⟩ := wr_rd ys hy.2 (by simpa using her)
  have x3 : writesB (rd ys).k (rd ys).s (rd ys).m (rd ys).d.length (rd ys).d ys 0 = true := by simp [writesB, wrB, wrE, y1, y2]
  clear y2
  clear hx hA bs bm hy hc2
  generalize rd ys = r at *
  go_enter Try.func7, Try.ntmps7
  go_wp2_with fail
  refine (HW.out _).mono ?_
  rintro e w1 ⟨rfl, hb1⟩
  have hB1 : Below w.heap.size w w1 := below_call (by (focus (repeat' (first | (with_reducible exact Below.refl _ _) | (with_reducible assumption) | (with_reducible refine Below.alloc ?_ ?_ _) | (with_reducible refine below_drewN ?_ _) | (with_reducible refine Below.drew ?_) | (with_reducible refine Below.setCell ?_ ?_ _) | omega | (simp; done) | (simp; omega))))) hb1 (by (focus (first | omega | (simp only [World.size_alloc]; done) | (simp only [World.size_alloc]; omega) | (simp; done) | (simp; omega))))
  have hQ1 : Below (w.heap.size + 1) (w.alloc (.cells #[.int .i64 k, .int .u16 s, .int .u32 m, .slice A n cap] 27)) w1 := hb1.mono (by (focus (first | omega | (simp only [World.size_alloc]; done) | (simp only [World.size_alloc]; omega) | (simp; done) | (simp; omega))))
  have hZ1 : w.heap.size < w1.heap.size := by have := hb1.size; simp at this; omega
  have hk1 := keep_at hQ1 w.heap.size (by omega)
  clear hb1
  go_wp2_with fail
  refine (valid_any _ _ _ _ _ _ _).mono ?_
  rintro e w2 ⟨rfl, hb2⟩
  have hB2 : Below w.heap.size w w2 := below_call hB1 hb2 hB1.size
  have hZ2 : w.heap.size < w2.heap.size := by have := hb2.size; omega
  have hk2 := keep_at hb2 w.heap.size hZ1
  go_wp2_with fail
  refine (HR.out _ hB2).mono ?_
  rintro e w4 ⟨A4, n4, c4, rfl, ho4, hb4⟩
  obtain rfl : r.d.length = n4 := ho4.length
  have hB4 : Below w.heap.size w w4 := below_call hB2 hb4 hB2.size
  have hZ4 := hB4.size
  have HRD := Lib.hid ho4.reads
  have HRA := Lib.hid ho4.2.2
  clear ho4
  go_wp2_with fail
  refine (valid_any _ _ _ _ _ _ _).mono ?_
  rintro e w5 ⟨rfl, hb5⟩
  have hB5 : Below w.heap.size w w5 := below_call (by (focus (repeat' (first | (with_reducible exact Below.refl _ _) | (with_reducible assumption) | (with_reducible refine Below.alloc ?_ ?_ _) | (with_reducible refine below_drewN ?_ _) | (with_reducible refine Below.drew ?_) | (with_reducible refine Below.setCell ?_ ?_ _) | omega | (simp; done) | (simp; omega))))) hb5 (by (focus (first | omega | (simp only [World.size_alloc]; done) | (simp only [World.size_alloc]; omega) | (simp; done) | (simp; omega))))
  have hk5 := keep_at hb5 w4.heap.size (by (focus (first | omega | (simp only [World.size_alloc]; done) | (simp only [World.size_alloc]; omega) | (simp; done) | (simp; omega))))
  have hZ5 : w4.heap.size < w5.heap.size := by have := hb5.size; simp at this; omega
  go_wp2_with fail
  refine (writes_any r.k r.s r.m A4 r.d.length c4 r.d _ _ _ ys 0 _ ((HRD.out.alloc _).below hb5) HRA.out (.inl (by omega)) y3 y4 (HY.out _ hB5)).mono ?_
  rintro e w6 ⟨rfl, hb6⟩
  have hB6 : Below w.heap.size w w6 := below_call hB5 hb6 hB5.size
  have hZ6 := hB6.size
  go_wp2_with fail
  refine (known_any _).mono ?_
  rintro e w9 ⟨rfl, hb9⟩
  have hB9 : Below w.heap.size w w9 := below_call (by (focus (repeat' (first | (with_reducible exact Below.refl _ _) | (with_reducible assumption) | (with_reducible refine Below.alloc ?_ ?_ _) | (with_reducible refine below_drewN ?_ _) | (with_reducible refine Below.drew ?_) | (with_reducible refine Below.setCell ?_ ?_ _) | omega | (simp; done) | (simp; omega))))) hb9 (by (focus (first | omega | (simp only [World.size_alloc]; done) | (simp only [World.size_alloc]; omega) | (simp; done) | (simp; omega))))
  go_wp2
  go_ret
  exact ⟨rfl, hB9⟩

set_option maxRecDepth 100000 in
set_option maxHeartbeats 3200000 in
theorem walk_yes_bad_none (k s m : Int) (A : Option Addr) (n cap : Nat) (xs : List Int) (B : Option Addr) (n2 cap2 : Nat) (ys : List Int) (which by_ : Int) (w : World) (hx : BReads w A n xs) (hA : A = none → cap = 0) (bs : 0 ≤ s ∧ s ≤ 65535) (bm : 0 ≤ m ∧ m ≤ 4294967295) (hy : BReads w B n2 ys) (hc2 : n2 ≤ cap2) (hn : n ≤ 600) (hn2 : n2 ≤ 600) (bw : 0 ≤ which ∧ which ≤ 65535) (bb : 0 ≤ by_ ∧ by_ ≤ 255) (hv : validB k s m n = true) (her : ((rd ys).er == 0) = false) (hby : (by_ == 0) = true) :
    Calls Try.prog 7 #[.agg #[.int .i64 k, .int .u16 s, .int .u32 m, .slice A n cap], .slice B n2 cap2, .int .u16 which, .int .u8 by_] w fun e w' => e = .returned (.bool true) ∧ Below w.heap.size w w' := by
  have HW : Hid (∀ W, Below w.heap.size w W → Calls Try.prog 12 #[.agg #[.int .i64 k, .int .u16 s, .int .u32 m, .slice A n cap]] W fun e w' => ∃ A' n' c', e = .returned (.tuple #[.slice A' n' c', .int .i64 0]) ∧ BOwns w' W.heap.size 5 A' n' c' (wr k s m xs) ∧ Below W.heap.size W w') :=
    fun W h => write_any k s m A n cap xs W (hx.below h) hA (by omega) bs bm hv
  have x1 : readsB (rd (wr k s m xs)) k s m xs 0 = true := by
    rw [rd_wr_valid k s m xs hx hn bs bm hv]
    simp [readsB, eqB]
  have HLEN := Lib.hid (wr_length k s m xs)
  have HR : Hid (∀ W, Below w.heap.size w W → Calls Try.prog 17 #[.slice B n2 cap2] W (ReadPost W (rd ys))) := fun W h => read_any B n2 cap2 ys W (hy.below h) hc2
  have HX : Hid (∀ W, Below w.heap.size w W → BReads W A n xs) := fun W h => hx.below h
  have HY : Hid (∀ W, Below w.heap.size w W → BReads W B n2 ys) := fun W h => hy.below h
  clear hx hA bs bm hy hc2
  generalize rd ys = r at *
  generalize hbt : wr k s m xs = bts at *
  clear hbt
  go_enter Try.func7, Try.ntmps7
  go_wp2_with fail
  refine (HW.out _ (by (focus (repeat' (first | (with_reducible exact Below.refl _ _) | (with_reducible assumption) | (with_reducible refine Below.alloc ?_ ?_ _) | (with_reducible refine below_drewN ?_ _) | (with_reducible refine Below.drew ?_) | (with_reducible refine Below.setCell ?_ ?_ _) | omega | (simp; done) | (simp; omega)))))).mono ?_
  rintro e w1 ⟨A1, n1, c1, rfl, ho1, hb1⟩
  have HL1 := Lib.hid (own_cap ho1)
  have hB1 : Below w.heap.size w w1 := below_call (by (focus (repeat' (first | (with_reducible exact Below.refl _ _) | (with_reducible assumption) | (with_reducible refine Below.alloc ?_ ?_ _) | (with_reducible refine below_drewN ?_ _) | (with_reducible refine Below.drew ?_) | (with_reducible refine Below.setCell ?_ ?_ _) | omega | (simp; done) | (simp; omega))))) hb1 (by (focus (first | omega | (simp only [World.size_alloc]; done) | (simp only [World.size_alloc]; omega) | (simp; done) | (simp; omega))))
  have hQ1 : Below (w.heap.size + 1) (w.alloc (.cells #[.int .i64 k, .int .u16 s, .int .u32 m, .slice A n cap] 27)) w1 := hb1.mono (by (focus (first | omega | (simp only [World.size_alloc]; done) | (simp only [World.size_alloc]; omega) | (simp; done) | (simp; omega))))
  have hZ1 : w.heap.size < w1.heap.size := by have := hb1.size; simp at this; omega
  have hk1 := keep_at hQ1 w.heap.size (by omega)
  clear hb1
  go_wp2_with fail
  refine (valid_any _ _ _ _ _ _ _).mono ?_
  rintro e w2 ⟨rfl, hb2⟩
  have hB2 : Below w.heap.size w w2 := below_call hB1 hb2 hB1.size
  have hZ2 : w.heap.size < w2.heap.size := by have := hb2.size; omega
  have hk2 := keep_at hb2 w.heap.size hZ1
  have ho2 := ho1.below hb2
  clear ho1
  go_wp2_with fail
  refine (reads_any _ _ _ bts k s m _ _ _ xs 0 _ ho2.reads HL1.out (HX.out _ hB2)).mono ?_
  rintro e w3 ⟨rfl, hb3⟩
  have ho3 := ho2.below hb3
  have hB3 : Below w.heap.size w w3 := below_call hB2 hb3 hB2.size
  have hZ3 : w.heap.size < w3.heap.size := by have := hb3.size; omega
  clear ho2
  go_wp2_with fail
  refine (HR.out _ hB3).mono ?_
  rintro e w4 ⟨A4, n4, c4, rfl, ho4, hb4⟩
  obtain rfl : r.d.length = n4 := ho4.length
  have hB4 : Below w.heap.size w w4 := below_call hB3 hb4 hB3.size
  have hZ4 := hB4.size
  have ho5 := ho3.below hb4
  clear ho3
  clear ho4
  go_wp2_with fail
  refine (known_any _).mono ?_
  rintro e w9 ⟨rfl, hb9⟩
  have hB9 : Below w.heap.size w w9 := below_call (by (focus (repeat' (first | (with_reducible exact Below.refl _ _) | (with_reducible assumption) | (with_reducible refine Below.alloc ?_ ?_ _) | (with_reducible refine below_drewN ?_ _) | (with_reducible refine Below.drew ?_) | (with_reducible refine Below.setCell ?_ ?_ _) | omega | (simp; done) | (simp; omega))))) hb9 (by (focus (first | omega | (simp only [World.size_alloc]; done) | (simp only [World.size_alloc]; omega) | (simp; done) | (simp; omega))))
  go_wp2
  go_ret
  exact ⟨rfl, hB9⟩

set_option maxRecDepth 100000 in
set_option maxHeartbeats 3200000 in
theorem walk_yes_read_none (k s m : Int) (A : Option Addr) (n cap : Nat) (xs : List Int) (B : Option Addr) (n2 cap2 : Nat) (ys : List Int) (which by_ : Int) (w : World) (hx : BReads w A n xs) (hA : A = none → cap = 0) (bs : 0 ≤ s ∧ s ≤ 65535) (bm : 0 ≤ m ∧ m ≤ 4294967295) (hy : BReads w B n2 ys) (hc2 : n2 ≤ cap2) (hn : n ≤ 600) (hn2 : n2 ≤ 600) (bw : 0 ≤ which ∧ which ≤ 65535) (bb : 0 ≤ by_ ∧ by_ ≤ 255) (hv : validB k s m n = true) (her : ((rd ys).er == 0) = true) (hby : (by_ == 0) = true) :
    Calls Try.prog 7 #[.agg #[.int .i64 k, .int .u16 s, .int .u32 m, .slice A n cap], .slice B n2 cap2, .int .u16 which, .int .u8 by_] w fun e w' => e = .returned (.bool true) ∧ Below w.heap.size w w' := by
  have HW : Hid (∀ W, Below w.heap.size w W → Calls Try.prog 12 #[.agg #[.int .i64 k, .int .u16 s, .int .u32 m, .slice A n cap]] W fun e w' => ∃ A' n' c', e = .returned (.tuple #[.slice A' n' c', .int .i64 0]) ∧ BOwns w' W.heap.size 5 A' n' c' (wr k s m xs) ∧ Below W.heap.size W w') :=
    fun W h => write_any k s m A n cap xs W (hx.below h) hA (by omega) bs bm hv
  have x1 : readsB (rd (wr k s m xs)) k s m xs 0 = true := by
    rw [rd_wr_valid k s m xs hx hn bs bm hv]
    simp [readsB, eqB]
  have HLEN := Lib.hid (wr_length k s m xs)
  have HR : Hid (∀ W, Below w.heap.size w W → Calls Try.prog 17 #[.slice B n2 cap2] W (ReadPost W (rd ys))) := fun W h => read_any B n2 cap2 ys W (hy.below h) hc2
  have HX : Hid (∀ W, Below w.heap.size w W → BReads W A n xs) := fun W h => hx.below h
  have HY : Hid (∀ W, Below w.heap.size w W → BReads W B n2 ys) := fun W h => hy.below h
  obtain ⟨y1, y2, y3, y4, y5⟩ := wr_rd ys hy.2 (by simpa using her)
  have x3 : writesB (rd ys).k (rd ys).s (rd ys).m (rd ys).d.length (rd ys).d ys 0 = true := by simp [writesB, wrB, wrE, y1, y2]
  clear y2
  clear hx hA bs bm hy hc2
  generalize rd ys = r at *
  generalize hbt : wr k s m xs = bts at *
  clear hbt
  go_enter Try.func7, Try.ntmps7
  go_wp2_with fail
  refine (HW.out _ (by (focus (repeat' (first | (with_reducible exact Below.refl _ _) | (with_reducible assumption) | (with_reducible refine Below.alloc ?_ ?_ _) | (with_reducible refine below_drewN ?_ _) | (with_reducible refine Below.drew ?_) | (with_reducible refine Below.setCell ?_ ?_ _) | omega | (simp; done) | (simp; omega)))))).mono ?_
  rintro e w1 ⟨A1, n1, c1, rfl, ho1, hb1⟩
  have HL1 := Lib.hid (own_cap ho1)
  have hB1 : Below w.heap.size w w1 := below_call (by (focus (repeat' (first | (with_reducible exact Below.refl _ _) | (with_reducible assumption) | (with_reducible refine Below.alloc ?_ ?_ _) | (with_reducible refine below_drewN ?_ _) | (with_reducible refine Below.drew ?_) | (with_reducible refine Below.setCell ?_ ?_ _) | omega | (simp; done) | (simp; omega))))) hb1 (by (focus (first | omega | (simp only [World.size_alloc]; done) | (simp only [World.size_alloc]; omega) | (simp; done) | (simp; omega))))
  have hQ1 : Below (w.heap.size + 1) (w.alloc (.cells #[.int .i64 k, .int .u16 s, .int .u32 m, .slice A n cap] 27)) w1 := hb1.mono (by (focus (first | omega | (simp only [World.size_alloc]; done) | (simp only [World.size_alloc]; omega) | (simp; done) | (simp; omega))))
  have hZ1 : w.heap.size < w1.heap.size := by have := hb1.size; simp at this; omega
  have hk1 := keep_at hQ1 w.heap.size (by omega)
  clear hb1
  go_wp2_with fail
  refine (valid_any _ _ _ _ _ _ _).mono ?_
  rintro e w2 ⟨rfl, hb2⟩
  have hB2 : Below w.heap.size w w2 := below_call hB1 hb2 hB1.size
  have hZ2 : w.heap.size < w2.heap.size := by have := hb2.size; omega
  have hk2 := keep_at hb2 w.heap.size hZ1
  have ho2 := ho1.below hb2
  clear ho1
  go_wp2_with fail
  refine (reads_any _ _ _ bts k s m _ _ _ xs 0 _ ho2.reads HL1.out (HX.out _ hB2)).mono ?_
  rintro e w3 ⟨rfl, hb3⟩
  have ho3 := ho2.below hb3
  have hB3 : Below w.heap.size w w3 := below_call hB2 hb3 hB2.size
  have hZ3 : w.heap.size < w3.heap.size := by have := hb3.size; omega
  clear ho2
  go_wp2_with fail
  refine (HR.out _ hB3).mono ?_
  rintro e w4 ⟨A4, n4, c4, rfl, ho4, hb4⟩
  obtain rfl : r.d.length = n4 := ho4.length
  have hB4 : Below w.heap.size w w4 := below_call hB3 hb4 hB3.size
  have hZ4 := hB4.size
  have ho5 := ho3.below hb4
  clear ho3
  have HRD := Lib.hid ho4.reads
  have HRA := Lib.hid ho4.2.2
  clear ho4
  go_wp2_with fail
  refine (valid_any _ _ _ _ _ _ _).mono ?_
  rintro e w5 ⟨rfl, hb5⟩
  have hB5 : Below w.heap.size w w5 := below_call (by (focus (repeat' (first | (with_reducible exact Below.refl _ _) | (with_reducible assumption) | (with_reducible refine Below.alloc ?_ ?_ _) | (with_reducible refine below_drewN ?_ _) | (with_reducible refine Below.drew ?_) | (with_reducible refine Below.setCell ?_ ?_ _) | omega | (simp; done) | (simp; omega))))) hb5 (by (focus (first | omega | (simp only [World.size_alloc]; done) | (simp only [World.size_alloc]; omega) | (simp; done) | (simp; omega))))
  have hk5 := keep_at hb5 w4.heap.size (by (focus (first | omega | (simp only [World.size_alloc]; done) | (simp only [World.size_alloc]; omega) | (simp; done) | (simp; omega))))
  have hZ5 : w4.heap.size < w5.heap.size := by have := hb5.size; simp at this; omega
  have ho6 := (ho5.alloc (.cells #[.int .i64 r.k, .int .u16 r.s, .int .u32 r.m, .slice A4 r.d.length c4] 27)).below hb5
  clear ho5
  go_wp2_with fail
  refine (writes_any r.k r.s r.m A4 r.d.length c4 r.d _ _ _ ys 0 _ ((HRD.out.alloc _).below hb5) HRA.out (.inl (by omega)) y3 y4 (HY.out _ hB5)).mono ?_
  rintro e w6 ⟨rfl, hb6⟩
  have hB6 : Below w.heap.size w w6 := below_call hB5 hb6 hB5.size
  have hZ6 := hB6.size
  have ho7 := ho6.below hb6
  clear ho6
  go_wp2_with fail
  refine (known_any _).mono ?_
  rintro e w9 ⟨rfl, hb9⟩
  have hB9 : Below w.heap.size w w9 := below_call (by (focus (repeat' (first | (with_reducible exact Below.refl _ _) | (with_reducible assumption) | (with_reducible refine Below.alloc ?_ ?_ _) | (with_reducible refine below_drewN ?_ _) | (with_reducible refine Below.drew ?_) | (with_reducible refine Below.setCell ?_ ?_ _) | omega | (simp; done) | (simp; omega))))) hb9 (by (focus (first | omega | (simp only [World.size_alloc]; done) | (simp only [World.size_alloc]; omega) | (simp; done) | (simp; omega))))
  go_wp2
  go_ret
  exact ⟨rfl, hB9⟩

set_option maxRecDepth 100000 in
set_option maxHeartbeats 3200000 in
theorem walk_yes_bad_by (k s m : Int) (A : Option Addr) (n cap : Nat) (xs : List Int) (B : Option Addr) (n2 cap2 : Nat) (ys : List Int) (which by_ : Int) (w : World) (hx : BReads w A n xs) (hA : A = none → cap = 0) (bs : 0 ≤ s ∧ s ≤ 65535) (bm : 0 ≤ m ∧ m ≤ 4294967295) (hy : BReads w B n2 ys) (hc2 : n2 ≤ cap2) (hn : n ≤ 600) (hn2 : n2 ≤ 600) (bw : 0 ≤ which ∧ which ≤ 65535) (bb : 0 ≤ by_ ∧ by_ ≤ 255) (hv : validB k s m n = true) (her : ((rd ys).er == 0) = false) (hby : (by_ == 0) = false) :
    Calls Try.prog 7 #[.agg #[.int .i64 k, .int .u16 s, .int .u32 m, .slice A n cap], .slice B n2 cap2, .int .u16 which, .int .u8 by_] w fun e w' => e = .returned (.bool true) ∧ Below w.heap.size w w' := by
  have HW : Hid (∀ W, Below w.heap.size w W → Calls Try.prog 12 #[.agg #[.int .i64 k, .int .u16 s, .int .u32 m, .slice A n cap]] W fun e w' => ∃ A' n' c', e = .returned (.tuple #[.slice A' n' c', .int .i64 0]) ∧ BOwns w' W.heap.size 5 A' n' c' (wr k s m xs) ∧ Below W.heap.size W w') :=
    fun W h => write_any k s m A n cap xs W (hx.below h) hA (by omega) bs bm hv
  have x1 : readsB (rd (wr k s m xs)) k s m xs 0 = true := by
    rw [rd_wr_valid k s m xs hx hn bs bm hv]
    simp [readsB, eqB]
  have HLEN := Lib.hid (wr_length k s m xs)
  have HSET : Hid (∀ j : Nat, j < (wr k s m xs).length → readsB (rd ((wr k s m xs).set j ((nth (wr k s m xs) j + by_) % 256))) 0 0 0 [] 10 = true) := fun j hj => by
    have hb0 : by_ ≠ 0 := by simpa using hby
    rw [rd_change k s m xs hx hn bs bm j hj by_ (by omega)]
    rfl
  have HR : Hid (∀ W, Below w.heap.size w W → Calls Try.prog 17 #[.slice B n2 cap2] W (ReadPost W (rd ys))) := fun W h => read_any B n2 cap2 ys W (hy.below h) hc2
  have HX : Hid (∀ W, Below w.heap.size w W → BReads W A n xs) := fun W h => hx.below h
  have HY : Hid (∀ W, Below w.heap.size w W → BReads W B n2 ys) := fun W h => hy.below h
  clear hx hA bs bm hy hc2
  generalize rd ys = r at *
  generalize hbt : wr k s m xs = bts at *
  clear hbt
  go_enter Try.func7, Try.ntmps7
  go_wp2_with fail
  refine (HW.out _ (by (focus (repeat' (first | (with_reducible exact Below.refl _ _) | (with_reducible assumption) | (with_reducible refine Below.alloc ?_ ?_ _) | (with_reducible refine below_drewN ?_ _) | (with_reducible refine Below.drew ?_) | (with_reducible refine Below.setCell ?_ ?_ _) | omega | (simp; done) | (simp; omega)))))).mono ?_
  rintro e w1 ⟨A1, n1, c1, rfl, ho1, hb1⟩
  have HL1 := Lib.hid (own_cap ho1)
  have hB1 : Below w.heap.size w w1 := below_call (by (focus (repeat' (first | (with_reducible exact Below.refl _ _) | (with_reducible assumption) | (with_reducible refine Below.alloc ?_ ?_ _) | (with_reducible refine below_drewN ?_ _) | (with_reducible refine Below.drew ?_) | (with_reducible refine Below.setCell ?_ ?_ _) | omega | (simp; done) | (simp; omega))))) hb1 (by (focus (first | omega | (simp only [World.size_alloc]; done) | (simp only [World.size_alloc]; omega) | (simp; done) | (simp; omega))))
  have hQ1 : Below (w.heap.size + 1) (w.alloc (.cells #[.int .i64 k, .int .u16 s, .int .u32 m, .slice A n cap] 27)) w1 := hb1.mono (by (focus (first | omega | (simp only [World.size_alloc]; done) | (simp only [World.size_alloc]; omega) | (simp; done) | (simp; omega))))
  have hZ1 : w.heap.size < w1.heap.size := by have := hb1.size; simp at this; omega
  have hk1 := keep_at hQ1 w.heap.size (by omega)
  clear hb1
  go_wp2_with fail
  refine (valid_any _ _ _ _ _ _ _).mono ?_
  rintro e w2 ⟨rfl, hb2⟩
  have hB2 : Below w.heap.size w w2 := below_call hB1 hb2 hB1.size
  have hZ2 : w.heap.size < w2.heap.size := by have := hb2.size; omega
  have hk2 := keep_at hb2 w.heap.size hZ1
  have ho2 := ho1.below hb2
  clear ho1
  go_wp2_with fail
  refine (reads_any _ _ _ bts k s m _ _ _ xs 0 _ ho2.reads HL1.out (HX.out _ hB2)).mono ?_
  rintro e w3 ⟨rfl, hb3⟩
  have ho3 := ho2.below hb3
  have hB3 : Below w.heap.size w w3 := below_call hB2 hb3 hB2.size
  have hZ3 : w.heap.size < w3.heap.size := by have := hb3.size; omega
  clear ho2
  go_wp2_with fail
  refine (HR.out _ hB3).mono ?_
  rintro e w4 ⟨A4, n4, c4, rfl, ho4, hb4⟩
  obtain rfl : r.d.length = n4 := ho4.length
  have hB4 : Below w.heap.size w w4 := below_call hB3 hb4 hB3.size
  have hZ4 := hB4.size
  have ho5 := ho3.below hb4
  clear ho3
  clear ho4
  have hpos : 0 < n1 := by have := ho5.length; have := HLEN.out; omega
  obtain ⟨g, rfl, hg1, hg2⟩ := ho5.head hpos
  have h0 : 0 ≤ which % (n1 : Int) := Int.emod_nonneg _ (by omega)
  have h1 : which % (n1 : Int) < n1 := Int.emod_lt_of_pos _ (by omega)
  obtain ⟨j, hj⟩ : ∃ j : Nat, which % (n1 : Int) = j := ⟨(which % (n1 : Int)).toNat, by omega⟩
  have hjn : j < n1 := by omega
  have hjn' : (j : Int) < n1 := by omega
  have hne : ((n1 : Int) == 0) = false := by simp; omega
  obtain ⟨q1, q2, q3, q4⟩ := ho5.cellAt hjn
  clear h0 h1
  have x4 := HSET.out j (by rw [ho5.length]; exact hjn)
  generalize hzs : bts.set j ((nth bts j + by_) % 256) = zs at x4
  have HS := Lib.hid (ho5.stored ((nth bts j + by_) % 256) hjn (by omega))
  rw [hzs] at HS
  have hgb : w.heap.size ≤ g := by simp at hg1; omega
  have HBS := hB4.setCell (p := ⟨g, j, none⟩) hgb (.int .u8 ((nth bts j + by_) % 256))
  clear hzs HSET
  go_wp2_with fail
  refine (reads_changed _ _ _ zs _ (HS.out.reads.alloc _) HL1.out x4).mono ?_
  rintro e w8 ⟨rfl, hb8⟩
  have hB8 : Below w.heap.size w w8 := below_call (by (focus (repeat' (first | (with_reducible exact Below.refl _ _) | (with_reducible assumption) | (with_reducible refine Below.alloc ?_ ?_ _) | (with_reducible refine below_drewN ?_ _) | (with_reducible refine Below.drew ?_) | (with_reducible refine Below.setCell ?_ ?_ _) | omega | (simp; done) | (simp; omega))))) hb8 (by have := HBS.size; (focus (first | omega | (simp only [World.size_alloc]; done) | (simp only [World.size_alloc]; omega) | (simp; done) | (simp; omega))))
  have hZ8 := hB8.size
  go_wp2_with fail
  refine (known_any _).mono ?_
  rintro e w9 ⟨rfl, hb9⟩
  have hB9 : Below w.heap.size w w9 := below_call (by (focus (repeat' (first | (with_reducible exact Below.refl _ _) | (with_reducible assumption) | (with_reducible refine Below.alloc ?_ ?_ _) | (with_reducible refine below_drewN ?_ _) | (with_reducible refine Below.drew ?_) | (with_reducible refine Below.setCell ?_ ?_ _) | omega | (simp; done) | (simp; omega))))) hb9 (by (focus (first | omega | (simp only [World.size_alloc]; done) | (simp only [World.size_alloc]; omega) | (simp; done) | (simp; omega))))
  go_wp2
  go_ret
  exact ⟨rfl, hB9⟩

set_option maxRecDepth 100000 in
set_option maxHeartbeats 3200000 in
theorem walk_yes_read_by (k s m : Int) (A : Option Addr) (n cap : Nat) (xs : List Int) (B : Option Addr) (n2 cap2 : Nat) (ys : List Int) (which by_ : Int) (w : World) (hx : BReads w A n xs) (hA : A = none → cap = 0) (bs : 0 ≤ s ∧ s ≤ 65535) (bm : 0 ≤ m ∧ m ≤ 4294967295) (hy : BReads w B n2 ys) (hc2 : n2 ≤ cap2) (hn : n ≤ 600) (hn2 : n2 ≤ 600) (bw : 0 ≤ which ∧ which ≤ 65535) (bb : 0 ≤ by_ ∧ by_ ≤ 255) (hv : validB k s m n = true) (her : ((rd ys).er == 0) = true) (hby : (by_ == 0) = false) :
    Calls Try.prog 7 #[.agg #[.int .i64 k, .int .u16 s, .int .u32 m, .slice A n cap], .slice B n2 cap2, .int .u16 which, .int .u8 by_] w fun e w' => e = .returned (.bool true) ∧ Below w.heap.size w w' := by
  have HW : Hid (∀ W, Below w.heap.size w W → Calls Try.prog 12 #[.agg #[.int .i64 k, .int .u16 s, .int .u32 m, .slice A n cap]] W fun e w' => ∃ A' n' c', e = .returned (.tuple #[.slice A' n' c', .int .i64 0]) ∧ BOwns w' W.heap.size 5 A' n' c' (wr k s m xs) ∧ Below W.heap.size W w') :=
    fun W h => write_any k s m A n cap xs W (hx.below h) hA (by omega) bs bm hv
  have x1 : readsB (rd (wr k s m xs)) k s m xs 0 = true := by
    rw [rd_wr_valid k s m xs hx hn bs bm hv]
    simp [readsB, eqB]
  have HLEN := Lib.hid (wr_length k s m xs)
  have HSET : Hid (∀ j : Nat, j < (wr k s m xs).length → readsB (rd ((wr k s m xs).set j ((nth (wr k s m xs) j + by_) % 256))) 0 0 0 [] 10 = true) := fun j hj => by
    have hb0 : by_ ≠ 0 := by simpa using hby
    rw [rd_change k s m xs hx hn bs bm j hj by_ (by omega)]
    rfl
  have HR : Hid (∀ W, Below w.heap.size w W → Calls Try.prog 17 #[.slice B n2 cap2] W (ReadPost W (rd ys))) := fun W h => read_any B n2 cap2 ys W (hy.below h) hc2
  have HX : Hid (∀ W, Below w.heap.size w W → BReads W A n xs) := fun W h => hx.below h
  have HY : Hid (∀ W, Below w.heap.size w W → BReads W B n2 ys) := fun W h => hy.below h
  obtain ⟨y1, y2, y3, y4, y5⟩ := wr_rd ys hy.2 (by simpa using her)
  have x3 : writesB (rd ys).k (rd ys).s (rd ys).m (rd ys).d.length (rd ys).d ys 0 = true := by simp [writesB, wrB, wrE, y1, y2]
  clear y2
  clear hx hA bs bm hy hc2
  generalize rd ys = r at *
  generalize hbt : wr k s m xs = bts at *
  clear hbt
  go_enter Try.func7, Try.ntmps7
  go_wp2_with fail
  refine (HW.out _ (by (focus (repeat' (first | (with_reducible exact Below.refl _ _) | (with_reducible assumption) | (with_reducible refine Below.alloc ?_ ?_ _) | (with_reducible refine below_drewN ?_ _) | (with_reducible refine Below.drew ?_) | (with_reducible refine Below.setCell ?_ ?_ _) | omega | (simp; done) | (simp; omega)))))).mono ?_
  rintro e w1 ⟨A1, n1, c1, rfl, ho1, hb1⟩
  have HL1 := Lib.hid (own_cap ho1)
  have hB1 : Below w.heap.size w w1 := below_call (by (focus (repeat' (first | (with_reducible exact Below.refl _ _) | (with_reducible assumption) | (with_reducible refine Below.alloc ?_ ?_ _) | (with_reducible refine below_drewN ?_ _) | (with_reducible refine Below.drew ?_) | (with_reducible refine Below.setCell ?_ ?_ _) | omega | (simp; done) | (simp; omega))))) hb1 (by (focus (first | omega | (simp only [World.size_alloc]; done) | (simp only [World.size_alloc]; omega) | (simp; done) | (simp; omega))))
  have hQ1 : Below (w.heap.size + 1) (w.alloc (.cells #[.int .i64 k, .int .u16 s, .int .u32 m, .slice A n cap] 27)) w1 := hb1.mono (by (focus (first | omega | (simp only [World.size_alloc]; done) | (simp only [World.size_alloc]; omega) | (simp; done) | (simp; omega))))
  have hZ1 : w.heap.size < w1.heap.size := by have := hb1.size; simp at this; omega
  have hk1 := keep_at hQ1 w.heap.size (by omega)
  clear hb1
  go_wp2_with fail
  refine (valid_any _ _ _ _ _ _ _).mono ?_
  rintro e w2 ⟨rfl, hb2⟩
  have hB2 : Below w.heap.size w w2 := below_call hB1 hb2 hB1.size
  have hZ2 : w.heap.size < w2.heap.size := by have := hb2.size; omega
  have hk2 := keep_at hb2 w.heap.size hZ1
  have ho2 := ho1.below hb2
  clear ho1
  go_wp2_with fail
  refine (reads_any _ _ _ bts k s m _ _ _ xs 0 _ ho2.reads HL1.out (HX.out _ hB2)).mono ?_
  rintro e w3 ⟨rfl, hb3⟩
  have ho3 := ho2.below hb3
  have hB3 : Below w.heap.size w w3 := below_call hB2 hb3 hB2.size
  have hZ3 : w.heap.size < w3.heap.size := by have := hb3.size; omega
  clear ho2
  go_wp2_with fail
  refine (HR.out _ hB3).mono ?_
  rintro e w4 ⟨A4, n4, c4, rfl, ho4, hb4⟩
  obtain rfl : r.d.length = n4 := ho4.length
  have hB4 : Below w.heap.size w w4 := below_call hB3 hb4 hB3.size
  have hZ4 := hB4.size
  have ho5 := ho3.below hb4
  clear ho3
  have HRD := Lib.hid ho4.reads
  have HRA := Lib.hid ho4.2.2
  clear ho4
  go_wp2_with fail
  refine (valid_any _ _ _ _ _ _ _).mono ?_
  rintro e w5 ⟨rfl, hb5⟩
  have hB5 : Below w.heap.size w w5 := below_call (by (focus (repeat' (first | (with_reducible exact Below.refl _ _) | (with_reducible assumption) | (with_reducible refine Below.alloc ?_ ?_ _) | (with_reducible refine below_drewN ?_ _) | (with_reducible refine Below.drew ?_) | (with_reducible refine Below.setCell ?_ ?_ _) | omega | (simp; done) | (simp; omega))))) hb5 (by (focus (first | omega | (simp only [World.size_alloc]; done) | (simp only [World.size_alloc]; omega) | (simp; done) | (simp; omega))))
  have hk5 := keep_at hb5 w4.heap.size (by (focus (first | omega | (simp only [World.size_alloc]; done) | (simp only [World.size_alloc]; omega) | (simp; done) | (simp; omega))))
  have hZ5 : w4.heap.size < w5.heap.size := by have := hb5.size; simp at this; omega
  have ho6 := (ho5.alloc (.cells #[.int .i64 r.k, .int .u16 r.s, .int .u32 r.m, .slice A4 r.d.length c4] 27)).below hb5
  clear ho5
  go_wp2_with fail
  refine (writes_any r.k r.s r.m A4 r.d.length c4 r.d _ _ _ ys 0 _ ((HRD.out.alloc _).below hb5) HRA.out (.inl (by omega)) y3 y4 (HY.out _ hB5)).mono ?_
  rintro e w6 ⟨rfl, hb6⟩
  have hB6 : Below w.heap.size w w6 := below_call hB5 hb6 hB5.size
  have hZ6 := hB6.size
  have ho7 := ho6.below hb6
  clear ho6
  have hpos : 0 < n1 := by have := ho7.length; have := HLEN.out; omega
  obtain ⟨g, rfl, hg1, hg2⟩ := ho7.head hpos
  have h0 : 0 ≤ which % (n1 : Int) := Int.emod_nonneg _ (by omega)
  have h1 : which % (n1 : Int) < n1 := Int.emod_lt_of_pos _ (by omega)
  obtain ⟨j, hj⟩ : ∃ j : Nat, which % (n1 : Int) = j := ⟨(which % (n1 : Int)).toNat, by omega⟩
  have hjn : j < n1 := by omega
  have hjn' : (j : Int) < n1 := by omega
  have hne : ((n1 : Int) == 0) = false := by simp; omega
  obtain ⟨q1, q2, q3, q4⟩ := ho7.cellAt hjn
  clear h0 h1
  have x4 := HSET.out j (by rw [ho7.length]; exact hjn)
  generalize hzs : bts.set j ((nth bts j + by_) % 256) = zs at x4
  have HS := Lib.hid (ho7.stored ((nth bts j + by_) % 256) hjn (by omega))
  rw [hzs] at HS
  have hgb : w.heap.size ≤ g := by simp at hg1; omega
  have HBS := hB6.setCell (p := ⟨g, j, none⟩) hgb (.int .u8 ((nth bts j + by_) % 256))
  clear hzs HSET
  go_wp2_with fail
  refine (reads_changed _ _ _ zs _ (HS.out.reads) HL1.out x4).mono ?_
  rintro e w8 ⟨rfl, hb8⟩
  have hB8 : Below w.heap.size w w8 := below_call (by (focus (repeat' (first | (with_reducible exact Below.refl _ _) | (with_reducible assumption) | (with_reducible refine Below.alloc ?_ ?_ _) | (with_reducible refine below_drewN ?_ _) | (with_reducible refine Below.drew ?_) | (with_reducible refine Below.setCell ?_ ?_ _) | omega | (simp; done) | (simp; omega))))) hb8 (by have := HBS.size; (focus (first | omega | (simp only [World.size_alloc]; done) | (simp only [World.size_alloc]; omega) | (simp; done) | (simp; omega))))
  have hZ8 := hB8.size
  go_wp2_with fail
  refine (known_any _).mono ?_
  rintro e w9 ⟨rfl, hb9⟩
  have hB9 : Below w.heap.size w w9 := below_call (by (focus (repeat' (first | (with_reducible exact Below.refl _ _) | (with_reducible assumption) | (with_reducible refine Below.alloc ?_ ?_ _) | (with_reducible refine below_drewN ?_ _) | (with_reducible refine Below.drew ?_) | (with_reducible refine Below.setCell ?_ ?_ _) | omega | (simp; done) | (simp; omega))))) hb9 (by (focus (first | omega | (simp only [World.size_alloc]; done) | (simp only [World.size_alloc]; omega) | (simp; done) | (simp; omega))))
  go_wp2
  go_ret
  exact ⟨rfl, hB9⟩

theorem walk (k s m : Int) (A : Option Addr) (n cap : Nat) (xs : List Int) (B : Option Addr) (n2 cap2 : Nat) (ys : List Int) (which by_ : Int) (w : World) (fw : (Lit.int .u16 which).wf = true) (fb : (Lit.int .u8 by_).wf = true) (hx : BReads w A n xs) (hA : A = none → cap = 0) (bs : 0 ≤ s ∧ s ≤ 65535) (bm : 0 ≤ m ∧ m ≤ 4294967295) (hy : BReads w B n2 ys) (hc2 : n2 ≤ cap2) :
    Calls Try.prog 7 #[.agg #[.int .i64 k, .int .u16 s, .int .u32 m, .slice A n cap], .slice B n2 cap2, .int .u16 which, .int .u8 by_] w fun e w' => e = .returned (.bool true) ∧ Below w.heap.size w w' := by
  have bw : 0 ≤ which ∧ which ≤ 65535 := by simpa [Lit.wf, IntKind.min, IntKind.max, IntKind.signed, IntKind.bits] using fw
  have bb : 0 ≤ by_ ∧ by_ ≤ 255 := by simpa [Lit.wf, IntKind.min, IntKind.max, IntKind.signed, IntKind.bits] using fb
  by_cases hn : n ≤ 600
  · by_cases hn2 : n2 ≤ 600
    · cases hv : validB k s m n <;> cases her : ((rd ys).er == 0)
      · exact walk_no_bad_none k s m A n cap xs B n2 cap2 ys which by_ w hx hA bs bm hy hc2 hn hn2 bw bb hv her
      · exact walk_no_read_none k s m A n cap xs B n2 cap2 ys which by_ w hx hA bs bm hy hc2 hn hn2 bw bb hv her
      · cases hby : (by_ == 0)
        · exact walk_yes_bad_by k s m A n cap xs B n2 cap2 ys which by_ w hx hA bs bm hy hc2 hn hn2 bw bb hv her hby
        · exact walk_yes_bad_none k s m A n cap xs B n2 cap2 ys which by_ w hx hA bs bm hy hc2 hn hn2 bw bb hv her hby
      · cases hby : (by_ == 0)
        · exact walk_yes_read_by k s m A n cap xs B n2 cap2 ys which by_ w hx hA bs bm hy hc2 hn hn2 bw bb hv her hby
        · exact walk_yes_read_none k s m A n cap xs B n2 cap2 ys which by_ w hx hA bs bm hy hc2 hn hn2 bw bb hv her hby
    · go_enter Try.func7, Try.ntmps7
      go_wp2_with fail
      refine (known_any _).mono ?_
      rintro e w9 ⟨rfl, hb9⟩
      have hB9 : Below w.heap.size w w9 := below_call (by (focus (repeat' (first | (with_reducible exact Below.refl _ _) | (with_reducible assumption) | (with_reducible refine Below.alloc ?_ ?_ _) | (with_reducible refine below_drewN ?_ _) | (with_reducible refine Below.drew ?_) | (with_reducible refine Below.setCell ?_ ?_ _) | omega | (simp; done) | (simp; omega))))) hb9 (by (focus (first | omega | (simp only [World.size_alloc]; done) | (simp only [World.size_alloc]; omega) | (simp; done) | (simp; omega))))
      go_wp2
      go_ret
      exact ⟨rfl, hB9⟩
  · go_enter Try.func7, Try.ntmps7
    go_wp2_with fail
    refine (known_any _).mono ?_
    rintro e w9 ⟨rfl, hb9⟩
    have hB9 : Below w.heap.size w w9 := below_call (by (focus (repeat' (first | (with_reducible exact Below.refl _ _) | (with_reducible assumption) | (with_reducible refine Below.alloc ?_ ?_ _) | (with_reducible refine below_drewN ?_ _) | (with_reducible refine Below.drew ?_) | (with_reducible refine Below.setCell ?_ ?_ _) | omega | (simp; done) | (simp; omega))))) hb9 (by (focus (first | omega | (simp only [World.size_alloc]; done) | (simp only [World.size_alloc]; omega) | (simp; done) | (simp; omega))))
    go_wp2
    go_ret
    exact ⟨rfl, hB9⟩

theorem own : ownKnob Try.prog.godebug = none := by kernel_rfl
theorem laidOut : laidOutB Try.prog = true := by kernel_rfl

set_option maxRecDepth 100000 in
theorem lifted (os : Os) (started : os.Started) (H : Type) (enc : TypeId × Value → H) :
    ReturnsInHanded {} Try.checked os 7 .any (Rows.frameHoldsSpec.pre6 enc Try.prog Try.f7 Rows.frameHoldsRow.domain false) (Rows.frameHoldsSpec.post enc Try.prog Try.f7 false true false false) := by
  refine returnsInHanded_of_change (C := Try.checked) own started (by kernel_rfl) Try.func7
    (ChangeSpec.witness6 (enc := enc) (C := Try.checked) false ⟨#[], #[.agg #[.int .i64 0, .int .u16 0, .int .u32 0, .slice none 0 0], .slice none 0 0, .int .u16 0, .int .u8 0], []⟩ 8 (by kernel_rfl) (by kernel_rfl) (by kernel_rfl) (by kernel_rfl)) ?_
  intro W base args ds gs before hval0 hW hcnd _
  have hval : ∀ (j : Nat) t v, Try.f7.params[j]? = some t → args[j]? = some v → Value.okWide Try.prog W .any base t v := hval0
  have hW' := hW
  obtain ⟨p, q, hA0, hV, rfl, hfz, hnd⟩ := hW
  have hA : DataW.TrodAll enc Try.prog W 0 (fun _ => true) true Try.f7.params.toList args.toList ds p := hA0
  rw [Try.params7] at hA hval
  obtain ⟨v0, vs0, d0, ds0, p0, q0, hargs, rfl, rfl, h0, r0⟩ := trodAll_cons hA
  obtain ⟨v1, vs1, d1, ds1, p1, q1, rfl, rfl, rfl, h1, r1⟩ := trodAll_cons r0
  obtain ⟨v2, vs2, d2, ds2, p2, q2, rfl, rfl, rfl, h2, r2⟩ := trodAll_cons r1
  obtain ⟨v3, vs3, d3, ds3, p3, q3, rfl, rfl, rfl, h3, r3⟩ := trodAll_cons r2
  obtain ⟨rfl, rfl, rfl⟩ := trodAll_nil r3
  obtain rfl : args = #[v0, v1, v2, v3] := by cases args; simp_all
  obtain ⟨rfl, rfl⟩ := trodVars_none hV
  have k0 := h0
  have lt0 : ∀ x ∈ p0, x.block < W.heap.size := by obtain ⟨m, hm⟩ := k0; exact DataW.trod_lt m _ _ _ hm
  have k1 := h1
  have lt1 : ∀ x ∈ p1, x.block < W.heap.size := by obtain ⟨m, hm⟩ := k1; exact DataW.trod_lt m _ _ _ hm
  have k2 := h2
  have lt2 : ∀ x ∈ p2, x.block < W.heap.size := by obtain ⟨m, hm⟩ := k2; exact DataW.trod_lt m _ _ _ hm
  have k3 := h3
  have lt3 : ∀ x ∈ p3, x.block < W.heap.size := by obtain ⟨m, hm⟩ := k3; exact DataW.trod_lt m _ _ _ hm
  obtain ⟨fk0, fs0, fm0, fa0, fl0, fc0, fz0, rfl, fb0, fB0, fw0, fi0, fn0, fx0⟩ := open_frame (hval 0 27 v0 rfl rfl) h0
  obtain ⟨a1, len1, cap1, rfl⟩ := okWide_slice Try.underlying25 (hval 1 25 v1 rfl rfl)
  obtain ⟨z1, wz1, wc1, wn1, wm1⟩ := open_bytes h1
  obtain ⟨a2, rfl, rfl, rfl, w2⟩ := open_int Try.underlying23 (hval 2 23 v2 rfl rfl) h2
  obtain ⟨a3, rfl, rfl, rfl, w3⟩ := open_int Try.underlying5 (hval 3 5 v3 rfl rfl) h3
  clear hA0 hval0
  refine (walk fk0 fs0 fm0 fa0 fl0 fc0 _ a1 len1 cap1 _ a2 a3 W w2 w3 fw0 fn0 fb0 fB0 wz1 wc1).mono fun e W' ⟨he, bel⟩ => ?_
  subst he
  exact ⟨_, rfl, _, _, _, [], _, [], hW', trodAll_mk1 (shut_bool Try.underlying4 _), (trodAll_cons_mk (Below.trod laidOut (by kernel_rfl) (of_decide_eq_true (by kernel_rfl)) k0 bel lt0) (trodAll_cons_mk (Below.trod laidOut (by kernel_rfl) (of_decide_eq_true (by kernel_rfl)) k1 bel lt1) (trodAll_cons_mk (Below.trod laidOut (by kernel_rfl) (of_decide_eq_true (by kernel_rfl)) k2 bel lt2) (trodAll_cons_mk (Below.trod laidOut (by kernel_rfl) (of_decide_eq_true (by kernel_rfl)) k3 bel lt3) trodAll_mk0)))), rfl, bel.frame _, fun h => by cases h⟩

theorem over : Rows.frameHoldsRow.holds Try.pinned (OpenSpec.ofChange Rows.frameHoldsSpec) :=
  OpenClaim.holds_of_wide 7 Try.f7 rfl rfl rfl rfl rfl rfl rfl ⟨rfl, rfl, rfl, rfl, rfl⟩ rfl rfl rfl rfl rfl (by kernel_rfl) Try.func7 (by kernel_rfl)
    (of_decide_eq_true (by kernel_rfl)) (by unfold Func.isWrapper; first | (rw [if_pos (by decide +kernel)]; kernel_rfl) | (rw [if_neg (by decide +kernel)]; exact ⟨rfl, rfl⟩))
    (fun os started H enc _ => lifted os started H enc)

/-- The statement. -/
theorem proved : Rows.FrameHoldsSaid := over

end Go.Proofs.Ytbcleifhadkecaa.frameHolds
