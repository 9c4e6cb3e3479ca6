/-
  FrameLongs: for every number and every bool the statement FrameLongs answers true; no condition.
-/
import Derived.Test.YtbcleifhadkecaaKnown
import Derived.Test.YtbcleifhadkecaaOpen
import Derived.Test.YtbcleifhadkecaaOnly
import Derived.Test.YtbcleifhadkecaaPlain
import Derived.ProofKit
import Derived.OpenShut
import Derived.ShutString
import Derived.ChangeOld
import Derived.Below
import Derived.Lib.SmallJoins
set_option linter.unusedSimpArgs false
set_option linter.unusedVariables false
namespace Go.Proofs.Ytbcleifhadkecaa.frameLongs
open Go.Joins Go.ChangeShapes Go.WideShapes Go.ChangeAt Go.RowKit
open Go.ChangeMaps (open_string shut_string)


theorem valid_view (n : Nat) : validB 11 65535 0 n = decide (n ≤ 65535) := by
  simp [validB, isB, seqB, numB, leastI, mostI]
  omega
theorem length_view (n : Nat) : (wr 11 65535 0 (List.replicate n 0)).length = n + 4 := by
  rw [wr_length, List.length_replicate, if_pos (by decide), if_neg (by decide)]
  omega
theorem rd_view (n : Nat) (h : n + 4 ≤ 65541) : rd (wr 11 65535 0 (List.replicate n 0)) = if n ≤ 65535 then ⟨0, 11, 65535, 0, List.replicate n 0⟩ else rdNo 6 := by
  rw [rd_wr 11 65535 0 (List.replicate n 0) (by decide) (by decide) (by decide) (by decide) (by decide) (by rw [length_view]; omega), List.length_replicate, valid_view]
  simp

set_option maxRecDepth 100000 in
set_option maxHeartbeats 1600000 in
theorem view_ok (less : Int) (n : Nat) (w : World) (hn : 65535 - less = n) (h1 : 0 ≤ less) (h2 : less ≤ 3) : Calls Try.prog 6 #[.int .i64 less, .bool false] w fun e w' => e = .returned (.bool true) ∧ Below w.heap.size w w' := by
  have hv : validB 11 65535 0 n = true := by rw [valid_view]; simp; omega
  have x1 : writesB 11 65535 0 n (List.replicate n 0) (wr 11 65535 0 (List.replicate n 0)) 0 = true := by simp [writesB, wrB, wrE, hv]
  have x2 : readsB (rd (wr 11 65535 0 (List.replicate n 0))) 11 65535 0 (List.replicate n 0) 0 = true := by
    rw [rd_view n (by omega), if_pos (by omega)]
    simp [readsB, eqB]
  have HB := Lib.hid (show n ≤ 65538 by omega)
  have HN := Lib.hid hn
  have HLEN : Hid (∀ n2, (wr 11 65535 0 (List.replicate n 0)).length = n2 → True) := fun _ _ => trivial
  have HRW : Hid (∀ (A : Option Addr) (W : World), BReads W A n (List.replicate n 0) → (A = none → n = 0) → Calls Try.prog 13 #[.agg #[.int .i64 11, .int .u16 65535, .int .u32 0, .slice A n n]] W fun e w' => ∃ A' n' c', e = .returned (.slice A' n' c') ∧ BOwns w' W.heap.size 5 A' n' c' (wr 11 65535 0 (List.replicate n 0)) ∧ Below W.heap.size W w') :=
    fun A W h hA => rwrite_any 11 65535 0 A n n _ W h hA (by omega) (by decide) (by decide)
  clear hn
  go_enter Try.func6, Try.ntmps6
  go_wp2_with (first
    | (at_make; refine make_bytes_full _ rfl _ _ 25 rfl w.heap.size 5 Try.info5 Try.underlying25 _ _ _ _ n rfl rfl ?_ ?_ ?_ ?_ ?_; exact HN.out; exact HN.out; (have := HB.out; omega); (focus (first | omega | (simp only [World.size_alloc]; done) | (simp only [World.size_alloc]; omega) | (simp; done) | (simp; omega))); intro w1 ho1 hb1; have hZ1 := hb1.size)
    | fail)
  refine (HRW.out _ _ (BOwns.reads (base := w.heap.size) (e := 5) (cap := n) (by (focus (repeat' (first | (with_reducible assumption) | (with_reducible refine BOwns.setBelow ?_ ?_ _) | (with_reducible refine BOwns.alloc ?_ _) | (with_reducible refine BOwns.drew ?_) | omega | (simp; done) | (simp; omega)))))) (fun h => by cases h)).mono ?_
  rintro e w2 ⟨A2, n2, c2, rfl, ho2, hb2⟩
  have hB2 : Below w.heap.size w w2 := below_call (by (focus (repeat' (first | (with_reducible exact Below.refl _ _) | (with_reducible assumption) | (with_reducible refine Below.alloc ?_ ?_ _) | (with_reducible refine below_drewN ?_ _) | (with_reducible refine Below.drew ?_) | (with_reducible refine Below.setCell ?_ ?_ _) | omega | (simp; done) | (simp; omega))))) hb2 (by (focus (first | omega | (simp only [World.size_alloc]; done) | (simp only [World.size_alloc]; omega) | (simp; done) | (simp; omega))))
  have hZ2 : w1.heap.size < w2.heap.size := by have := hb2.size; simp at this; omega
  have hk2 := keep_at hb2 w1.heap.size (by (focus (first | omega | (simp only [World.size_alloc]; done) | (simp only [World.size_alloc]; omega) | (simp; done) | (simp; omega))))
  have HO1 := Lib.hid (BReads.below (BOwns.reads (base := w.heap.size) (e := 5) (cap := n) (n := n) (A := some ⟨w.heap.size, 0, none⟩) (xs := List.replicate n 0) (by (focus (repeat' (first | (with_reducible assumption) | (with_reducible refine BOwns.setBelow ?_ ?_ _) | (with_reducible refine BOwns.alloc ?_ _) | (with_reducible refine BOwns.drew ?_) | omega | (simp; done) | (simp; omega)))))) hb2)
  have hlen := HLEN.out n2 ho2.length
  have HL := Lib.hid (own_cap ho2)
  have HO2 := Lib.hid ho2.reads
  clear ho1 ho2
  clear hlen
  go_wp2_with (first
    | (go_at_call 21; refine (valid_any _ _ _ _ _ _ _).mono ?_; rintro e w3 ⟨rfl, hb3⟩; have hB3 := below_call hB2 hb3 hB2.size; have hk3 := keep_at hb3 w1.heap.size (by omega); have hZ3 : w1.heap.size < w3.heap.size := (by have := hb3.size; omega))
    | (go_at_call 11; refine (writes_any 11 65535 0 _ n n (List.replicate n 0) _ _ _ (wr 11 65535 0 (List.replicate n 0)) 0 _ (HO1.out.below hb3) (fun h => by cases h) (.inl (by have := HB.out; omega)) (by decide) (by decide) (HO2.out.below hb3)).mono ?_; rintro e w4 ⟨rfl, hb4⟩; have hB4 := below_call hB3 hb4 hB3.size; have hk4 := keep_at hb4 w1.heap.size (by omega); have hZ4 : w1.heap.size < w4.heap.size := (by have := hb4.size; omega))
    | (go_at_call 15; refine (reads_any _ _ _ (wr 11 65535 0 (List.replicate n 0)) 11 65535 0 _ n n (List.replicate n 0) 0 _ ((HO2.out.below hb3).below hb4) HL.out ((HO1.out.below hb3).below hb4)).mono ?_; rintro e w5 ⟨rfl, hb5⟩; have hB5 := below_call hB4 hb5 hB4.size)
    | (go_at_call 9; refine (known_any _).mono ?_; rintro e w6 ⟨rfl, hb6⟩; have hB6 := below_call hB5 hb6 hB5.size))
  go_ret
  exact ⟨rfl, hB6⟩

set_option maxRecDepth 100000 in
set_option maxHeartbeats 1600000 in
theorem view_format (less : Int) (n : Nat) (w : World) (hn : 65535 - less = n) (h1 : -3 ≤ less) (h2 : less < 0) (h3 : n + 4 ≤ 65541) : Calls Try.prog 6 #[.int .i64 less, .bool false] w fun e w' => e = .returned (.bool true) ∧ Below w.heap.size w w' := by
  have hv : validB 11 65535 0 n = false := by rw [valid_view]; simp; omega
  have x1 : writesB 11 65535 0 n (List.replicate n 0) [] 2 = true := by simp [writesB, wrB, wrE, hv]
  have x2 : readsB (rd (wr 11 65535 0 (List.replicate n 0))) 0 0 0 [] 6 = true := by
    rw [rd_view n h3, if_neg (by omega)]
    rfl
  have HB := Lib.hid (show n ≤ 65538 by omega)
  have HN := Lib.hid hn
  have HLEN : Hid (∀ n2, (wr 11 65535 0 (List.replicate n 0)).length = n2 → ¬ (65541 : Int) < n2) := fun n2 h => by rw [length_view] at h; omega
  have HRW : Hid (∀ (A : Option Addr) (W : World), BReads W A n (List.replicate n 0) → (A = none → n = 0) → Calls Try.prog 13 #[.agg #[.int .i64 11, .int .u16 65535, .int .u32 0, .slice A n n]] W fun e w' => ∃ A' n' c', e = .returned (.slice A' n' c') ∧ BOwns w' W.heap.size 5 A' n' c' (wr 11 65535 0 (List.replicate n 0)) ∧ Below W.heap.size W w') :=
    fun A W h hA => rwrite_any 11 65535 0 A n n _ W h hA (by omega) (by decide) (by decide)
  clear hn h3
  go_enter Try.func6, Try.ntmps6
  go_wp2_with (first
    | (at_make; refine make_bytes_full _ rfl _ _ 25 rfl w.heap.size 5 Try.info5 Try.underlying25 _ _ _ _ n rfl rfl ?_ ?_ ?_ ?_ ?_; exact HN.out; exact HN.out; (have := HB.out; omega); (focus (first | omega | (simp only [World.size_alloc]; done) | (simp only [World.size_alloc]; omega) | (simp; done) | (simp; omega))); intro w1 ho1 hb1; have hZ1 := hb1.size)
    | fail)
  refine (HRW.out _ _ (BOwns.reads (base := w.heap.size) (e := 5) (cap := n) (by (focus (repeat' (first | (with_reducible assumption) | (with_reducible refine BOwns.setBelow ?_ ?_ _) | (with_reducible refine BOwns.alloc ?_ _) | (with_reducible refine BOwns.drew ?_) | omega | (simp; done) | (simp; omega)))))) (fun h => by cases h)).mono ?_
  rintro e w2 ⟨A2, n2, c2, rfl, ho2, hb2⟩
  have hB2 : Below w.heap.size w w2 := below_call (by (focus (repeat' (first | (with_reducible exact Below.refl _ _) | (with_reducible assumption) | (with_reducible refine Below.alloc ?_ ?_ _) | (with_reducible refine below_drewN ?_ _) | (with_reducible refine Below.drew ?_) | (with_reducible refine Below.setCell ?_ ?_ _) | omega | (simp; done) | (simp; omega))))) hb2 (by (focus (first | omega | (simp only [World.size_alloc]; done) | (simp only [World.size_alloc]; omega) | (simp; done) | (simp; omega))))
  have hZ2 : w1.heap.size < w2.heap.size := by have := hb2.size; simp at this; omega
  have hk2 := keep_at hb2 w1.heap.size (by (focus (first | omega | (simp only [World.size_alloc]; done) | (simp only [World.size_alloc]; omega) | (simp; done) | (simp; omega))))
  have HO1 := Lib.hid (BReads.below (BOwns.reads (base := w.heap.size) (e := 5) (cap := n) (n := n) (A := some ⟨w.heap.size, 0, none⟩) (xs := List.replicate n 0) (by (focus (repeat' (first | (with_reducible assumption) | (with_reducible refine BOwns.setBelow ?_ ?_ _) | (with_reducible refine BOwns.alloc ?_ _) | (with_reducible refine BOwns.drew ?_) | omega | (simp; done) | (simp; omega)))))) hb2)
  have hlen := HLEN.out n2 ho2.length
  have HL := Lib.hid (own_cap ho2)
  have HO2 := Lib.hid ho2.reads
  clear ho1 ho2
  go_wp2_with (first
    | (go_at_call 21; refine (valid_any _ _ _ _ _ _ _).mono ?_; rintro e w3 ⟨rfl, hb3⟩; have hB3 := below_call hB2 hb3 hB2.size; have hk3 := keep_at hb3 w1.heap.size (by omega); have hZ3 : w1.heap.size < w3.heap.size := (by have := hb3.size; omega))
    | (go_at_call 11; refine (writes_any 11 65535 0 _ n n (List.replicate n 0) none 0 0 [] 2 _ (HO1.out.below hb3) (fun h => by cases h) (.inl (by have := HB.out; omega)) (by decide) (by decide) (nil_reads _)).mono ?_; rintro e w4 ⟨rfl, hb4⟩; have hB4 := below_call hB3 hb4 hB3.size; have hk4 := keep_at hb4 w1.heap.size (by omega); have hZ4 : w1.heap.size < w4.heap.size := (by have := hb4.size; omega))
    | (go_at_call 15; refine (reads_any _ _ _ (wr 11 65535 0 (List.replicate n 0)) 0 0 0 none 0 0 [] 6 _ ((HO2.out.below hb3).below hb4) HL.out (nil_reads _)).mono ?_; rintro e w5 ⟨rfl, hb5⟩; have hB5 := below_call hB4 hb5 hB4.size)
    | (go_at_call 9; refine (known_any _).mono ?_; rintro e w6 ⟨rfl, hb6⟩; have hB6 := below_call hB5 hb6 hB5.size))
  go_ret
  exact ⟨rfl, hB6⟩

set_option maxRecDepth 100000 in
set_option maxHeartbeats 1600000 in
theorem view_long (less : Int) (n : Nat) (w : World) (hn : 65535 - less = n) (h1 : -3 ≤ less) (h2 : less < 0) (h3 : 65541 < n + 4) : Calls Try.prog 6 #[.int .i64 less, .bool false] w fun e w' => e = .returned (.bool true) ∧ Below w.heap.size w w' := by
  have hv : validB 11 65535 0 n = false := by rw [valid_view]; simp; omega
  have x1 : writesB 11 65535 0 n (List.replicate n 0) [] 2 = true := by simp [writesB, wrB, wrE, hv]
  have x2 : readsB (rd (wr 11 65535 0 (List.replicate n 0))) 0 0 0 [] 5 = true := by
    unfold rd
    rw [if_pos (by rw [length_view]; exact h3)]
    rfl
  have HB := Lib.hid (show n ≤ 65538 by omega)
  have HN := Lib.hid hn
  have HLEN : Hid (∀ n2, (wr 11 65535 0 (List.replicate n 0)).length = n2 → (65541 : Int) < n2) := fun n2 h => by rw [length_view] at h; omega
  have HRW : Hid (∀ (A : Option Addr) (W : World), BReads W A n (List.replicate n 0) → (A = none → n = 0) → Calls Try.prog 13 #[.agg #[.int .i64 11, .int .u16 65535, .int .u32 0, .slice A n n]] W fun e w' => ∃ A' n' c', e = .returned (.slice A' n' c') ∧ BOwns w' W.heap.size 5 A' n' c' (wr 11 65535 0 (List.replicate n 0)) ∧ Below W.heap.size W w') :=
    fun A W h hA => rwrite_any 11 65535 0 A n n _ W h hA (by omega) (by decide) (by decide)
  clear hn h3
  go_enter Try.func6, Try.ntmps6
  go_wp2_with (first
    | (at_make; refine make_bytes_full _ rfl _ _ 25 rfl w.heap.size 5 Try.info5 Try.underlying25 _ _ _ _ n rfl rfl ?_ ?_ ?_ ?_ ?_; exact HN.out; exact HN.out; (have := HB.out; omega); (focus (first | omega | (simp only [World.size_alloc]; done) | (simp only [World.size_alloc]; omega) | (simp; done) | (simp; omega))); intro w1 ho1 hb1; have hZ1 := hb1.size)
    | fail)
  refine (HRW.out _ _ (BOwns.reads (base := w.heap.size) (e := 5) (cap := n) (by (focus (repeat' (first | (with_reducible assumption) | (with_reducible refine BOwns.setBelow ?_ ?_ _) | (with_reducible refine BOwns.alloc ?_ _) | (with_reducible refine BOwns.drew ?_) | omega | (simp; done) | (simp; omega)))))) (fun h => by cases h)).mono ?_
  rintro e w2 ⟨A2, n2, c2, rfl, ho2, hb2⟩
  have hB2 : Below w.heap.size w w2 := below_call (by (focus (repeat' (first | (with_reducible exact Below.refl _ _) | (with_reducible assumption) | (with_reducible refine Below.alloc ?_ ?_ _) | (with_reducible refine below_drewN ?_ _) | (with_reducible refine Below.drew ?_) | (with_reducible refine Below.setCell ?_ ?_ _) | omega | (simp; done) | (simp; omega))))) hb2 (by (focus (first | omega | (simp only [World.size_alloc]; done) | (simp only [World.size_alloc]; omega) | (simp; done) | (simp; omega))))
  have hZ2 : w1.heap.size < w2.heap.size := by have := hb2.size; simp at this; omega
  have hk2 := keep_at hb2 w1.heap.size (by (focus (first | omega | (simp only [World.size_alloc]; done) | (simp only [World.size_alloc]; omega) | (simp; done) | (simp; omega))))
  have HO1 := Lib.hid (BReads.below (BOwns.reads (base := w.heap.size) (e := 5) (cap := n) (n := n) (A := some ⟨w.heap.size, 0, none⟩) (xs := List.replicate n 0) (by (focus (repeat' (first | (with_reducible assumption) | (with_reducible refine BOwns.setBelow ?_ ?_ _) | (with_reducible refine BOwns.alloc ?_ _) | (with_reducible refine BOwns.drew ?_) | omega | (simp; done) | (simp; omega)))))) hb2)
  have hlen := HLEN.out n2 ho2.length
  have HL := Lib.hid (own_cap ho2)
  have HO2 := Lib.hid ho2.reads
  clear ho1 ho2
  go_wp2_with (first
    | (go_at_call 21; refine (valid_any _ _ _ _ _ _ _).mono ?_; rintro e w3 ⟨rfl, hb3⟩; have hB3 := below_call hB2 hb3 hB2.size; have hk3 := keep_at hb3 w1.heap.size (by omega); have hZ3 : w1.heap.size < w3.heap.size := (by have := hb3.size; omega))
    | (go_at_call 11; refine (writes_any 11 65535 0 _ n n (List.replicate n 0) none 0 0 [] 2 _ (HO1.out.below hb3) (fun h => by cases h) (.inl (by have := HB.out; omega)) (by decide) (by decide) (nil_reads _)).mono ?_; rintro e w4 ⟨rfl, hb4⟩; have hB4 := below_call hB3 hb4 hB3.size; have hk4 := keep_at hb4 w1.heap.size (by omega); have hZ4 : w1.heap.size < w4.heap.size := (by have := hb4.size; omega))
    | (go_at_call 15; refine (reads_any _ _ _ (wr 11 65535 0 (List.replicate n 0)) 0 0 0 none 0 0 [] 5 _ ((HO2.out.below hb3).below hb4) HL.out (nil_reads _)).mono ?_; rintro e w5 ⟨rfl, hb5⟩; have hB5 := below_call hB4 hb5 hB4.size)
    | (go_at_call 9; refine (known_any _).mono ?_; rintro e w6 ⟨rfl, hb6⟩; have hB6 := below_call hB5 hb6 hB5.size))
  go_ret
  exact ⟨rfl, hB6⟩

theorem valid_event (n : Nat) : validB 12 0 4294967295 n = decide (n ≤ 65535) := by
  simp [validB, isB, seqB, numB, leastI, mostI]
  omega
theorem length_event (n : Nat) : (wr 12 0 4294967295 (List.replicate n 0)).length = n + 6 := by
  rw [wr_length, List.length_replicate, if_neg (by decide), if_pos (by decide)]
  omega
theorem rd_event (n : Nat) (h : n + 6 ≤ 65541) : rd (wr 12 0 4294967295 (List.replicate n 0)) = if n ≤ 65535 then ⟨0, 12, 0, 4294967295, List.replicate n 0⟩ else rdNo 6 := by
  rw [rd_wr 12 0 4294967295 (List.replicate n 0) (by decide) (by decide) (by decide) (by decide) (by decide) (by rw [length_event]; omega), List.length_replicate, valid_event]
  simp

set_option maxRecDepth 100000 in
set_option maxHeartbeats 1600000 in
theorem event_ok (less : Int) (n : Nat) (w : World) (hn : 65535 - less = n) (h1 : 0 ≤ less) (h2 : less ≤ 3) : Calls Try.prog 6 #[.int .i64 less, .bool true] w fun e w' => e = .returned (.bool true) ∧ Below w.heap.size w w' := by
  have hv : validB 12 0 4294967295 n = true := by rw [valid_event]; simp; omega
  have x1 : writesB 12 0 4294967295 n (List.replicate n 0) (wr 12 0 4294967295 (List.replicate n 0)) 0 = true := by simp [writesB, wrB, wrE, hv]
  have x2 : readsB (rd (wr 12 0 4294967295 (List.replicate n 0))) 12 0 4294967295 (List.replicate n 0) 0 = true := by
    rw [rd_event n (by omega), if_pos (by omega)]
    simp [readsB, eqB]
  have HB := Lib.hid (show n ≤ 65538 by omega)
  have HN := Lib.hid hn
  have HLEN : Hid (∀ n2, (wr 12 0 4294967295 (List.replicate n 0)).length = n2 → True) := fun _ _ => trivial
  have HRW : Hid (∀ (A : Option Addr) (W : World), BReads W A n (List.replicate n 0) → (A = none → n = 0) → Calls Try.prog 13 #[.agg #[.int .i64 12, .int .u16 0, .int .u32 4294967295, .slice A n n]] W fun e w' => ∃ A' n' c', e = .returned (.slice A' n' c') ∧ BOwns w' W.heap.size 5 A' n' c' (wr 12 0 4294967295 (List.replicate n 0)) ∧ Below W.heap.size W w') :=
    fun A W h hA => rwrite_any 12 0 4294967295 A n n _ W h hA (by omega) (by decide) (by decide)
  clear hn
  go_enter Try.func6, Try.ntmps6
  go_wp2_with (first
    | (at_make; refine make_bytes_full _ rfl _ _ 25 rfl w.heap.size 5 Try.info5 Try.underlying25 _ _ _ _ n rfl rfl ?_ ?_ ?_ ?_ ?_; exact HN.out; exact HN.out; (have := HB.out; omega); (focus (first | omega | (simp only [World.size_alloc]; done) | (simp only [World.size_alloc]; omega) | (simp; done) | (simp; omega))); intro w1 ho1 hb1; have hZ1 := hb1.size)
    | fail)
  refine (HRW.out _ _ (BOwns.reads (base := w.heap.size) (e := 5) (cap := n) (by (focus (repeat' (first | (with_reducible assumption) | (with_reducible refine BOwns.setBelow ?_ ?_ _) | (with_reducible refine BOwns.alloc ?_ _) | (with_reducible refine BOwns.drew ?_) | omega | (simp; done) | (simp; omega)))))) (fun h => by cases h)).mono ?_
  rintro e w2 ⟨A2, n2, c2, rfl, ho2, hb2⟩
  have hB2 : Below w.heap.size w w2 := below_call (by (focus (repeat' (first | (with_reducible exact Below.refl _ _) | (with_reducible assumption) | (with_reducible refine Below.alloc ?_ ?_ _) | (with_reducible refine below_drewN ?_ _) | (with_reducible refine Below.drew ?_) | (with_reducible refine Below.setCell ?_ ?_ _) | omega | (simp; done) | (simp; omega))))) hb2 (by (focus (first | omega | (simp only [World.size_alloc]; done) | (simp only [World.size_alloc]; omega) | (simp; done) | (simp; omega))))
  have hZ2 : w1.heap.size < w2.heap.size := by have := hb2.size; simp at this; omega
  have hk2 := keep_at hb2 w1.heap.size (by (focus (first | omega | (simp only [World.size_alloc]; done) | (simp only [World.size_alloc]; omega) | (simp; done) | (simp; omega))))
  have HO1 := Lib.hid (BReads.below (BOwns.reads (base := w.heap.size) (e := 5) (cap := n) (n := n) (A := some ⟨w.heap.size, 0, none⟩) (xs := List.replicate n 0) (by (focus (repeat' (first | (with_reducible assumption) | (with_reducible refine BOwns.setBelow ?_ ?_ _) | (with_reducible refine BOwns.alloc ?_ _) | (with_reducible refine BOwns.drew ?_) | omega | (simp; done) | (simp; omega)))))) hb2)
  have hlen := HLEN.out n2 ho2.length
  have HL := Lib.hid (own_cap ho2)
  have HO2 := Lib.hid ho2.reads
  clear ho1 ho2
  clear hlen
  go_wp2_with (first
    | (go_at_call 21; refine (valid_any _ _ _ _ _ _ _).mono ?_; rintro e w3 ⟨rfl, hb3⟩; have hB3 := below_call hB2 hb3 hB2.size; have hk3 := keep_at hb3 w1.heap.size (by omega); have hZ3 : w1.heap.size < w3.heap.size := (by have := hb3.size; omega))
    | (go_at_call 11; refine (writes_any 12 0 4294967295 _ n n (List.replicate n 0) _ _ _ (wr 12 0 4294967295 (List.replicate n 0)) 0 _ (HO1.out.below hb3) (fun h => by cases h) (.inl (by have := HB.out; omega)) (by decide) (by decide) (HO2.out.below hb3)).mono ?_; rintro e w4 ⟨rfl, hb4⟩; have hB4 := below_call hB3 hb4 hB3.size; have hk4 := keep_at hb4 w1.heap.size (by omega); have hZ4 : w1.heap.size < w4.heap.size := (by have := hb4.size; omega))
    | (go_at_call 15; refine (reads_any _ _ _ (wr 12 0 4294967295 (List.replicate n 0)) 12 0 4294967295 _ n n (List.replicate n 0) 0 _ ((HO2.out.below hb3).below hb4) HL.out ((HO1.out.below hb3).below hb4)).mono ?_; rintro e w5 ⟨rfl, hb5⟩; have hB5 := below_call hB4 hb5 hB4.size)
    | (go_at_call 9; refine (known_any _).mono ?_; rintro e w6 ⟨rfl, hb6⟩; have hB6 := below_call hB5 hb6 hB5.size))
  go_ret
  exact ⟨rfl, hB6⟩

set_option maxRecDepth 100000 in
set_option maxHeartbeats 1600000 in
theorem event_long (less : Int) (n : Nat) (w : World) (hn : 65535 - less = n) (h1 : -3 ≤ less) (h2 : less < 0) (h3 : 65541 < n + 6) : Calls Try.prog 6 #[.int .i64 less, .bool true] w fun e w' => e = .returned (.bool true) ∧ Below w.heap.size w w' := by
  have hv : validB 12 0 4294967295 n = false := by rw [valid_event]; simp; omega
  have x1 : writesB 12 0 4294967295 n (List.replicate n 0) [] 2 = true := by simp [writesB, wrB, wrE, hv]
  have x2 : readsB (rd (wr 12 0 4294967295 (List.replicate n 0))) 0 0 0 [] 5 = true := by
    unfold rd
    rw [if_pos (by rw [length_event]; exact h3)]
    rfl
  have HB := Lib.hid (show n ≤ 65538 by omega)
  have HN := Lib.hid hn
  have HLEN : Hid (∀ n2, (wr 12 0 4294967295 (List.replicate n 0)).length = n2 → (65541 : Int) < n2) := fun n2 h => by rw [length_event] at h; omega
  have HRW : Hid (∀ (A : Option Addr) (W : World), BReads W A n (List.replicate n 0) → (A = none → n = 0) → Calls Try.prog 13 #[.agg #[.int .i64 12, .int .u16 0, .int .u32 4294967295, .slice A n n]] W fun e w' => ∃ A' n' c', e = .returned (.slice A' n' c') ∧ BOwns w' W.heap.size 5 A' n' c' (wr 12 0 4294967295 (List.replicate n 0)) ∧ Below W.heap.size W w') :=
    fun A W h hA => rwrite_any 12 0 4294967295 A n n _ W h hA (by omega) (by decide) (by decide)
  clear hn h3
  go_enter Try.func6, Try.ntmps6
  go_wp2_with (first
    | (at_make; refine make_bytes_full _ rfl _ _ 25 rfl w.heap.size 5 Try.info5 Try.underlying25 _ _ _ _ n rfl rfl ?_ ?_ ?_ ?_ ?_; exact HN.out; exact HN.out; (have := HB.out; omega); (focus (first | omega | (simp only [World.size_alloc]; done) | (simp only [World.size_alloc]; omega) | (simp; done) | (simp; omega))); intro w1 ho1 hb1; have hZ1 := hb1.size)
    | fail)
  refine (HRW.out _ _ (BOwns.reads (base := w.heap.size) (e := 5) (cap := n) (by (focus (repeat' (first | (with_reducible assumption) | (with_reducible refine BOwns.setBelow ?_ ?_ _) | (with_reducible refine BOwns.alloc ?_ _) | (with_reducible refine BOwns.drew ?_) | omega | (simp; done) | (simp; omega)))))) (fun h => by cases h)).mono ?_
  rintro e w2 ⟨A2, n2, c2, rfl, ho2, hb2⟩
  have hB2 : Below w.heap.size w w2 := below_call (by (focus (repeat' (first | (with_reducible exact Below.refl _ _) | (with_reducible assumption) | (with_reducible refine Below.alloc ?_ ?_ _) | (with_reducible refine below_drewN ?_ _) | (with_reducible refine Below.drew ?_) | (with_reducible refine Below.setCell ?_ ?_ _) | omega | (simp; done) | (simp; omega))))) hb2 (by (focus (first | omega | (simp only [World.size_alloc]; done) | (simp only [World.size_alloc]; omega) | (simp; done) | (simp; omega))))
  have hZ2 : w1.heap.size < w2.heap.size := by have := hb2.size; simp at this; omega
  have hk2 := keep_at hb2 w1.heap.size (by (focus (first | omega | (simp only [World.size_alloc]; done) | (simp only [World.size_alloc]; omega) | (simp; done) | (simp; omega))))
  have HO1 := Lib.hid (BReads.below (BOwns.reads (base := w.heap.size) (e := 5) (cap := n) (n := n) (A := some ⟨w.heap.size, 0, none⟩) (xs := List.replicate n 0) (by (focus (repeat' (first | (with_reducible assumption) | (with_reducible refine BOwns.setBelow ?_ ?_ _) | (with_reducible refine BOwns.alloc ?_ _) | (with_reducible refine BOwns.drew ?_) | omega | (simp; done) | (simp; omega)))))) hb2)
  have hlen := HLEN.out n2 ho2.length
  have HL := Lib.hid (own_cap ho2)
  have HO2 := Lib.hid ho2.reads
  clear ho1 ho2
  go_wp2_with (first
    | (go_at_call 21; refine (valid_any _ _ _ _ _ _ _).mono ?_; rintro e w3 ⟨rfl, hb3⟩; have hB3 := below_call hB2 hb3 hB2.size; have hk3 := keep_at hb3 w1.heap.size (by omega); have hZ3 : w1.heap.size < w3.heap.size := (by have := hb3.size; omega))
    | (go_at_call 11; refine (writes_any 12 0 4294967295 _ n n (List.replicate n 0) none 0 0 [] 2 _ (HO1.out.below hb3) (fun h => by cases h) (.inl (by have := HB.out; omega)) (by decide) (by decide) (nil_reads _)).mono ?_; rintro e w4 ⟨rfl, hb4⟩; have hB4 := below_call hB3 hb4 hB3.size; have hk4 := keep_at hb4 w1.heap.size (by omega); have hZ4 : w1.heap.size < w4.heap.size := (by have := hb4.size; omega))
    | (go_at_call 15; refine (reads_any _ _ _ (wr 12 0 4294967295 (List.replicate n 0)) 0 0 0 none 0 0 [] 5 _ ((HO2.out.below hb3).below hb4) HL.out (nil_reads _)).mono ?_; rintro e w5 ⟨rfl, hb5⟩; have hB5 := below_call hB4 hb5 hB4.size)
    | (go_at_call 9; refine (known_any _).mono ?_; rintro e w6 ⟨rfl, hb6⟩; have hB6 := below_call hB5 hb6 hB5.size))
  go_ret
  exact ⟨rfl, hB6⟩

set_option maxHeartbeats 400000 in
theorem walk_out (less : Int) (ev : Bool) (w : World) (h : less < -3 ∨ 3 < less) : Calls Try.prog 6 #[.int .i64 less, .bool ev] w fun e w' => e = .returned (.bool true) ∧ Below w.heap.size w w' := by
  rcases h with h | h
  all_goals
    go_enter Try.func6, Try.ntmps6
    go_wp2_with (go_at_call 9; refine (known_any _).mono ?_; rintro e w7 ⟨rfl, hb7⟩)
    go_ret
    exact ⟨rfl, hb7⟩

theorem walk (less : Int) (ev : Bool) (w : World) : Calls Try.prog 6 #[.int .i64 less, .bool ev] w fun e w' => e = .returned (.bool true) ∧ Below w.heap.size w w' := by
  by_cases h : less < -3 ∨ 3 < less
  · exact walk_out less ev w h
  obtain ⟨n, hn⟩ : ∃ n : Nat, 65535 - less = n := ⟨(65535 - less).toNat, by omega⟩
  by_cases h0 : 0 ≤ less
  · cases ev
    · exact view_ok less n w hn h0 (by omega)
    · exact event_ok less n w hn h0 (by omega)
  · cases ev
    · by_cases h3 : n + 4 ≤ 65541
      · exact view_format less n w hn (by omega) (by omega) h3
      · exact view_long less n w hn (by omega) (by omega) (by omega)
    · exact event_long less n w hn (by omega) (by omega) (by omega)

theorem own : ownKnob Try.prog.godebug = none := by kernel_rfl
theorem laidOut : laidOutB Try.prog = true := by kernel_rfl

set_option maxRecDepth 100000 in
theorem lifted (os : Os) (started : os.Started) (H : Type) (enc : TypeId × Value → H) :
    ReturnsInHanded {} Try.checked os 6 .any (Rows.frameLongsSpec.pre6 enc Try.prog Try.f6 Rows.frameLongsRow.domain false) (Rows.frameLongsSpec.post enc Try.prog Try.f6 false true false false) := by
  refine returnsInHanded_of_change (C := Try.checked) own started (by kernel_rfl) Try.func6
    (ChangeSpec.witness6 (enc := enc) (C := Try.checked) false ⟨#[], #[.int .i64 0, .bool false], []⟩ 8 (by kernel_rfl) (by kernel_rfl) (by kernel_rfl) (by kernel_rfl)) ?_
  intro W base args ds gs before hval0 hW hcnd _
  have hval : ∀ (j : Nat) t v, Try.f6.params[j]? = some t → args[j]? = some v → Value.okWide Try.prog W .any base t v := hval0
  have hW' := hW
  obtain ⟨p, q, hA0, hV, rfl, hfz, hnd⟩ := hW
  have hA : DataW.TrodAll enc Try.prog W 0 (fun _ => true) true Try.f6.params.toList args.toList ds p := hA0
  rw [Try.params6] at hA hval
  obtain ⟨v0, vs0, d0, ds0, p0, q0, hargs, rfl, rfl, h0, r0⟩ := trodAll_cons hA
  obtain ⟨v1, vs1, d1, ds1, p1, q1, rfl, rfl, rfl, h1, r1⟩ := trodAll_cons r0
  obtain ⟨rfl, rfl, rfl⟩ := trodAll_nil r1
  obtain rfl : args = #[v0, v1] := by cases args; simp_all
  obtain ⟨rfl, rfl⟩ := trodVars_none hV
  have k0 := h0
  have lt0 : ∀ x ∈ p0, x.block < W.heap.size := by obtain ⟨m, hm⟩ := k0; exact DataW.trod_lt m _ _ _ hm
  have k1 := h1
  have lt1 : ∀ x ∈ p1, x.block < W.heap.size := by obtain ⟨m, hm⟩ := k1; exact DataW.trod_lt m _ _ _ hm
  obtain ⟨a0, rfl, rfl, rfl, w0⟩ := open_int Try.underlying3 (hval 0 3 v0 rfl rfl) h0
  obtain ⟨a1, rfl, rfl, rfl⟩ := open_bool Try.underlying4 (hval 1 4 v1 rfl rfl) h1
  clear hA0 hval0
  refine (walk a0 a1 W).mono fun e W' ⟨he, bel⟩ => ?_
  subst he
  exact ⟨_, rfl, _, _, _, [], _, [], hW', trodAll_mk1 (shut_bool Try.underlying4 _), (trodAll_cons_mk (Below.trod laidOut (by kernel_rfl) (of_decide_eq_true (by kernel_rfl)) k0 bel lt0) (trodAll_cons_mk (Below.trod laidOut (by kernel_rfl) (of_decide_eq_true (by kernel_rfl)) k1 bel lt1) trodAll_mk0)), rfl, bel.frame _, fun h => by cases h⟩

theorem over : Rows.frameLongsRow.holds Try.pinned (OpenSpec.ofChange Rows.frameLongsSpec) :=
  OpenClaim.holds_of_wide 6 Try.f6 rfl rfl rfl rfl rfl rfl rfl ⟨rfl, rfl, rfl, rfl, rfl⟩ rfl rfl rfl rfl rfl (by kernel_rfl) Try.func6 (by kernel_rfl)
    (of_decide_eq_true (by kernel_rfl)) (by unfold Func.isWrapper; first | (rw [if_pos (by decide +kernel)]; kernel_rfl) | (rw [if_neg (by decide +kernel)]; exact ⟨rfl, rfl⟩))
    (fun os started H enc _ => lifted os started H enc)

/-- The statement. -/
theorem proved : Rows.FrameLongsSaid := over

end Go.Proofs.Ytbcleifhadkecaa.frameLongs
