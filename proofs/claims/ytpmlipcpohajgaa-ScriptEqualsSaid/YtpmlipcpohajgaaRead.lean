/-
  The reader of script: next, two, data.
-/
import Derived.Test.YtpmlipcpohajgaaOnly
import Derived.Laws.OwnMore
set_option linter.unusedSimpArgs false
set_option linter.unusedVariables false
namespace Go.Proofs.Ytpmlipcpohajgaa
open Go.RowKit

theorem Try.info5 : (Try.prog.info? 5).map (fun i => (i.zero, i.size, i.bytes)) = some (some (.int .u8 0), 1, 1) := by kernel_rfl

theorem nth_nil (k : Nat) : nth [] k = 0 := by simp [nth]
theorem nth_drop (xs : List Int) (j k : Nat) : nth (xs.drop j) k = nth xs (j + k) := by simp [nth, List.getD, List.getElem?_drop]
theorem nth_tail (xs : List Int) (k : Nat) : nth xs.tail k = nth xs (k + 1) := by rw [← List.drop_one, nth_drop, Nat.add_comm]
theorem nth_bd {xs : List Int} (h : IsBytes xs) (k : Nat) : 0 ≤ nth xs k ∧ nth xs k ≤ 255 := by
  unfold nth List.getD
  rcases hk : xs[k]? with _ | x
  · exact ⟨by decide, by decide⟩
  · exact h x (List.mem_of_getElem? hk)
theorem bytes_tail {xs : List Int} (h : IsBytes xs) : IsBytes xs.tail := fun x hx => h x (List.mem_of_mem_tail hx)
theorem bytes_drop {xs : List Int} (h : IsBytes xs) (k : Nat) : IsBytes (xs.drop k) := fun x hx => h x (List.mem_of_mem_drop hx)

theorem BReads.cut {w : World} {A : Option Addr} {n cap : Nat} {xs : List Int} (h : BReads w A n xs) {k : Nat} (hk : k ≤ n) (hc : n ≤ cap) :
    BReads w (if cap = k then A else A.map (·.add k)) (n - k) (xs.drop k) := by
  have := h.1.cut hk hc
  simp only [Nat.mul_one] at this
  exact ⟨by simpa [bys] using this, fun x hx => h.2 x (List.mem_of_mem_drop hx)⟩

/-- Block p holds a reader that has the bytes xs before it; all of it lies below block B. -/
def Rd (w : World) (B p : Nat) (xs : List Int) : Prop :=
  (p < B ∧ B ≤ w.heap.size) ∧ ∃ A n cap, w.cell? ⟨p, 0, none⟩ = some (.slice A n cap) ∧ w.frozen? ⟨p, 0, none⟩ = false ∧ BReads w A n xs ∧ n ≤ cap ∧ cap ≤ 9223372036854775807 ∧ (A = none → cap = 0) ∧ (0 < n → ∀ ad, A = some ad → ad.block ≠ p ∧ ad.block < B)
theorem Rd.lt {w : World} {B p : Nat} {xs : List Int} (h : Rd w B p xs) : p < w.heap.size := Nat.lt_of_lt_of_le h.1.1 h.1.2
theorem Rd.bytes {w : World} {B p : Nat} {xs : List Int} (h : Rd w B p xs) : IsBytes xs := by
  obtain ⟨_, A, n, cap, _, _, hr, _⟩ := h
  exact hr.2
theorem BReads.belowB {w w' : World} {A : Option Addr} {n B : Nat} {xs : List Int} (h : BReads w A n xs) (hA : 0 < n → ∀ ad, A = some ad → ad.block < B) (hb : Below B w w') (hB : B ≤ w.heap.size) : BReads w' A n xs :=
  ⟨⟨h.1.1, fun hn => by
    obtain ⟨ad, e, hbl, hc⟩ := h.1.2 hn
    exact ⟨ad, e, Nat.lt_of_lt_of_le hbl hb.size, fun j u hu => (hb.cell (by rw [block_of_add]; exact hA hn ad e)).trans (hc j u hu)⟩⟩, h.2⟩
theorem Rd.below {w w' : World} {B p : Nat} {xs : List Int} (h : Rd w B p xs) (hb : Below B w w') : Rd w' B p xs := by
  obtain ⟨⟨hp, hB⟩, A, n, cap, hc, hf, hr, h1, h2, h3, h4⟩ := h
  exact ⟨⟨hp, Nat.le_trans hB hb.size⟩, A, n, cap, (keep_at hb p hp 0).trans hc, (keepf_at hb p hp 0).trans hf, hr.belowB (fun hn ad e => (h4 hn ad e).2) hb hB, h1, h2, h3, h4⟩
theorem Rd.alloc {w : World} {B p : Nat} {xs : List Int} (h : Rd w B p xs) (o : Obj) : Rd (w.alloc o) B p xs := h.below ((Below.refl _ _).alloc h.1.2 _)
theorem Rd.drew {w : World} {B p : Nat} {xs : List Int} (h : Rd w B p xs) : Rd w.drew B p xs := h.below ((Below.refl _ _).drew)
theorem Rd.len_le {w : World} {B p : Nat} {xs : List Int} (h : Rd w B p xs) : xs.length ≤ 9223372036854775807 := by
  obtain ⟨_, A, n, cap, _, _, hr, h1, h2, _⟩ := h
  have := hr.length
  omega
/-- What makes memory from a block on that is not below the first one's blocks. -/
theorem only_then {a w w' : World} {row : Option Nat} {B : Nat} (h : a.grownBy w row) (hb : Below B w w') (hB : a.heap.size ≤ B) : a.grownBy w' row :=
  ⟨hb.os.trans h.os, hb.tape.trans h.tape, hb.output.trans h.output, Nat.le_trans h.size hb.size, fun i hi hne => (hb.block i (Nat.lt_of_lt_of_le hi hB)).trans (h.block i hi hne)⟩

theorem BReads.only0 {a w : World} {g : Nat} {A : Option Addr} {n : Nat} {xs : List Int} (h : BReads a A n xs) (ho : a.grownBy w (some g)) (hg : 0 < n → ∀ ad, A = some ad → ad.block ≠ g) : BReads w A n xs := by
  rcases Nat.eq_zero_or_pos n with h0 | h0
  · subst h0
    exact ⟨⟨h.1.1, fun hn => absurd hn (by omega)⟩, h.2⟩
  · exact h.only ho (hg h0)
theorem Rd.set_ {w : World} {B p : Nat} (hpB : p < B ∧ B ≤ w.heap.size) {A : Option Addr} {n cap : Nat} {ys : List Int} (hc : (w.cell? ⟨p, 0, none⟩).isSome = true) (hf : w.frozen? ⟨p, 0, none⟩ = false) (h : BReads w A n ys) (h1 : n ≤ cap) (h2 : cap ≤ 9223372036854775807)
    (h3 : A = none → cap = 0) (h4 : 0 < n → ∀ ad, A = some ad → ad.block ≠ p ∧ ad.block < B) : Rd (w.setCell ⟨p, 0, none⟩ (.slice A n cap)) B p ys :=
  ⟨⟨hpB.1, by simpa [World.setCell] using hpB.2⟩, A, n, cap, World.cell?_setCell_same' _ _ _ hc, by rw [World.frozen?_setCell]; exact hf, h.only0 (only_setCell (only_refl _ _) (.inl rfl) _) (fun hn ad e => (h4 hn ad e).1), h1, h2, h3, h4⟩

set_option maxHeartbeats 400000 in
theorem next_any (B p : Nat) (xs : List Int) (w : World) (h : Rd w B p xs) :
    Calls Try.prog 29 #[.pointer (some ⟨p, 0, none⟩)] w fun e w' => e = .returned (.int .i64 (nth xs 0)) ∧ Rd w' B p xs.tail ∧ w.grownBy w' (some p) := by
  obtain ⟨hpB, A, n, cap, hc, hf, hr, h1, h2, h3, h4⟩ := h
  have hl := hr.length
  by_cases hn : 0 < n
  · obtain ⟨ad, rfl, hca, hb0, hb1⟩ := hr.at_ hn
    have hca0 : w.cell? ad = some (.int .u8 (nth xs 0)) := by simpa [Addr.add] using hca
    have hR := Lib.hid (hr.cut (k := 1) hn h1)
    have HC := Lib.hid hc
    have H4 := Lib.hid (h4 hn)
    have HP := Lib.hid hpB
    clear hpB
    clear hr hl hca h3 h4
    go_enter Try.func29, Try.ntmps29
    go_wp2
    all_goals go_ret
    all_goals refine ⟨rfl, ?_, only_setCell (only_refl _ _) (.inl rfl) _⟩
    · have hr := hR.out
      rw [if_pos (by assumption), List.drop_one] at hr
      exact Rd.set_ HP.out (by rw [hc]; rfl) hf hr (by omega) (by omega) (fun h => by cases h) (fun _ => H4.out)
    · have hc1 : ¬ cap = 1 := by assumption
      have hr := hR.out
      rw [if_neg hc1, List.drop_one] at hr
      exact Rd.set_ HP.out (by rw [hc]; rfl) hf hr (by omega) (by omega) (fun h => by cases h) (fun _ ad' e => by injection e with e; subst e; exact H4.out ad rfl)
  · obtain rfl : n = 0 := by omega
    obtain rfl : xs = [] := List.eq_nil_of_length_eq_zero hl
    have HR := Lib.hid (show Rd w B p [] from ⟨hpB, A, 0, cap, hc, hf, hr, h1, h2, h3, h4⟩)
    clear hr hl h3 h4 hpB
    go_enter Try.func29, Try.ntmps29
    go_wp2
    go_ret
    exact ⟨rfl, HR.out, only_refl _ _⟩

set_option maxHeartbeats 400000 in
theorem two_any (B p : Nat) (xs : List Int) (w : World) (h : Rd w B p xs) :
    Calls Try.prog 30 #[.pointer (some ⟨p, 0, none⟩)] w fun e w' => e = .returned (.int .i64 (256 * nth xs 0 + nth xs 1)) ∧ Rd w' B p (xs.drop 2) ∧ w.grownBy w' (some p) := by
  have hb0 := nth_bd h.bytes 0
  have hb1 := nth_bd h.bytes 1
  have he : nth xs.tail 0 = nth xs 1 := nth_tail xs 0
  have hd : xs.tail.tail = xs.drop 2 := by rw [← List.drop_one, ← List.drop_one, List.drop_drop]
  have HE := Lib.hid he
  have HD := Lib.hid hd
  clear he hd
  go_enter Try.func30, Try.ntmps30
  go_wp2_with fail
  refine (next_any B p xs _ h).mono ?_
  rintro e w1 ⟨rfl, hR1, hg1⟩
  go_wp2_with fail
  refine (next_any B p _ _ hR1).mono ?_
  rintro e w2 ⟨rfl, hR2, hg2⟩
  rw [HE.out]
  rw [HD.out] at hR2
  go_wp2_with fail
  go_ret
  exact ⟨rfl, hR2, hg1.trans hg2⟩

/-- The first k bytes, 0 for those that are missing. -/
def takeZ (k : Nat) (xs : List Int) : List Int := (List.range k).map (nth xs)
theorem takeZ_succ (k : Nat) (xs : List Int) : takeZ (k + 1) xs = takeZ k xs ++ [nth xs k] := by simp [takeZ, List.range_succ]

set_option maxHeartbeats 400000 in
theorem data_any (B p : Nat) (xs : List Int) (w : World) (h : Rd w B p xs) :
    Calls Try.prog 31 #[.pointer (some ⟨p, 0, none⟩)] w fun e w' => ∃ A c, e = .returned (.slice A (nth xs 0).toNat c) ∧ BOwns w' w.heap.size 5 A (nth xs 0).toNat c (takeZ (nth xs 0).toNat xs.tail) ∧ Rd w' B p (xs.drop (1 + (nth xs 0).toNat)) ∧ w.grownBy w' (some p) := by
  have hb0 := nth_bd h.bytes 0
  have HT := Lib.hid (bytes_tail h.bytes)
  have hpw := h.lt
  have hBw := h.1.2
  obtain ⟨m, hm⟩ : ∃ m : Nat, nth xs 0 = (m : Int) := ⟨(nth xs 0).toNat, by omega⟩
  have hmb : m ≤ 255 := by omega
  rw [hm, Int.toNat_natCast]
  have HM := Lib.hid hm
  have HD : Hid (∀ j, xs.tail.drop j = xs.drop (1 + j)) := Lib.hid fun j => by rw [← List.drop_one, List.drop_drop]
  clear hm hb0
  go_enter Try.func31, Try.ntmps31
  go_wp2_with fail
  refine (next_any B p xs _ h).mono ?_
  rintro e w1 ⟨rfl, hR1, hg1⟩
  rw [HM.out]
  go_wp2_with fail
  have hz1 := hg1.size
  go_loopw [3, 6] (fun v i W => ∃ (k : Nat) (A : Option Addr) (c : Nat), k ≤ m ∧ i = .int .i64 k ∧ v = .slice A k c ∧ BOwns W w.heap.size 5 A k c (takeZ k xs.tail) ∧ Rd W B p (xs.tail.drop k) ∧ w.grownBy W (some p)) (fun _ i _ => m - (intOf i).toNat)
  case atStart => exact ⟨0, none, 0, Nat.zero_le _, rfl, rfl, BOwns.nil _ _ _, hR1, hg1⟩
  case round =>
    obtain ⟨k, A, c, hk, rfl, rfl, ho, hR, hg⟩ := hrel
    have hzr := hg.size
    by_cases hlt : k < m
    · have hx := nth_bd HT.out k
      have hnn : nth (xs.tail.drop k) 0 = nth xs.tail k := by rw [nth_drop, Nat.add_zero]
      have HN := Lib.hid hnn
      clear hnn
      go_wp2_with fail
      refine (next_any B p _ _ hR).mono ?_
      rintro e w2 ⟨rfl, hR2, hg2⟩
      rw [HN.out]
      have ho2 : BOwns w2 w.heap.size 5 A k c (takeZ k xs.tail) := ho.only hg2 hpw
      have hg2' := hg.trans hg2
      have hz2 := hg2'.size
      have hTS := Lib.hid (takeZ_succ k xs.tail)
      have HR2 : Hid (∀ W, Below w.heap.size w2 W → Rd W B p (xs.tail.drop (k + 1))) := Lib.hid fun W h => by
        have := hR2.below (h.mono hBw)
        rw [← List.drop_one, List.drop_drop] at this
        exact this
      have HG2 : Hid (∀ W, Below w.heap.size w2 W → w.grownBy W (some p)) := Lib.hid fun W h => only_then hg2' h (Nat.le_refl _)
      clear hR hg hR2 hg2 hg2' ho hg1 hR1 h
      generalize hx0 : nth xs.tail k = x at *
      clear hx0
      go_wp2_with (at_builtin; refine append_bytes _ rfl (.tmp 8) (.tmp 12) 22 rfl w.heap.size 5 Try.info5 Try.underlying22 A k c (takeZ k xs.tail) rfl (ho2.alloc _) (some ⟨w2.heap.size, 0, none⟩) 1 1 [x] rfl (fun h => by cases h) ?_ ?_ ?_ ?_; exact BReads.lit _ _ [x] _ _ (fun y hy => by simp at hy; omega) rfl rfl; omega; simp; omega; intro A2 c2 w3 ho3 hb3; have HR3 := HR2.out w3 (Below.trans (by (focus (repeat' (first | (with_reducible exact Below.refl _ _) | (with_reducible assumption) | (with_reducible refine Below.alloc ?_ ?_ _) | (with_reducible refine below_drewN ?_ _) | (with_reducible refine Below.drew ?_) | (with_reducible refine Below.setCell ?_ ?_ _) | omega | (simp; done) | (simp; omega))))) hb3); have HG3 := HG2.out w3 (Below.trans (by (focus (repeat' (first | (with_reducible exact Below.refl _ _) | (with_reducible assumption) | (with_reducible refine Below.alloc ?_ ?_ _) | (with_reducible refine below_drewN ?_ _) | (with_reducible refine Below.drew ?_) | (with_reducible refine Below.setCell ?_ ?_ _) | omega | (simp; done) | (simp; omega))))) hb3); rw [← hTS.out] at ho3)
      go_roundw
      case rel => exact ⟨k + 1, A2, c2, by omega, by go_num, rfl, ho3, HR3, HG3⟩
      case measure => simp [intOf]; omega
    · obtain rfl : k = m := by omega
      have HRR := Lib.hid hR
      have HDD := HD
      go_wp2_with fail
      go_ret
      rw [HDD.out] at hR
      exact ⟨A, c, rfl, ho, hR, hg⟩

end Go.Proofs.Ytpmlipcpohajgaa
