/-
  Texts: Cln.
-/
import Derived.Test.YtagpphelgghbpaaGreatHk11
/-
  slices.Clone at six types.
-/
set_option linter.unusedSimpArgs false
set_option linter.unusedVariables false
namespace Go.Proofs.YtagpphelgghbpaaGreat
open Go.RowKit

theorem tinfo_ints : (Tryz.prog.info? 3).map (fun i => (i.zero, i.size, i.bytes)) = some (some (.int .i64 0), 1, 8) := by kernel_rfl
theorem tinfo_blks : (Tryz.prog.info? 84).map (fun i => (i.zero, i.size, i.bytes)) = some (some (.agg #[.int .i64 0, .int .i64 0]), 2, 16) := by kernel_rfl
theorem tinfo_objs : (Tryz.prog.info? 46).map (fun i => (i.zero, i.size, i.bytes)) = some (some (.agg #[.int .i64 0, .int .i64 0, .int .i64 0, .int .i64 0, .int .i64 0, .int .i64 0, .int .i64 0, .int .i64 0, .int .i64 0, .bool false, .bool false, .bool false]), 12, 80) := by kernel_rfl
theorem tinfo_items : (Tryz.prog.info? 55).map (fun i => (i.zero, i.size, i.bytes)) = some (some (.agg #[.int .i64 0, .int .i64 0, .int .i64 0, .int .i64 0, .slice none 0 0]), 5, 56) := by kernel_rfl
theorem tinfo_tgts : (Tryz.prog.info? 124).map (fun i => (i.zero, i.size, i.bytes)) = some (some (.agg #[.int .i64 0, .int .i64 0]), 2, 16) := by kernel_rfl
theorem tinfo_answ : (Tryz.prog.info? 160).map (fun i => (i.zero, i.size, i.bytes)) = some (some (.agg #[.int .i64 0, .int .i64 0, .int .i64 0]), 3, 24) := by kernel_rfl

set_option maxHeartbeats 400000 in
theorem clone_ints (A : Option Addr) (n c : Nat) (xs : List Value) (w : World) (hx : Reads w 1 A n xs) (h1 : ∀ u ∈ xs, u.oneCell' = true) (hA : A = none → c = 0) (hn : n ≤ 100000) :
    Calls Tryz.prog 61 #[.slice A n c] w fun e w' => ∃ A' c', e = .returned (.slice A' n c') ∧ XOwns w' w.heap.size 3 1 A' n c' xs ∧ Below w.heap.size w w' := by
  cases A with
  | none =>
    have hc := hA rfl
    subst hc
    have h0 : n = 0 := by
      rcases Nat.eq_zero_or_pos n with h0 | h0
      · exact h0
      · obtain ⟨ad, e, _⟩ := hx.2 h0
        cases e
    subst h0
    have hxe : xs = [] := List.eq_nil_of_length_eq_zero (by have := hx.1; simpa using this)
    rw [hxe]
    clear hx hA hxe h1
    have heql := fun W a n c => Lib.run_eql_slice_nil (P := Tryz.prog) W 25 3 a n c 0 0 Tryz.underlying25
    go_enter Tryz.func61, Tryz.ntmps61
    go_wp2
    go_ret
    exact ⟨none, 0, rfl, ⟨World.ownsRow_nil _ _ _ _, fun _ => rfl⟩, Below.refl _ _⟩
  | some ad =>
    have heql := fun W a n c => Lib.run_eql_slice_nil (P := Tryz.prog) W 25 3 a n c 0 0 Tryz.underlying25
    have HX := Lib.hid hx
    have H1 := Lib.hid h1
    clear hx hA h1
    obtain ⟨i0, hi, hz0, hz1, hz2⟩ := info_parts tinfo_ints
    have HI := Lib.hid hi
    have HZ0 := Lib.hid hz0
    have HZ1 := Lib.hid hz1
    have HZ2 := Lib.hid hz2
    clear hi hz0 hz1 hz2
    go_enter Tryz.func61, Tryz.ntmps61
    go_wp2_with (at_builtin; refine wpList_append_reads _ ?_ (.tmp 5) (.tmp 6) 25 ?_ w.heap.size 3 i0 _ 1 8 Tryz.underlying25 HI.out HZ0.out HZ1.out HZ2.out rfl (by decide) (.slice (some ⟨w.heap.size, 0, none⟩) 0 0) 0 [] ?_ (World.ownsRow_lit (base := w.heap.size) (e := 3) (size := 1) w #[] 0 (Nat.le_refl _) (by unfold maxLen; omega) (by simp)) (some ad) n c xs ?_ (fun h => by cases h) (HX.out.alloc _) H1.out ?_ ?_ ?_ ?_; rfl; rfl; rfl; rfl; (unfold maxLen; omega); omega; (focus (first | omega | (simp only [World.size_alloc]; done) | (simp only [World.size_alloc]; omega) | (simp; done) | (simp; omega))); intro v2 w2 ho2 hg2 hiff)
    go_ret
    have hb : Below w.heap.size w w2 := Below.trans (by (focus (repeat' (first | (with_reducible exact Below.refl _ _) | (with_reducible assumption) | (with_reducible refine Below.alloc ?_ ?_ _) | (with_reducible refine below_drewN ?_ _) | (with_reducible refine Below.drew ?_) | (with_reducible refine Below.setCell ?_ ?_ _) | omega | (simp; done) | (simp; omega))))) ((Below.refl _ _).grown hg2 (by (focus (first | omega | (simp only [World.size_alloc]; done) | (simp only [World.size_alloc]; omega) | (simp; done) | (simp; omega)))) (fun k hk => by (have hkk : w.heap.size = k := by simpa [Value.ownBlock] using hk); omega))
    rw [Nat.zero_add, List.nil_append] at ho2
    rcases ho2.2 with ⟨h0, h00⟩ | ⟨g, cap, cur, h0, _⟩
    · exact ⟨none, 0, by (first | (rw [h00]; exact congrArg Ending.returned h0) | (subst h00; exact congrArg Ending.returned h0)), ⟨by rw [h0] at ho2; rw [h00] at ho2 ⊢; exact ho2, fun _ => rfl⟩, hb⟩
    · exact ⟨some ⟨g, 0, none⟩, cap, congrArg Ending.returned h0, ⟨by rw [h0] at ho2; exact ho2, fun h => by cases h⟩, hb⟩

set_option maxHeartbeats 400000 in
theorem clone_blks (A : Option Addr) (n c : Nat) (xs : List Value) (w : World) (hx : Reads w 2 A n xs) (h1 : ∀ u ∈ xs, u.oneCell' = true) (hA : A = none → c = 0) (hn : n ≤ 100000) :
    Calls Tryz.prog 62 #[.slice A n c] w fun e w' => ∃ A' c', e = .returned (.slice A' n c') ∧ XOwns w' w.heap.size 84 2 A' n c' xs ∧ Below w.heap.size w w' := by
  cases A with
  | none =>
    have hc := hA rfl
    subst hc
    have h0 : n = 0 := by
      rcases Nat.eq_zero_or_pos n with h0 | h0
      · exact h0
      · obtain ⟨ad, e, _⟩ := hx.2 h0
        cases e
    subst h0
    have hxe : xs = [] := List.eq_nil_of_length_eq_zero (by have := hx.1; simpa using this)
    rw [hxe]
    clear hx hA hxe h1
    have heql := fun W a n c => Lib.run_eql_slice_nil (P := Tryz.prog) W 30 84 a n c 0 0 Tryz.underlying30
    go_enter Tryz.func62, Tryz.ntmps62
    go_wp2
    go_ret
    exact ⟨none, 0, rfl, ⟨World.ownsRow_nil _ _ _ _, fun _ => rfl⟩, Below.refl _ _⟩
  | some ad =>
    have heql := fun W a n c => Lib.run_eql_slice_nil (P := Tryz.prog) W 30 84 a n c 0 0 Tryz.underlying30
    have HX := Lib.hid hx
    have H1 := Lib.hid h1
    clear hx hA h1
    obtain ⟨i0, hi, hz0, hz1, hz2⟩ := info_parts tinfo_blks
    have HI := Lib.hid hi
    have HZ0 := Lib.hid hz0
    have HZ1 := Lib.hid hz1
    have HZ2 := Lib.hid hz2
    clear hi hz0 hz1 hz2
    go_enter Tryz.func62, Tryz.ntmps62
    go_wp2_with (at_builtin; refine wpList_append_reads _ ?_ (.tmp 5) (.tmp 6) 30 ?_ w.heap.size 84 i0 _ 2 16 Tryz.underlying30 HI.out HZ0.out HZ1.out HZ2.out rfl (by decide) (.slice (some ⟨w.heap.size, 0, none⟩) 0 0) 0 [] ?_ (World.ownsRow_lit (base := w.heap.size) (e := 84) (size := 2) w #[] 0 (Nat.le_refl _) (by unfold maxLen; omega) (by simp)) (some ad) n c xs ?_ (fun h => by cases h) (HX.out.alloc _) H1.out ?_ ?_ ?_ ?_; rfl; rfl; rfl; rfl; (unfold maxLen; omega); omega; (focus (first | omega | (simp only [World.size_alloc]; done) | (simp only [World.size_alloc]; omega) | (simp; done) | (simp; omega))); intro v2 w2 ho2 hg2 hiff)
    go_ret
    have hb : Below w.heap.size w w2 := Below.trans (by (focus (repeat' (first | (with_reducible exact Below.refl _ _) | (with_reducible assumption) | (with_reducible refine Below.alloc ?_ ?_ _) | (with_reducible refine below_drewN ?_ _) | (with_reducible refine Below.drew ?_) | (with_reducible refine Below.setCell ?_ ?_ _) | omega | (simp; done) | (simp; omega))))) ((Below.refl _ _).grown hg2 (by (focus (first | omega | (simp only [World.size_alloc]; done) | (simp only [World.size_alloc]; omega) | (simp; done) | (simp; omega)))) (fun k hk => by (have hkk : w.heap.size = k := by simpa [Value.ownBlock] using hk); omega))
    rw [Nat.zero_add, List.nil_append] at ho2
    rcases ho2.2 with ⟨h0, h00⟩ | ⟨g, cap, cur, h0, _⟩
    · exact ⟨none, 0, by (first | (rw [h00]; exact congrArg Ending.returned h0) | (subst h00; exact congrArg Ending.returned h0)), ⟨by rw [h0] at ho2; rw [h00] at ho2 ⊢; exact ho2, fun _ => rfl⟩, hb⟩
    · exact ⟨some ⟨g, 0, none⟩, cap, congrArg Ending.returned h0, ⟨by rw [h0] at ho2; exact ho2, fun h => by cases h⟩, hb⟩

set_option maxHeartbeats 400000 in
theorem clone_objs (A : Option Addr) (n c : Nat) (xs : List Value) (w : World) (hx : Reads w 12 A n xs) (h1 : ∀ u ∈ xs, u.oneCell' = true) (hA : A = none → c = 0) (hn : n ≤ 100000) :
    Calls Tryz.prog 60 #[.slice A n c] w fun e w' => ∃ A' c', e = .returned (.slice A' n c') ∧ XOwns w' w.heap.size 46 12 A' n c' xs ∧ Below w.heap.size w w' := by
  cases A with
  | none =>
    have hc := hA rfl
    subst hc
    have h0 : n = 0 := by
      rcases Nat.eq_zero_or_pos n with h0 | h0
      · exact h0
      · obtain ⟨ad, e, _⟩ := hx.2 h0
        cases e
    subst h0
    have hxe : xs = [] := List.eq_nil_of_length_eq_zero (by have := hx.1; simpa using this)
    rw [hxe]
    clear hx hA hxe h1
    have heql := fun W a n c => Lib.run_eql_slice_nil (P := Tryz.prog) W 22 46 a n c 0 0 Tryz.underlying22
    go_enter Tryz.func60, Tryz.ntmps60
    go_wp2
    go_ret
    exact ⟨none, 0, rfl, ⟨World.ownsRow_nil _ _ _ _, fun _ => rfl⟩, Below.refl _ _⟩
  | some ad =>
    have heql := fun W a n c => Lib.run_eql_slice_nil (P := Tryz.prog) W 22 46 a n c 0 0 Tryz.underlying22
    have HX := Lib.hid hx
    have H1 := Lib.hid h1
    clear hx hA h1
    obtain ⟨i0, hi, hz0, hz1, hz2⟩ := info_parts tinfo_objs
    have HI := Lib.hid hi
    have HZ0 := Lib.hid hz0
    have HZ1 := Lib.hid hz1
    have HZ2 := Lib.hid hz2
    clear hi hz0 hz1 hz2
    go_enter Tryz.func60, Tryz.ntmps60
    go_wp2_with (at_builtin; refine wpList_append_reads _ ?_ (.tmp 5) (.tmp 6) 22 ?_ w.heap.size 46 i0 _ 12 80 Tryz.underlying22 HI.out HZ0.out HZ1.out HZ2.out rfl (by decide) (.slice (some ⟨w.heap.size, 0, none⟩) 0 0) 0 [] ?_ (World.ownsRow_lit (base := w.heap.size) (e := 46) (size := 12) w #[] 0 (Nat.le_refl _) (by unfold maxLen; omega) (by simp)) (some ad) n c xs ?_ (fun h => by cases h) (HX.out.alloc _) H1.out ?_ ?_ ?_ ?_; rfl; rfl; rfl; rfl; (unfold maxLen; omega); omega; (focus (first | omega | (simp only [World.size_alloc]; done) | (simp only [World.size_alloc]; omega) | (simp; done) | (simp; omega))); intro v2 w2 ho2 hg2 hiff)
    go_ret
    have hb : Below w.heap.size w w2 := Below.trans (by (focus (repeat' (first | (with_reducible exact Below.refl _ _) | (with_reducible assumption) | (with_reducible refine Below.alloc ?_ ?_ _) | (with_reducible refine below_drewN ?_ _) | (with_reducible refine Below.drew ?_) | (with_reducible refine Below.setCell ?_ ?_ _) | omega | (simp; done) | (simp; omega))))) ((Below.refl _ _).grown hg2 (by (focus (first | omega | (simp only [World.size_alloc]; done) | (simp only [World.size_alloc]; omega) | (simp; done) | (simp; omega)))) (fun k hk => by (have hkk : w.heap.size = k := by simpa [Value.ownBlock] using hk); omega))
    rw [Nat.zero_add, List.nil_append] at ho2
    rcases ho2.2 with ⟨h0, h00⟩ | ⟨g, cap, cur, h0, _⟩
    · exact ⟨none, 0, by (first | (rw [h00]; exact congrArg Ending.returned h0) | (subst h00; exact congrArg Ending.returned h0)), ⟨by rw [h0] at ho2; rw [h00] at ho2 ⊢; exact ho2, fun _ => rfl⟩, hb⟩
    · exact ⟨some ⟨g, 0, none⟩, cap, congrArg Ending.returned h0, ⟨by rw [h0] at ho2; exact ho2, fun h => by cases h⟩, hb⟩

set_option maxHeartbeats 400000 in
theorem clone_items (A : Option Addr) (n c : Nat) (xs : List Value) (w : World) (hx : Reads w 5 A n xs) (h1 : ∀ u ∈ xs, u.oneCell' = true) (hA : A = none → c = 0) (hn : n ≤ 100000) :
    Calls Tryz.prog 96 #[.slice A n c] w fun e w' => ∃ A' c', e = .returned (.slice A' n c') ∧ XOwns w' w.heap.size 55 5 A' n c' xs ∧ Below w.heap.size w w' := by
  cases A with
  | none =>
    have hc := hA rfl
    subst hc
    have h0 : n = 0 := by
      rcases Nat.eq_zero_or_pos n with h0 | h0
      · exact h0
      · obtain ⟨ad, e, _⟩ := hx.2 h0
        cases e
    subst h0
    have hxe : xs = [] := List.eq_nil_of_length_eq_zero (by have := hx.1; simpa using this)
    rw [hxe]
    clear hx hA hxe h1
    have heql := fun W a n c => Lib.run_eql_slice_nil (P := Tryz.prog) W 29 55 a n c 0 0 Tryz.underlying29
    go_enter Tryz.func96, Tryz.ntmps96
    go_wp2
    go_ret
    exact ⟨none, 0, rfl, ⟨World.ownsRow_nil _ _ _ _, fun _ => rfl⟩, Below.refl _ _⟩
  | some ad =>
    have heql := fun W a n c => Lib.run_eql_slice_nil (P := Tryz.prog) W 29 55 a n c 0 0 Tryz.underlying29
    have HX := Lib.hid hx
    have H1 := Lib.hid h1
    clear hx hA h1
    obtain ⟨i0, hi, hz0, hz1, hz2⟩ := info_parts tinfo_items
    have HI := Lib.hid hi
    have HZ0 := Lib.hid hz0
    have HZ1 := Lib.hid hz1
    have HZ2 := Lib.hid hz2
    clear hi hz0 hz1 hz2
    go_enter Tryz.func96, Tryz.ntmps96
    go_wp2_with (at_builtin; refine wpList_append_reads _ ?_ (.tmp 5) (.tmp 6) 29 ?_ w.heap.size 55 i0 _ 5 56 Tryz.underlying29 HI.out HZ0.out HZ1.out HZ2.out rfl (by decide) (.slice (some ⟨w.heap.size, 0, none⟩) 0 0) 0 [] ?_ (World.ownsRow_lit (base := w.heap.size) (e := 55) (size := 5) w #[] 0 (Nat.le_refl _) (by unfold maxLen; omega) (by simp)) (some ad) n c xs ?_ (fun h => by cases h) (HX.out.alloc _) H1.out ?_ ?_ ?_ ?_; rfl; rfl; rfl; rfl; (unfold maxLen; omega); omega; (focus (first | omega | (simp only [World.size_alloc]; done) | (simp only [World.size_alloc]; omega) | (simp; done) | (simp; omega))); intro v2 w2 ho2 hg2 hiff)
    go_ret
    have hb : Below w.heap.size w w2 := Below.trans (by (focus (repeat' (first | (with_reducible exact Below.refl _ _) | (with_reducible assumption) | (with_reducible refine Below.alloc ?_ ?_ _) | (with_reducible refine below_drewN ?_ _) | (with_reducible refine Below.drew ?_) | (with_reducible refine Below.setCell ?_ ?_ _) | omega | (simp; done) | (simp; omega))))) ((Below.refl _ _).grown hg2 (by (focus (first | omega | (simp only [World.size_alloc]; done) | (simp only [World.size_alloc]; omega) | (simp; done) | (simp; omega)))) (fun k hk => by (have hkk : w.heap.size = k := by simpa [Value.ownBlock] using hk); omega))
    rw [Nat.zero_add, List.nil_append] at ho2
    rcases ho2.2 with ⟨h0, h00⟩ | ⟨g, cap, cur, h0, _⟩
    · exact ⟨none, 0, by (first | (rw [h00]; exact congrArg Ending.returned h0) | (subst h00; exact congrArg Ending.returned h0)), ⟨by rw [h0] at ho2; rw [h00] at ho2 ⊢; exact ho2, fun _ => rfl⟩, hb⟩
    · exact ⟨some ⟨g, 0, none⟩, cap, congrArg Ending.returned h0, ⟨by rw [h0] at ho2; exact ho2, fun h => by cases h⟩, hb⟩

set_option maxHeartbeats 400000 in
theorem clone_tgts (A : Option Addr) (n c : Nat) (xs : List Value) (w : World) (hx : Reads w 2 A n xs) (h1 : ∀ u ∈ xs, u.oneCell' = true) (hA : A = none → c = 0) (hn : n ≤ 100000) :
    Calls Tryz.prog 97 #[.slice A n c] w fun e w' => ∃ A' c', e = .returned (.slice A' n c') ∧ XOwns w' w.heap.size 124 2 A' n c' xs ∧ Below w.heap.size w w' := by
  cases A with
  | none =>
    have hc := hA rfl
    subst hc
    have h0 : n = 0 := by
      rcases Nat.eq_zero_or_pos n with h0 | h0
      · exact h0
      · obtain ⟨ad, e, _⟩ := hx.2 h0
        cases e
    subst h0
    have hxe : xs = [] := List.eq_nil_of_length_eq_zero (by have := hx.1; simpa using this)
    rw [hxe]
    clear hx hA hxe h1
    have heql := fun W a n c => Lib.run_eql_slice_nil (P := Tryz.prog) W 53 124 a n c 0 0 Tryz.underlying53
    go_enter Tryz.func97, Tryz.ntmps97
    go_wp2
    go_ret
    exact ⟨none, 0, rfl, ⟨World.ownsRow_nil _ _ _ _, fun _ => rfl⟩, Below.refl _ _⟩
  | some ad =>
    have heql := fun W a n c => Lib.run_eql_slice_nil (P := Tryz.prog) W 53 124 a n c 0 0 Tryz.underlying53
    have HX := Lib.hid hx
    have H1 := Lib.hid h1
    clear hx hA h1
    obtain ⟨i0, hi, hz0, hz1, hz2⟩ := info_parts tinfo_tgts
    have HI := Lib.hid hi
    have HZ0 := Lib.hid hz0
    have HZ1 := Lib.hid hz1
    have HZ2 := Lib.hid hz2
    clear hi hz0 hz1 hz2
    go_enter Tryz.func97, Tryz.ntmps97
    go_wp2_with (at_builtin; refine wpList_append_reads _ ?_ (.tmp 5) (.tmp 6) 53 ?_ w.heap.size 124 i0 _ 2 16 Tryz.underlying53 HI.out HZ0.out HZ1.out HZ2.out rfl (by decide) (.slice (some ⟨w.heap.size, 0, none⟩) 0 0) 0 [] ?_ (World.ownsRow_lit (base := w.heap.size) (e := 124) (size := 2) w #[] 0 (Nat.le_refl _) (by unfold maxLen; omega) (by simp)) (some ad) n c xs ?_ (fun h => by cases h) (HX.out.alloc _) H1.out ?_ ?_ ?_ ?_; rfl; rfl; rfl; rfl; (unfold maxLen; omega); omega; (focus (first | omega | (simp only [World.size_alloc]; done) | (simp only [World.size_alloc]; omega) | (simp; done) | (simp; omega))); intro v2 w2 ho2 hg2 hiff)
    go_ret
    have hb : Below w.heap.size w w2 := Below.trans (by (focus (repeat' (first | (with_reducible exact Below.refl _ _) | (with_reducible assumption) | (with_reducible refine Below.alloc ?_ ?_ _) | (with_reducible refine below_drewN ?_ _) | (with_reducible refine Below.drew ?_) | (with_reducible refine Below.setCell ?_ ?_ _) | omega | (simp; done) | (simp; omega))))) ((Below.refl _ _).grown hg2 (by (focus (first | omega | (simp only [World.size_alloc]; done) | (simp only [World.size_alloc]; omega) | (simp; done) | (simp; omega)))) (fun k hk => by (have hkk : w.heap.size = k := by simpa [Value.ownBlock] using hk); omega))
    rw [Nat.zero_add, List.nil_append] at ho2
    rcases ho2.2 with ⟨h0, h00⟩ | ⟨g, cap, cur, h0, _⟩
    · exact ⟨none, 0, by (first | (rw [h00]; exact congrArg Ending.returned h0) | (subst h00; exact congrArg Ending.returned h0)), ⟨by rw [h0] at ho2; rw [h00] at ho2 ⊢; exact ho2, fun _ => rfl⟩, hb⟩
    · exact ⟨some ⟨g, 0, none⟩, cap, congrArg Ending.returned h0, ⟨by rw [h0] at ho2; exact ho2, fun h => by cases h⟩, hb⟩

set_option maxHeartbeats 400000 in
theorem clone_answ (A : Option Addr) (n c : Nat) (xs : List Value) (w : World) (hx : Reads w 3 A n xs) (h1 : ∀ u ∈ xs, u.oneCell' = true) (hA : A = none → c = 0) (hn : n ≤ 100000) :
    Calls Tryz.prog 103 #[.slice A n c] w fun e w' => ∃ A' c', e = .returned (.slice A' n c') ∧ XOwns w' w.heap.size 160 3 A' n c' xs ∧ Below w.heap.size w w' := by
  cases A with
  | none =>
    have hc := hA rfl
    subst hc
    have h0 : n = 0 := by
      rcases Nat.eq_zero_or_pos n with h0 | h0
      · exact h0
      · obtain ⟨ad, e, _⟩ := hx.2 h0
        cases e
    subst h0
    have hxe : xs = [] := List.eq_nil_of_length_eq_zero (by have := hx.1; simpa using this)
    rw [hxe]
    clear hx hA hxe h1
    have heql := fun W a n c => Lib.run_eql_slice_nil (P := Tryz.prog) W 90 160 a n c 0 0 Tryz.underlying90
    go_enter Tryz.func103, Tryz.ntmps103
    go_wp2
    go_ret
    exact ⟨none, 0, rfl, ⟨World.ownsRow_nil _ _ _ _, fun _ => rfl⟩, Below.refl _ _⟩
  | some ad =>
    have heql := fun W a n c => Lib.run_eql_slice_nil (P := Tryz.prog) W 90 160 a n c 0 0 Tryz.underlying90
    have HX := Lib.hid hx
    have H1 := Lib.hid h1
    clear hx hA h1
    obtain ⟨i0, hi, hz0, hz1, hz2⟩ := info_parts tinfo_answ
    have HI := Lib.hid hi
    have HZ0 := Lib.hid hz0
    have HZ1 := Lib.hid hz1
    have HZ2 := Lib.hid hz2
    clear hi hz0 hz1 hz2
    go_enter Tryz.func103, Tryz.ntmps103
    go_wp2_with (at_builtin; refine wpList_append_reads _ ?_ (.tmp 5) (.tmp 6) 90 ?_ w.heap.size 160 i0 _ 3 24 Tryz.underlying90 HI.out HZ0.out HZ1.out HZ2.out rfl (by decide) (.slice (some ⟨w.heap.size, 0, none⟩) 0 0) 0 [] ?_ (World.ownsRow_lit (base := w.heap.size) (e := 160) (size := 3) w #[] 0 (Nat.le_refl _) (by unfold maxLen; omega) (by simp)) (some ad) n c xs ?_ (fun h => by cases h) (HX.out.alloc _) H1.out ?_ ?_ ?_ ?_; rfl; rfl; rfl; rfl; (unfold maxLen; omega); omega; (focus (first | omega | (simp only [World.size_alloc]; done) | (simp only [World.size_alloc]; omega) | (simp; done) | (simp; omega))); intro v2 w2 ho2 hg2 hiff)
    go_ret
    have hb : Below w.heap.size w w2 := Below.trans (by (focus (repeat' (first | (with_reducible exact Below.refl _ _) | (with_reducible assumption) | (with_reducible refine Below.alloc ?_ ?_ _) | (with_reducible refine below_drewN ?_ _) | (with_reducible refine Below.drew ?_) | (with_reducible refine Below.setCell ?_ ?_ _) | omega | (simp; done) | (simp; omega))))) ((Below.refl _ _).grown hg2 (by (focus (first | omega | (simp only [World.size_alloc]; done) | (simp only [World.size_alloc]; omega) | (simp; done) | (simp; omega)))) (fun k hk => by (have hkk : w.heap.size = k := by simpa [Value.ownBlock] using hk); omega))
    rw [Nat.zero_add, List.nil_append] at ho2
    rcases ho2.2 with ⟨h0, h00⟩ | ⟨g, cap, cur, h0, _⟩
    · exact ⟨none, 0, by (first | (rw [h00]; exact congrArg Ending.returned h0) | (subst h00; exact congrArg Ending.returned h0)), ⟨by rw [h0] at ho2; rw [h00] at ho2 ⊢; exact ho2, fun _ => rfl⟩, hb⟩
    · exact ⟨some ⟨g, 0, none⟩, cap, congrArg Ending.returned h0, ⟨by rw [h0] at ho2; exact ho2, fun h => by cases h⟩, hb⟩
end Go.Proofs.YtagpphelgghbpaaGreat
