/-
  Texts: Clone.
-/
import Derived.Test.YtpbbemmjodegkaaDoorXk23
set_option linter.unusedSimpArgs false
set_option linter.unusedVariables false
namespace Go.Proofs.YtpbbemmjodegkaaDoor
open Go.RowKit

theorem bequal_any (A B : Option Addr) (n c n' c' : Nat) (xs ys : List Int) (w : World) (hx : BReads w A n xs) (hy : BReads w B n' ys) :
    Calls Tryd.prog 62 #[.slice A n c, .slice B n' c'] w fun e w' => e = .returned (.bool (xs == ys)) ∧ w = w' := by
  have h1 := convert_bytes (P := Tryd.prog) hx c 35 5 Tryd.underlying35 Tryd.underlying5 9 Tryd.underlying9
  have h2 := convert_bytes (P := Tryd.prog) hy c' 35 5 Tryd.underlying35 Tryd.underlying5 9 Tryd.underlying9
  have h3 := Lib.hid (str_inj hx.2 hy.2)
  go_enter Tryd.func62, Tryd.ntmps62
  go_wp2
  go_ret
  exact ⟨by rw [← h3.out]; rfl, rfl⟩

theorem BReads.head {w : World} {A : Option Addr} {n : Nat} {xs : List Int} (h : BReads w A n xs) {k : Nat} (hk : k ≤ n) : BReads w A k (xs.take k) := by
  refine ⟨?_, fun x hx => h.2 x (List.mem_of_mem_take hx)⟩
  have := h.1.head hk
  simpa [bys] using this

set_option maxHeartbeats 400000 in
theorem prefix_any (A B : Option Addr) (n c n' c' : Nat) (xs ys : List Int) (w : World) (hx : BReads w A n xs) (hy : BReads w B n' ys) (hn : n ≤ c) (hc : c ≤ 9223372036854775807) (hn' : n' ≤ 9223372036854775807) :
    Calls Tryd.prog 50 #[.slice A n c, .slice B n' c'] w fun e w' => e = .returned (.bool (decide (ys <+: xs))) ∧ w = w' := by
  have hl := hx.length
  have hl' := hy.length
  have HX := Lib.hid hx
  have HY := Lib.hid hy
  by_cases h : n' ≤ n
  · have HT : Hid ((xs.take n' == ys) = decide (ys <+: xs)) := Lib.hid (by
      rw [Bool.eq_iff_iff, beq_iff_eq, decide_eq_true_eq]
      constructor
      · intro e
        rw [← e]
        exact List.take_prefix _ _
      · intro e
        rw [List.prefix_iff_eq_take] at e
        rw [← hl']
        exact e.symm)
    clear hx hy hl hl'
    have h' : (n' : Int) ≤ n := by omega
    go_enter Tryd.func50, Tryd.ntmps50
    go_wp2_with (go_at_call 62; refine (bequal_any _ _ _ _ _ _ _ _ _ (HX.out.head h) HY.out).mono ?_; rintro e w1 ⟨rfl, rfl⟩)
    go_ret
    exact ⟨by rw [← HT.out]; rfl, rfl⟩
  · have HT : Hid (decide (ys <+: xs) = false) := Lib.hid (by
      rw [decide_eq_false_iff_not]
      intro e
      have := e.length_le
      omega)
    have h' : ¬ (n' : Int) ≤ n := by omega
    clear hx hy hl hl'
    go_enter Tryd.func50, Tryd.ntmps50
    go_wp2
    go_ret
    exact ⟨by rw [HT.out]; rfl, rfl⟩

set_option maxHeartbeats 400000 in
theorem bclone_any (A : Option Addr) (n c : Nat) (xs : List Int) (w : World) (hx : BReads w A n xs) (hA : A = none → c = 0) (hn : n ≤ 1000000) :
    Calls Tryd.prog 30 #[.slice A n c] w fun e w' => ∃ A' c', e = .returned (.slice A' n c') ∧ BOwns w' w.heap.size 5 A' n c' xs ∧ Below w.heap.size w w' := by
  have hl := hx.length
  cases A with
  | none =>
    have hc := hA rfl
    subst hc
    have h0 : n = 0 := by
      rcases Nat.eq_zero_or_pos n with h0 | h0
      · exact h0
      · obtain ⟨ad, e, _⟩ := hx.1.2 h0
        cases e
    subst h0
    have hxe : xs = [] := List.eq_nil_of_length_eq_zero hl
    subst hxe
    clear hx hA hl
    have heql := fun W a n c => Lib.run_eql_slice_nil (P := Tryd.prog) W 35 5 a n c 0 0 Tryd.underlying35
    go_enter Tryd.func30, Tryd.ntmps30
    go_wp2
    go_ret
    exact ⟨none, 0, rfl, BOwns.nil _ _ _, Below.refl _ _⟩
  | some ad =>
    have heql := fun W a n c => Lib.run_eql_slice_nil (P := Tryd.prog) W 35 5 a n c 0 0 Tryd.underlying35
    have HX := Lib.hid hx
    clear hx hA hl
    go_enter Tryd.func30, Tryd.ntmps30
    go_wp2_with (at_builtin; refine append_bytes _ ?_ (.tmp 5) (.tmp 6) 35 ?_ w.heap.size 5 Tryd.info5 Tryd.underlying35 (some ⟨w.heap.size, 0, none⟩) 0 0 [] ?_ (BOwns.lit w w.heap.size 5 [] _ _ (fun _ h => by cases h) rfl rfl (Nat.le_refl _) (by simp)) (some ad) n c xs ?_ (fun h => by cases h) (HX.out.alloc _) ?_ ?_ ?_; rfl; rfl; rfl; rfl; omega; (focus (first | omega | (simp only [World.size_alloc]; done) | (simp only [World.size_alloc]; omega) | (simp; done) | (simp; omega))); intro A2 c2 w2 ho2 hb2)
    go_ret
    rw [Nat.zero_add] at ho2
    exact ⟨A2, c2, rfl, by simpa using ho2, Below.trans (by (focus (repeat' (first | (with_reducible exact Below.refl _ _) | (with_reducible assumption) | (with_reducible refine Below.alloc ?_ ?_ _) | (with_reducible refine below_drewN ?_ _) | (with_reducible refine Below.drew ?_) | (with_reducible refine Below.setCell ?_ ?_ _) | omega | (simp; done) | (simp; omega))))) hb2⟩

theorem mcells_one (l : List MoveV) : ∀ u ∈ mcells l, u.oneCell' = true := by
  intro u hu
  obtain ⟨m, _, hm⟩ := List.mem_flatMap.1 hu
  simp [MoveV.cells] at hm
  rcases hm with rfl | rfl | rfl | rfl | rfl | rfl <;> rfl

set_option maxHeartbeats 400000 in
theorem mclone_any (A : Option Addr) (n c : Nat) (l : List MoveV) (w : World) (hx : Reads w 6 A n (mcells l)) (hA : A = none → c = 0) (hn : n ≤ 1000000) :
    Calls Tryd.prog 51 #[.slice A n c] w fun e w' => ∃ A' c', e = .returned (.slice A' n c') ∧ XOwns w' w.heap.size 55 6 A' n c' (mcells l) ∧ Below w.heap.size w w' := by
  cases A with
  | none =>
    have hc := hA rfl
    subst hc
    have h0 : n = 0 := by
      rcases Nat.eq_zero_or_pos n with h0 | h0
      · exact h0
      · obtain ⟨ad, e, _⟩ := hx.2 h0
        cases e
    subst h0
    have hxe : mcells l = [] := List.eq_nil_of_length_eq_zero (by rw [hx.1])
    rw [hxe]
    clear hx hA hxe
    have heql := fun W a n c => Lib.run_eql_slice_nil (P := Tryd.prog) W 60 55 a n c 0 0 Tryd.underlying60
    go_enter Tryd.func51, Tryd.ntmps51
    go_wp2
    go_ret
    exact ⟨none, 0, rfl, ⟨World.ownsRow_nil _ _ _ _, fun _ => rfl⟩, Below.refl _ _⟩
  | some ad =>
    have heql := fun W a n c => Lib.run_eql_slice_nil (P := Tryd.prog) W 60 55 a n c 0 0 Tryd.underlying60
    have HX := Lib.hid hx
    clear hx hA
    obtain ⟨i0, hi, hz0, hz1, hz2⟩ := info_parts Tryd.info55
    have HI := Lib.hid hi
    have HZ0 := Lib.hid hz0
    have HZ1 := Lib.hid hz1
    have HZ2 := Lib.hid hz2
    clear hi hz0 hz1 hz2
    go_enter Tryd.func51, Tryd.ntmps51
    go_wp2_with (at_builtin; refine wpList_append_reads _ ?_ (.tmp 5) (.tmp 6) 60 ?_ w.heap.size 55 i0 _ 6 48 Tryd.underlying60 HI.out HZ0.out HZ1.out HZ2.out rfl (by decide) (.slice (some ⟨w.heap.size, 0, none⟩) 0 0) 0 [] ?_ (World.ownsRow_lit (base := w.heap.size) (e := 55) (size := 6) w #[] 0 (Nat.le_refl _) (by unfold maxLen; omega) (by simp)) (some ad) n c (mcells l) ?_ (fun h => by cases h) (HX.out.alloc _) (mcells_one l) ?_ ?_ ?_ ?_; rfl; rfl; rfl; rfl; (unfold maxLen; omega); omega; (focus (first | omega | (simp only [World.size_alloc]; done) | (simp only [World.size_alloc]; omega) | (simp; done) | (simp; omega))); intro v2 w2 ho2 hg2 hiff)
    go_ret
    have hb : Below w.heap.size w w2 := Below.trans (by (focus (repeat' (first | (with_reducible exact Below.refl _ _) | (with_reducible assumption) | (with_reducible refine Below.alloc ?_ ?_ _) | (with_reducible refine below_drewN ?_ _) | (with_reducible refine Below.drew ?_) | (with_reducible refine Below.setCell ?_ ?_ _) | omega | (simp; done) | (simp; omega))))) ((Below.refl _ _).grown hg2 (by (focus (first | omega | (simp only [World.size_alloc]; done) | (simp only [World.size_alloc]; omega) | (simp; done) | (simp; omega)))) (fun k hk => by (have hkk : w.heap.size = k := by simpa [Value.ownBlock] using hk); omega))
    rw [Nat.zero_add, List.nil_append] at ho2
    rcases ho2.2 with ⟨h0, h00⟩ | ⟨g, cap, cur, h0, _⟩
    · exact ⟨none, 0, by (first | (rw [h00]; exact congrArg Ending.returned h0) | (subst h00; exact congrArg Ending.returned h0)), ⟨by rw [h0] at ho2; rw [h00] at ho2 ⊢; exact ho2, fun _ => rfl⟩, hb⟩
    · exact ⟨some ⟨g, 0, none⟩, cap, congrArg Ending.returned h0, ⟨by rw [h0] at ho2; exact ho2, fun h => by cases h⟩, hb⟩
end Go.Proofs.YtpbbemmjodegkaaDoor
