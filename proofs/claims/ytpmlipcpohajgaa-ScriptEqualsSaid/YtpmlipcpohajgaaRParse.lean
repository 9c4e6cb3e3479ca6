/-
  The reference's Parse: the same operations.
-/
import Derived.Test.YtpmlipcpohajgaaFirst5
import Derived.Test.YtpmlipcpohajgaaParse
set_option linter.unusedSimpArgs false
set_option linter.unusedVariables false
namespace Go.Proofs.Ytpmlipcpohajgaa
open Go.RowKit

theorem first_any (A : Option Addr) (n cap : Nat) (xs : List Int) (w : World) (h : BReads w A n xs) :
    Calls Try.prog 22 #[.slice A n cap] w (FirstPost w (opS xs).1 (opS xs).2) := by
  have h0 : 0 ≤ nth xs 0 % 16 ∧ nth xs 0 % 16 ≤ 15 := by omega
  unfold opS
  by_cases h2 : nth xs 0 % 16 = 2
  · simp only [h2, if_true]; exact first_2 A n cap xs w h (by omega) (by omega)
  by_cases h3 : nth xs 0 % 16 = 3
  · simp only [h3]; exact first_3 A n cap xs w h (by omega) (by omega)
  by_cases h10 : nth xs 0 % 16 = 10
  · simp only [h10]; exact first_10 A n cap xs w h (by omega) (by omega)
  by_cases h4 : nth xs 0 % 16 = 4
  · simp only [h4]; exact first_4 A n cap xs w h (by omega) (by omega)
  by_cases h5 : nth xs 0 % 16 = 5
  · simp only [h5]; exact first_5 A n cap xs w h (by omega) (by omega)
  by_cases h6 : nth xs 0 % 16 = 6
  · simp only [h6]; exact first_6 A n cap xs w h (by omega) (by omega)
  by_cases h7 : nth xs 0 % 16 = 7
  · simp only [h7]; exact first_7 A n cap xs w h (by omega) (by omega)
  by_cases h8 : nth xs 0 % 16 = 8
  · simp only [h8]; exact first_8 A n cap xs w h (by omega) (by omega)
  by_cases h9 : nth xs 0 % 16 = 9
  · simp only [h9]; exact first_9 A n cap xs w h (by omega) (by omega)
  simp only [h2, h3, h10, h4, h5, h6, h7, h8, h9, if_false]
  by_cases hs : nth xs 0 % 16 ≤ 1
  · exact first_0 A n cap xs w h (by omega) hs
  · exact first_11 A n cap xs w h (by omega) (by omega)

theorem breads_zero (W : World) (A : Option Addr) : BReads W A 0 [] := ⟨⟨rfl, fun h => absurd h (by omega)⟩, fun _ h => by cases h⟩

set_option maxHeartbeats 800000 in
theorem rparse_any (A : Option Addr) (n cap : Nat) (xs : List Int) (w : World) (hx : BReads w A n xs) (hc : n ≤ cap) (hcm : cap ≤ 9223372036854775807) (hA : A = none → cap = 0) (hn : n ≤ 4096) :
    Calls Try.prog 9 #[.slice A n cap] w fun e w' => ∃ A' n' c', e = .returned (.slice A' n' c') ∧ OOwns w' w.heap.size A' n' c' (parseS xs) ∧ Below w.heap.size w w' := by
  have hl := hx.length
  have HX : Hid (∀ W, Below w.heap.size w W → BReads W A xs.length xs) := Lib.hid fun W h => by rw [hl]; exact hx.below h
  have HL := Lib.hid hl
  have HA := Lib.hid hA
  clear hx hA hl
  go_enter Try.func9, Try.ntmps9
  go_wp2
  go_loopg [0, 3] n (fun k b v W => ∃ (l : List OpV) (A : Option Addr) (c : Nat) (r : List Int) (Ab : Option Addr) (cb : Nat), k = r.length ∧ b = .slice Ab r.length cb ∧ v = .slice A l.length c ∧ OOwns W w.heap.size A l.length c l ∧ Hid (∀ W, Below w.heap.size w W → BReads W Ab r.length r) ∧ (r.length ≤ cb ∧ cb ≤ 9223372036854775807) ∧ Hid (Ab = none → cb = 0) ∧ Below w.heap.size w W ∧ Hid (l ++ parseS r = parseS xs) ∧ l.length + r.length ≤ n)
  case atStart => exact ⟨[], none, 0, xs, A, cap, HL.out.symm, by rw [HL.out], rfl, OOwns.nil _ _, HX, ⟨by rw [HL.out]; omega, hcm⟩, HA, Below.refl _ _, Lib.hid (by simp), by rw [HL.out]; simp⟩
  case round =>
    obtain ⟨l, A1, c1, r, Ab, cb, rfl, rfl, rfl, ho, HR, hcb, HAb, hB, HE, hle⟩ := hrel
    have hZ := hB.size
    by_cases hlt : 0 < r.length
    · have hne : r ≠ [] := by rintro rfl; simp at hlt
      have hcn := parseS_cons r hne
      have HC := Lib.hid hcn
      clear hcn hne
      go_wp2_with fail
      refine (first_any Ab r.length cb r _ (HR.out _ hB)).mono ?_
      rintro e w1 ⟨A3, n3, c3, rfl, ho3, hb3⟩
      have hl3 := ho3.length
      subst hl3
      have hX : Hid (∀ W, Below w1.heap.size w1 W → OOwns W w.heap.size A1 l.length c1 l ∧ BOwns W w.heap.size 5 A3 (opS r).1.d.length c3 (opS r).1.d) := Lib.hid fun W h => ⟨(ho.below hb3).below h, (ho3.below h).more (by omega)⟩
      have hB1 : Below w.heap.size w w1 := below_call hB hb3 (by omega)
      have hZ1 := hB1.size
      have hj := opS_pos r
      have hle1 : l.length ≤ 4096 := by omega
      have HRC : Hid (∀ k, k ≤ r.length → ∀ W, Below w.heap.size w W → BReads W (if cb = k then Ab else Ab.map (·.add k)) (r.length - k) (r.drop k)) := Lib.hid fun k hk W h => (HR.out W h).cut hk hcb.1
      obtain ⟨ad, rfl, _⟩ := (HR.out _ (Below.refl _ _)).at_ hlt
      clear ho ho3 hb3 hB
      generalize hov : (opS r).1 = v at *
      generalize hoj : (opS r).2 = j at *
      clear hov hoj
      by_cases hjl : (r.length : Int) < j
      · go_wp2_with (at_builtin; refine append_op _ rfl (.tmp 14) (.tmp 16) rfl w.heap.size A1 l.length c1 l rfl (hX.out _ (by (focus (repeat' (first | (with_reducible exact Below.refl _ _) | (with_reducible assumption) | (with_reducible refine Below.alloc ?_ ?_ _) | (with_reducible refine below_drewN ?_ _) | (with_reducible refine Below.drew ?_) | (with_reducible refine Below.setCell ?_ ?_ _) | omega | (simp; done) | (simp; omega)))))).1 (w1.heap.size + 1) 1 ⟨v, A3, c3⟩ rfl ?_ ?_ (hX.out _ (by (focus (repeat' (first | (with_reducible exact Below.refl _ _) | (with_reducible assumption) | (with_reducible refine Below.alloc ?_ ?_ _) | (with_reducible refine below_drewN ?_ _) | (with_reducible refine Below.drew ?_) | (with_reducible refine Below.setCell ?_ ?_ _) | omega | (simp; done) | (simp; omega)))))).2 ?_ ?_ ?_; (intro q u hu; match q, hu with | 0, hu => (injection hu with hu; subst hu; simp) | 1, hu => (injection hu with hu; subst hu; simp) | 2, hu => (injection hu with hu; subst hu; simp) | 3, hu => (injection hu with hu; subst hu; simp) | 4, hu => (injection hu with hu; subst hu; simp) | q + 5, hu => (simp [OpC.cells] at hu)); simp; omega; (simp; omega); intro A4 c4 w3 ho4 hb4; have hB4 : Below w.heap.size w w3 := Below.trans (by (focus (repeat' (first | (with_reducible exact Below.refl _ _) | (with_reducible assumption) | (with_reducible refine Below.alloc ?_ ?_ _) | (with_reducible refine below_drewN ?_ _) | (with_reducible refine Below.drew ?_) | (with_reducible refine Below.setCell ?_ ?_ _) | omega | (simp; done) | (simp; omega))))) (hb4.mono (by omega)))
        all_goals
          go_roundg 0
          case measure => omega
          case rel => exact ⟨l ++ [v], A4, c4, [], _, _, rfl, rfl, by simp, by simpa using ho4, Lib.hid (fun W _ => breads_zero W _), ⟨by simp, by omega⟩, Lib.hid (fun h => by cases h), hB4, Lib.hid (by rw [← HE.out, HC.out, List.drop_eq_nil_of_le (by omega)]; simp [parseS_nil]), by simp; omega⟩
      · go_wp2_with (at_builtin; refine append_op _ rfl (.tmp 14) (.tmp 16) rfl w.heap.size A1 l.length c1 l rfl (hX.out _ (by (focus (repeat' (first | (with_reducible exact Below.refl _ _) | (with_reducible assumption) | (with_reducible refine Below.alloc ?_ ?_ _) | (with_reducible refine below_drewN ?_ _) | (with_reducible refine Below.drew ?_) | (with_reducible refine Below.setCell ?_ ?_ _) | omega | (simp; done) | (simp; omega)))))).1 (w1.heap.size + 1) 1 ⟨v, A3, c3⟩ rfl ?_ ?_ (hX.out _ (by (focus (repeat' (first | (with_reducible exact Below.refl _ _) | (with_reducible assumption) | (with_reducible refine Below.alloc ?_ ?_ _) | (with_reducible refine below_drewN ?_ _) | (with_reducible refine Below.drew ?_) | (with_reducible refine Below.setCell ?_ ?_ _) | omega | (simp; done) | (simp; omega)))))).2 ?_ ?_ ?_; (intro q u hu; match q, hu with | 0, hu => (injection hu with hu; subst hu; simp) | 1, hu => (injection hu with hu; subst hu; simp) | 2, hu => (injection hu with hu; subst hu; simp) | 3, hu => (injection hu with hu; subst hu; simp) | 4, hu => (injection hu with hu; subst hu; simp) | q + 5, hu => (simp [OpC.cells] at hu)); simp; omega; (simp; omega); intro A4 c4 w3 ho4 hb4; have hB4 : Below w.heap.size w w3 := Below.trans (by (focus (repeat' (first | (with_reducible exact Below.refl _ _) | (with_reducible assumption) | (with_reducible refine Below.alloc ?_ ?_ _) | (with_reducible refine below_drewN ?_ _) | (with_reducible refine Below.drew ?_) | (with_reducible refine Below.setCell ?_ ?_ _) | omega | (simp; done) | (simp; omega))))) (hb4.mono (by omega)))
        · go_roundg (r.drop j).length
          case measure => rw [List.length_drop]; omega
          case rel => exact ⟨l ++ [v], A4, c4, r.drop j, some ad, 0, rfl, by rw [List.length_drop], by simp, by simpa using ho4, Lib.hid (fun W h => by rw [List.length_drop]; have := HRC.out j (by omega) W h; rw [if_pos (by omega)] at this; exact this), ⟨by rw [List.length_drop]; omega, by omega⟩, Lib.hid (fun h => by cases h), hB4, Lib.hid (by rw [← HE.out, HC.out]; simp), by simp; omega⟩
        · go_roundg (r.drop j).length
          case measure => rw [List.length_drop]; omega
          case rel => exact ⟨l ++ [v], A4, c4, r.drop j, some (ad.add j), cb - j, rfl, by rw [List.length_drop], by simp, by simpa using ho4, Lib.hid (fun W h => by rw [List.length_drop]; have := HRC.out j (by omega) W h; rw [if_neg (by assumption)] at this; exact this), ⟨by rw [List.length_drop]; omega, by omega⟩, Lib.hid (fun h => by cases h), hB4, Lib.hid (by rw [← HE.out, HC.out]; simp), by simp; omega⟩
    · have hrn : r = [] := List.eq_nil_of_length_eq_zero (by omega)
      subst hrn
      have HE' := HE.out
      rw [parseS_nil, List.append_nil] at HE'
      subst HE'
      go_wp2
      go_ret
      exact ⟨A1, (parseS xs).length, c1, rfl, ho, hB⟩

end Go.Proofs.Ytpmlipcpohajgaa
