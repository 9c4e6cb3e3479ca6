/-
  script.Parse: the operations of any bytes.
-/
import Derived.Test.YtpmlipcpohajgaaOps
import Derived.Deep.LoopGhost
set_option linter.unusedSimpArgs false
set_option linter.unusedVariables false
namespace Go.Proofs.Ytpmlipcpohajgaa
open Go.RowKit

theorem opS_pos (xs : List Int) : 1 ≤ (opS xs).2 := by
  unfold opS
  simp only
  repeat' split
  all_goals simp
  all_goals omega
/-- The operations of bytes; fuel. -/
def parseF : Nat → List Int → List OpV
  | 0, _ => []
  | f + 1, xs => if xs = [] then [] else (opS xs).1 :: parseF f (xs.drop (opS xs).2)
def parseS (xs : List Int) : List OpV := parseF xs.length xs
theorem parseF_enough : ∀ (f g : Nat) (xs : List Int), xs.length ≤ f → xs.length ≤ g → parseF f xs = parseF g xs := by
  intro f
  induction f with
  | zero =>
    intro g xs h _
    have : xs = [] := List.eq_nil_of_length_eq_zero (by omega)
    subst this
    cases g <;> simp [parseF]
  | succ f ih =>
    intro g xs h hg
    cases g with
    | zero =>
      have : xs = [] := List.eq_nil_of_length_eq_zero (by omega)
      subst this
      simp [parseF]
    | succ g =>
      simp only [parseF]
      split
      · rfl
      · have := opS_pos xs
        rw [ih g _ (by rw [List.length_drop]; omega) (by rw [List.length_drop]; omega)]
theorem parseS_nil : parseS [] = [] := rfl
theorem parseS_cons (xs : List Int) (h : xs ≠ []) : parseS xs = (opS xs).1 :: parseS (xs.drop (opS xs).2) := by
  unfold parseS
  have hl : 0 < xs.length := List.length_pos_iff.2 h
  have := opS_pos xs
  obtain ⟨m, hm⟩ : ∃ m, xs.length = m + 1 := ⟨xs.length - 1, by omega⟩
  rw [hm]
  simp only [parseF, if_neg h]
  rw [parseF_enough m (xs.drop (opS xs).2).length _ (by rw [List.length_drop]; omega) (Nat.le_refl _)]

set_option maxHeartbeats 800000 in
theorem parse_any (A : Option Addr) (n cap : Nat) (xs : List Int) (w : World) (hx : BReads w A n xs) (hc : n ≤ cap) (hcm : cap ≤ 9223372036854775807) (hA : A = none → cap = 0) (hn : n ≤ 4096) :
    Calls Try.prog 7 #[.slice A n cap] w fun e w' => ∃ A' n' c', e = .returned (.tuple #[.slice A' n' c', .int .i64 0]) ∧ OOwns w' w.heap.size A' n' c' (parseS xs) ∧ Below w.heap.size w w' := by
  have hl := hx.length
  have HX := Lib.hid hx
  have hR0 : Hid (Rd (w.alloc (.cells #[.slice A n cap] 54)) (w.heap.size + 1) w.heap.size xs) := Lib.hid ⟨⟨by omega, by simp⟩, A, n, cap, by simp, (World.frozen?_alloc_new w _ 54 0), hx.alloc _, hc, hcm, hA, fun h0 ad e => by
    obtain ⟨ad', e', hb, _⟩ := hx.1.2 h0
    rw [e] at e'
    injection e' with e'
    subst e'
    exact ⟨by omega, by omega⟩⟩
  have HL := Lib.hid hl
  clear hx hA hl
  go_enter Try.func7, Try.ntmps7
  go_wp2
  go_loopg [4] n (fun k v W => ∃ (l : List OpV) (A : Option Addr) (c : Nat) (r : List Int), k = r.length ∧ v = .slice A l.length c ∧ OOwns W (w.heap.size + 1) A l.length c l ∧ Rd W (w.heap.size + 1) w.heap.size r ∧ Below w.heap.size w W ∧ Hid (l ++ parseS r = parseS xs) ∧ l.length + r.length ≤ n)
  case atStart => exact ⟨[], none, 0, xs, HL.out.symm, rfl, OOwns.nil _ _, hR0.out, by (focus (repeat' (first | (with_reducible exact Below.refl _ _) | (with_reducible assumption) | (with_reducible refine Below.alloc ?_ ?_ _) | (with_reducible refine below_drewN ?_ _) | (with_reducible refine Below.drew ?_) | (with_reducible refine Below.setCell ?_ ?_ _) | omega | (simp; done) | (simp; omega)))), Lib.hid (by simp), by rw [HL.out]; simp⟩
  case round =>
    obtain ⟨l, A1, c1, r, rfl, rfl, ho, hR, hB, HE, hle⟩ := hrel
    have hZ := hR.1.2
    have hRR := Lib.hid hR
    obtain ⟨_, A2, n2, c2, hc, hf, hr, _, hc2, _⟩ := hR
    have hr2 := hr.length
    subst hr2
    clear hr
    by_cases hlt : 0 < r.length
    · have hne : r ≠ [] := by rintro rfl; simp at hlt
      have hcn := parseS_cons r hne
      have HC := Lib.hid hcn
      clear hcn hne
      go_wp2_with fail
      refine (op_any (w.heap.size + 1) w.heap.size r _ hRR.out).mono ?_
      rintro e w1 ⟨A3, n3, c3, rfl, ho3, hR3, hg3⟩
      have hl3 := ho3.length
      subst hl3
      have hX : Hid (∀ W, Below w1.heap.size w1 W → OOwns W (w.heap.size + 1) A1 l.length c1 l ∧ BOwns W (w.heap.size + 1) 5 A3 (opS r).1.d.length c3 (opS r).1.d) := Lib.hid fun W h => ⟨(ho.only hg3 (by omega)).below h, (ho3.below h).more (by omega)⟩
      have hgz := hg3.size
      have hB1 : Below w.heap.size w w1 := only_below hg3 hB (by omega) (Nat.le_refl _)
      have HR3 : Hid (∀ W, Below (w.heap.size + 1) w1 W → Rd W (w.heap.size + 1) w.heap.size (r.drop (opS r).2)) := Lib.hid fun W h => hR3.below h
      have hj := opS_pos r
      have hle1 : l.length ≤ 4096 := by omega
      clear ho ho3 hR3 hg3 hB
      generalize hov : (opS r).1 = v at *
      generalize hoj : (opS r).2 = j at *
      clear hov hoj
      go_wp2_with (at_builtin; refine append_op _ rfl (.tmp 18) (.tmp 21) rfl (w.heap.size + 1) A1 l.length c1 l rfl (hX.out _ (by (focus (repeat' (first | (with_reducible exact Below.refl _ _) | (with_reducible assumption) | (with_reducible refine Below.alloc ?_ ?_ _) | (with_reducible refine below_drewN ?_ _) | (with_reducible refine Below.drew ?_) | (with_reducible refine Below.setCell ?_ ?_ _) | omega | (simp; done) | (simp; omega)))))).1 w1.heap.size 1 ⟨v, A3, c3⟩ rfl ?_ ?_ (hX.out _ (by (focus (repeat' (first | (with_reducible exact Below.refl _ _) | (with_reducible assumption) | (with_reducible refine Below.alloc ?_ ?_ _) | (with_reducible refine below_drewN ?_ _) | (with_reducible refine Below.drew ?_) | (with_reducible refine Below.setCell ?_ ?_ _) | omega | (simp; done) | (simp; omega)))))).2 ?_ ?_ ?_; (intro q u hu; match q, hu with | 0, hu => (injection hu with hu; subst hu; simp) | 1, hu => (injection hu with hu; subst hu; simp) | 2, hu => (injection hu with hu; subst hu; simp) | 3, hu => (injection hu with hu; subst hu; simp) | 4, hu => (injection hu with hu; subst hu; simp) | q + 5, hu => (simp [OpC.cells] at hu)); simp; omega; (simp; omega); intro A4 c4 w3 ho4 hb4; have hB4 : Below w.heap.size w w3 := Below.trans (by (focus (repeat' (first | (with_reducible exact Below.refl _ _) | (with_reducible assumption) | (with_reducible refine Below.alloc ?_ ?_ _) | (with_reducible refine below_drewN ?_ _) | (with_reducible refine Below.drew ?_) | (with_reducible refine Below.setCell ?_ ?_ _) | omega | (simp; done) | (simp; omega))))) (hb4.mono (by omega)); have HR4 := HR3.out w3 (Below.trans (by (focus (repeat' (first | (with_reducible exact Below.refl _ _) | (with_reducible assumption) | (with_reducible refine Below.alloc ?_ ?_ _) | (with_reducible refine below_drewN ?_ _) | (with_reducible refine Below.drew ?_) | (with_reducible refine Below.setCell ?_ ?_ _) | omega | (simp; done) | (simp; omega))))) hb4))
      go_roundg (r.drop j).length
      case measure => rw [List.length_drop]; omega
      case rel => exact ⟨l ++ [v], A4, c4, r.drop j, rfl, by simp, by simpa using ho4, HR4, hB4, Lib.hid (by rw [← HE.out, HC.out]; simp), by rw [List.length_drop, List.length_append]; simp; omega⟩
    · have hrn : r = [] := List.eq_nil_of_length_eq_zero (by omega)
      subst hrn
      have HE' := HE.out
      rw [parseS_nil, List.append_nil] at HE'
      subst HE'
      go_wp2
      go_ret2
      exact ⟨A1, (parseS xs).length, c1, rfl, ho.more (by omega), hB⟩

theorem parse_long (A : Option Addr) (n cap : Nat) (w : World) (hn : (4096 : Int) < n) :
    Calls Try.prog 7 #[.slice A n cap] w fun e w' => e = .returned (.tuple #[.slice none 0 0, .int .i64 5]) ∧ w = w' := by
  go_enter Try.func7, Try.ntmps7
  go_wp2
  go_ret2
  exact ⟨rfl, rfl⟩

end Go.Proofs.Ytpmlipcpohajgaa
