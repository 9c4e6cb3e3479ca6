/-
  What the statements' package knows of its example.
-/
import Derived.Test.YtleckpoppmecdaaKnowA
import Derived.Test.YtleckpoppmecdaaJudges
import Derived.Test.YtleckpoppmecdaaRowLaw
set_option linter.unusedSimpArgs false
set_option linter.unusedVariables false
namespace Go.Proofs.Ytleckpoppmecdaa
open Go.RowKit

def zeroC : Cfg := ⟨0, 0, 0, 0, 0, 0, 0, 0, 0, 0, 0, 0, ⟨#[]⟩, ⟨#[]⟩, 0, 0⟩
theorem zero_no : okB zeroC = false := by decide +kernel
theorem given_game : gameB givenC = true := by decide +kernel

theorem numbers_given (w : World) : Calls Try.prog 9 #[.agg #[.int .i64 20, .int .i64 0, .int .i64 10, .int .i64 100, .int .i64 10, .int .i64 3, .int .u64 10, .int .u64 5, .int .u64 2, .int .u64 9, .int .i64 2, .int .u64 50, .string ⟨#[122, 101, 114, 111]⟩, .string ⟨#[111, 110, 101, 49]⟩, .int .i64 100, .int .i64 5], .int .u64 23618, .int .i64 2362, .int .i64 471588, .int .i64 0] w fun e w' => e = .returned (.bool true) ∧ Below w.heap.size w w' := by
  have h := numbers_ok givenC w (by decide) given_ok
  rw [given_nums.2.1, given_nums.2.2.1, given_nums.2.2.2] at h
  exact h
theorem numbers_zero (w : World) : Calls Try.prog 9 #[.agg #[.int .i64 0, .int .i64 0, .int .i64 0, .int .i64 0, .int .i64 0, .int .i64 0, .int .u64 0, .int .u64 0, .int .u64 0, .int .u64 0, .int .i64 0, .int .u64 0, .string ⟨#[]⟩, .string ⟨#[]⟩, .int .i64 0, .int .i64 0], .int .u64 0, .int .i64 0, .int .i64 0, .int .i64 2] w fun e w' => e = .returned (.bool true) ∧ Below w.heap.size w w' :=
  numbers_no zeroC w (by decide) zero_no
theorem prompts_given (w : World) : Calls Try.prog 16 #[.agg #[.int .i64 20, .int .i64 0, .int .i64 10, .int .i64 100, .int .i64 10, .int .i64 3]] w fun e w' => e = .returned (.tuple #[.int .i64 2360, .int .i64 0]) ∧ Below w.heap.size w w' := by
  have h := prompts_any givenC w
  rw [given_game, given_nums.1] at h
  exact h
theorem judges_nil (w : World) : Calls Try.prog 13 #[.agg #[.int .i64 20, .int .i64 0, .int .i64 10, .int .i64 100, .int .i64 10, .int .i64 3, .int .u64 10, .int .u64 5, .int .u64 2, .int .u64 9, .int .i64 2, .int .u64 50, .string ⟨#[122, 101, 114, 111]⟩, .string ⟨#[111, 110, 101, 49]⟩, .int .i64 100, .int .i64 5], .slice none 0 0, .int .i64 (-1), .int .i64 0] w fun e w' => e = .returned (.bool true) ∧ Below w.heap.size w w' :=
  judges_ok givenC none 0 0 [] w given_ok ⟨rfl, (fun _ h => by cases h), (fun h => by omega)⟩ (by decide)

def sents (D : Option Addr) (k : Nat) : List Value := (List.replicate k [Value.int .i64 0, Value.slice D 65535 65535]).flatten
theorem sents_succ (D : Option Addr) (k : Nat) : sents D (k + 1) = sents D k ++ [Value.int .i64 0, Value.slice D 65535 65535] := by
  unfold sents
  rw [List.replicate_succ', List.flatten_append]
  simp
theorem cell_new (w : World) (cs : Array Value) (t : TypeId) (o : Nat) : (w.alloc (.cells cs t)).cell? ⟨w.heap.size, o, none⟩ = cs[o]? := by
  exact World.cell?_alloc_new w cs t o
theorem frozen_new (w : World) (cs : Array Value) (t : TypeId) (o : Nat) : (w.alloc (.cells cs t)).frozen? ⟨w.heap.size, o, none⟩ = false := by
  exact World.frozen?_alloc_new w cs t o
theorem sents_get (D : Option Addr) (n j : Nat) (h : j < n) : (sents D n)[j * 2]? = some (.int .i64 0) ∧ (sents D n)[j * 2 + 1]? = some (.slice D 65535 65535) := by
  induction n generalizing j with
  | zero => omega
  | succ n ih =>
    have e : sents D (n + 1) = Value.int .i64 0 :: Value.slice D 65535 65535 :: sents D n := by unfold sents; rw [List.replicate_succ]; rfl
    rw [e]
    cases j with
    | zero => exact ⟨rfl, rfl⟩
    | succ j =>
      have := ih j (by omega)
      rw [show (j + 1) * 2 = j * 2 + 1 + 1 from by omega]
      exact ⟨by simpa using this.1, by simpa using this.2⟩
theorem add_at (g k : Nat) : (⟨g, 0, none⟩ : Addr).add k = ⟨g, k, none⟩ := by
  cases k <;> simp [Addr.add]
theorem sum_long : (List.replicate 1000 65535).sum = 65535000 := by decide +kernel
theorem bad_long (sA : Option Addr) (sc : Nat) : judgeI givenC [⟨sA, 1000, sc, none, 0, 0, List.replicate 1000 65535⟩] 0 = 0 := by
  unfold judgeI
  rw [if_pos]
  unfold badB
  simp only [Bool.or_eq_true]
  left
  simp only [sum_long]
  decide +kernel
theorem sents_at {w : World} {base : Nat} {sA D : Option Addr} {sc : Nat} (h : w.ownsRow base 51 2 (.slice sA 1000 sc) 1000 (sents D 1000)) :
    SentAt w ⟨sA, 1000, sc, none, 0, 0, List.replicate 1000 65535⟩ := by
  refine ⟨List.length_replicate .., fun _ => ?_⟩
  obtain ⟨g, cap, e, _, _⟩ := h.form (by omega)
  injection e with e1 e2 e3
  subst e1; subst e3
  refine ⟨g, rfl, (h.lt g rfl).2, fun j hj => ?_⟩
  have hs := sents_get D 1000 j hj
  refine ⟨?_, D, 65535, ?_⟩
  · have := h.cells rfl _ _ hs.1
    rw [add_at] at this
    exact this
  · have := h.cells rfl _ _ hs.2
    simp only [List.getD_eq_getElem?_getD, List.getElem?_replicate]
    rw [if_pos hj]
    rw [add_at] at this
    exact this
theorem dids_one (w : World) (d : DidR) (hS : SentAt w d) (h1 : d.ls.sum ≤ 4000000000000000000) (h2 : d.sn ≤ 4000000000000000000) :
    DidsAt (w.alloc (.cells #[.int .i64 0, .int .i64 0, .int .i64 0, .slice none 0 0, .int .i64 0, .int .i64 0, .slice d.sA d.sn d.sc, .slice d.mA d.mn d.mc, .int .i64 0, .int .u64 0] 49)) (some ⟨w.heap.size, 0, none⟩) 1 [d] := by
  refine ⟨rfl, ?_, fun _ => ⟨_, rfl, by simp, ?_⟩⟩
  · intro d' hd'
    simp at hd'
    subst hd'
    exact ⟨hS.below (Below.alloc (Below.refl _ _) (Nat.le_refl _) _), h1, h2⟩
  · intro i d' hi
    cases i with
    | succ i => simp at hi
    | zero =>
      simp at hi
      subst hi
      unfold DidAt
      simp only [cell_new]
      exact ⟨rfl, rfl, rfl, rfl, rfl, rfl, rfl, rfl, rfl, rfl⟩
theorem Try.info5 : (Try.prog.info? 5).map (fun i => (i.zero, i.size, i.bytes)) = some (some (.int .u8 0), 1, 1) := by kernel_rfl
theorem Try.info51 : (Try.prog.info? 51).map (fun i => (i.zero, i.size, i.bytes)) = some (some (.agg #[.int .i64 0, .slice none 0 0]), 2, 32) := by kernel_rfl

set_option maxRecDepth 100000 in
set_option maxHeartbeats 800000 in
theorem known_any (w : World) :
    Calls Try.prog 7 #[] w fun e w' => e = .returned (.bool true) ∧ Below w.heap.size w w' := by
  go_enter Try.func7, Try.ntmps7
  go_wp2_with (first
    | (go_at_call 15; refine (given_any _).mono ?_; rintro e w1 ⟨rfl, hb1⟩; have hB1 : Below w.heap.size w w1 := below_call (by (focus (repeat' (first | (with_reducible exact Below.refl _ _) | (with_reducible assumption) | (with_reducible refine Below.alloc ?_ ?_ _) | (with_reducible refine below_drewN ?_ _) | (with_reducible refine Below.drew ?_) | (with_reducible refine Below.setCell ?_ ?_ _) | omega | (simp; done) | (simp; omega))))) hb1 (by (focus (first | omega | (simp only [World.size_alloc]; done) | (simp only [World.size_alloc]; omega) | (simp; done) | (simp; omega)))); have hZ1 := hB1.size)
    | (go_at_call 16; refine (prompts_given _).mono ?_; rintro e w2 ⟨rfl, hb2⟩; have hk2 := keep_at hb2 w1.heap.size (by (focus (first | omega | (simp only [World.size_alloc]; done) | (simp only [World.size_alloc]; omega) | (simp; done) | (simp; omega)))); have hB2 : Below w.heap.size w w2 := below_call (by (focus (repeat' (first | (with_reducible exact Below.refl _ _) | (with_reducible assumption) | (with_reducible refine Below.alloc ?_ ?_ _) | (with_reducible refine below_drewN ?_ _) | (with_reducible refine Below.drew ?_) | (with_reducible refine Below.setCell ?_ ?_ _) | omega | (simp; done) | (simp; omega))))) hb2 (by (focus (first | omega | (simp only [World.size_alloc]; done) | (simp only [World.size_alloc]; omega) | (simp; done) | (simp; omega)))); have hZ2 : w1.heap.size < w2.heap.size := (by have := hb2.size; simp at this; omega))
    | fail)
  refine (numbers_given _).mono ?_
  rintro e w3 ⟨rfl, hb3⟩
  have hB3 : Below w.heap.size w w3 := below_call hB2 hb3 hB2.size
  have hk3 := keep_at hb3 w1.heap.size hZ2
  have hZ3 : w1.heap.size < w3.heap.size := by have := hb3.size; omega
  clear hb3
  go_wp2_with fail
  refine (numbers_zero _).mono ?_
  rintro e w4 ⟨rfl, hb4⟩
  have hB4 : Below w.heap.size w w4 := below_call hB3 hb4 hB3.size
  have hk4 := keep_at hb4 w1.heap.size hZ3
  have hZ4 : w1.heap.size < w4.heap.size := by have := hb4.size; omega
  clear hb4
  go_wp2_with (first
    | (refine make_bytes_full _ rfl (.const (.int .i64 65535)) (.const (.int .i64 65535)) 43 rfl (w4.heap.size + 1) 5 Try.info5 Try.underlying43 .i64 .i64 65535 65535 65535 rfl rfl rfl rfl (by omega) (by simp) ?_; intro w5 ho5 hb5)
    | fail)
  have hB5 : Below w.heap.size w w5 := below_call (by (focus (repeat' (first | (with_reducible exact Below.refl _ _) | (with_reducible assumption) | (with_reducible refine Below.alloc ?_ ?_ _) | (with_reducible refine below_drewN ?_ _) | (with_reducible refine Below.drew ?_) | (with_reducible refine Below.setCell ?_ ?_ _) | omega | (simp; done) | (simp; omega))))) (hb5.mono (by (focus (first | omega | (simp only [World.size_alloc]; done) | (simp only [World.size_alloc]; omega) | (simp; done) | (simp; omega))))) (by (focus (first | omega | (simp only [World.size_alloc]; done) | (simp only [World.size_alloc]; omega) | (simp; done) | (simp; omega))))
  have hkk := keep_at hb5 w1.heap.size (by (focus (first | omega | (simp only [World.size_alloc]; done) | (simp only [World.size_alloc]; omega) | (simp; done) | (simp; omega))))
  have hkd := keep_at hb5 w4.heap.size (by (focus (first | omega | (simp only [World.size_alloc]; done) | (simp only [World.size_alloc]; omega) | (simp; done) | (simp; omega))))
  have hfd := keepf_at hb5 w4.heap.size (by (focus (first | omega | (simp only [World.size_alloc]; done) | (simp only [World.size_alloc]; omega) | (simp; done) | (simp; omega))))
  have hZ5 : w4.heap.size + 1 ≤ w5.heap.size := by have := hb5.size; simp at this; omega
  have HS0 := Lib.hid (World.ownsRow_nil w5 w5.heap.size 51 2)
  clear ho5 hb5
  have hcf : ∀ o, w5.cell? ⟨w1.heap.size, o, none⟩ = w4.cell? ⟨w1.heap.size, o, none⟩ := fun o => (hkk o).trans (World.cell?_alloc_past _ _ _ hZ4)
  have hdz := fun o => (hkd o).trans (cell_new w4 _ 49 o)
  have hfz : ∀ o, w5.frozen? ⟨w4.heap.size, o, none⟩ = false := fun o => (hfd o).trans (frozen_new w4 _ 49 o)
  have HD5 := Lib.hid hdz
  clear hkk hkd hfd hdz
  go_loopg [6] 1000 (fun k i W => ∃ (p : Nat) (sA : Option Addr) (sc : Nat), p + k = 1000 ∧ i = .int .i64 p ∧ W.ownsRow w5.heap.size 51 2 (.slice sA p sc) p (sents (some ⟨w4.heap.size + 1, 0, none⟩) p) ∧ Below w.heap.size w W ∧ w5.heap.size ≤ W.heap.size ∧ (∀ o, W.cell? ⟨w1.heap.size, o, none⟩ = w4.cell? ⟨w1.heap.size, o, none⟩) ∧ (∀ o, W.frozen? ⟨w4.heap.size, o, none⟩ = false) ∧ Hid (∀ o, W.cell? ⟨w4.heap.size, o, none⟩ = if o = 6 then some (.slice sA p sc) else w5.cell? ⟨w4.heap.size, o, none⟩))
  case atStart =>
    refine ⟨0, none, 0, by omega, rfl, HS0.out, hB5, Nat.le_refl _, hcf, hfz, Lib.hid (fun o => ?_)⟩
    by_cases ho : o = 6
    · subst ho; rw [HD5.out]; rfl
    · rw [if_neg ho]
  case round =>
    obtain ⟨p, sA, sc, hp, rfl, ho, hB, hZ, hc1, hf, HD⟩ := hrel
    have h6 : wr.cell? ⟨w4.heap.size, 6, none⟩ = some (.slice sA p sc) := by rw [HD.out 6]; rfl
    by_cases hlt : p < 1000
    · have hlt' : (p : Int) < 1000 := by omega
      have HO := Lib.hid ho
      clear ho
      have hf6 := hf 6
      have hlit : ∀ (W : World), Reads (W.alloc (.cells #[.int .i64 0, .slice (some ⟨w4.heap.size + 1, 0, none⟩) 65535 65535] 51)) 2 (some ⟨W.heap.size, 0, none⟩) 1 [.int .i64 0, .slice (some ⟨w4.heap.size + 1, 0, none⟩) 65535 65535] := fun W =>
        ⟨rfl, fun _ => by obtain ⟨ad, e, h1, h2⟩ := (reads_lit W #[.int .i64 0, .slice (some ⟨w4.heap.size + 1, 0, none⟩) 65535 65535] 51).2 (by simp); exact ⟨ad, e, h1, h2⟩⟩
      have HLIT := Lib.hid hlit
      clear hlit
      go_wp2_with (first
        | (at_builtin; refine append_row _ rfl (.tmp 42) (.tmp 45) 46 rfl w5.heap.size 51 (.agg #[.int .i64 0, .slice none 0 0]) 2 32 Try.info51 Try.underlying46 rfl (by decide) _ p _ rfl (HO.out.alloc _) _ 1 _ rfl (fun h => by cases h) (HLIT.out _) (by intro u hu; simp at hu; rcases hu with rfl | rfl <;> rfl) (by omega) (by omega) ?_ ?_; (focus (first | omega | (simp only [World.size_alloc]; done) | (simp only [World.size_alloc]; omega) | (simp; done) | (simp; omega))); intro g c2 w6 ho6 hb6; have HO6 := Lib.hid ho6; clear ho6; have k6 := keep_far hb6 w4.heap.size (by omega) (by omega); have kc6 := Lib.hid (keep_far hb6 w1.heap.size (by omega) (by omega)); have kf6 := keepf_far hb6 w4.heap.size (by omega) (by omega); have hZ6 : w5.heap.size ≤ w6.heap.size := (by have := hb6.size; simp at this; omega); have hZ6' : w4.heap.size < w6.heap.size := (by omega); have HB6 := Lib.hid hb6)
        | fail)
      go_roundg (gk - 1)
      case measure => omega
      case rel =>
        have hsome : (w6.cell? ⟨w4.heap.size, 6, none⟩).isSome = true := by rw [k6 6, h6]; rfl
        refine ⟨p + 1, some ⟨g, 0, none⟩, c2, by omega, by simp, ?_, ?_, by simpa using hZ6, ?_, ?_, Lib.hid ?_⟩
        · rw [sents_succ]
          exact ownsRow_setCell_below HO6.out (by simp only; omega) _
        · refine Below.setCell (Below.trans (by (focus (repeat' (first | (with_reducible exact Below.refl _ _) | (with_reducible assumption) | (with_reducible refine Below.alloc ?_ ?_ _) | (with_reducible refine below_drewN ?_ _) | (with_reducible refine Below.drew ?_) | (with_reducible refine Below.setCell ?_ ?_ _) | omega | (simp; done) | (simp; omega))))) (HB6.out.mono (by omega))) (by simp only; omega) _
        · intro o
          rw [World.cell?_setCell_far _ _ _ _ (by simp only; omega), kc6.out o, hc1 o]
        · intro o
          rw [World.frozen?_setCell, kf6 o, hf o]
        · intro o
          by_cases ho : o = 6
          · subst ho; rw [World.cell?_setCell_same' _ _ _ hsome]; rfl
          · rw [if_neg ho, World.cell?_setCell_other (h := (by intro h; injection h with _ h2; exact ho h2.symm)), k6 o, HD.out o, if_neg ho]
    · have hp' : p = 1000 := by omega
      subst hp'
      have hd0 : ∀ o, wr.cell? ⟨w4.heap.size, o, none⟩ = if o = 6 then some (.slice sA 1000 sc) else _ := fun o => (HD.out o).trans (by rw [HD5.out o])
      have hS := Lib.hid (sents_at ho)
      have hB' := hB
      have c0 := hd0 0
      have c1 := hd0 1
      have c2 := hd0 2
      have c3 := hd0 3
      have c4 := hd0 4
      have c5 := hd0 5
      have c6 := hd0 6
      have c7 := hd0 7
      have c8 := hd0 8
      have c9 := hd0 9
      simp at c0 c1 c2 c3 c4 c5 c6 c7 c8 c9
      clear hd0 HD HD5
      have hZr : w4.heap.size < wr.heap.size := by omega
      have hZr' : w1.heap.size < wr.heap.size := by omega
      go_wp2_with fail
      refine (judges_nil _).mono ?_
      rintro e w7 ⟨rfl, hb7⟩
      have hk7 := keep_at hb7 w1.heap.size (by omega)
      have hkd7 := keep_at hb7 w4.heap.size (by omega)
      have hB7 : Below w.heap.size w w7 := below_call hB hb7 (by omega)
      have hZ7 : w4.heap.size < w7.heap.size := by have := hb7.size; omega
      have hZ7' : w1.heap.size < w7.heap.size := by omega
      have hS7 := Lib.hid (dids_one w7 _ (hS.out.below hb7) (by simp only [sum_long]; omega) (by simp only; omega))
      have hJ := fun (W : World) (A : Option Addr) (h : DidsAt W A 1 [⟨sA, 1000, sc, none, 0, 0, List.replicate 1000 65535⟩]) => judges_ok givenC A 1 1 _ W given_ok h (by omega)
      simp only [bad_long] at hJ
      have HJ := Lib.hid hJ
      clear hb7 hJ
      go_wp2_with fail
      refine (HJ.out _ _ hS7.out).mono ?_
      rintro e w8 ⟨rfl, hb8⟩
      have hB8 : Below w.heap.size w w8 := below_call (by (focus (repeat' (first | (with_reducible exact Below.refl _ _) | (with_reducible assumption) | (with_reducible refine Below.alloc ?_ ?_ _) | (with_reducible refine below_drewN ?_ _) | (with_reducible refine Below.drew ?_) | (with_reducible refine Below.setCell ?_ ?_ _) | omega | (simp; done) | (simp; omega))))) hb8 (by (focus (first | omega | (simp only [World.size_alloc]; done) | (simp only [World.size_alloc]; omega) | (simp; done) | (simp; omega))))
      clear hb8
      go_wp2_with fail
      go_returns
      exact ⟨rfl, hB8⟩

end Go.Proofs.Ytleckpoppmecdaa
