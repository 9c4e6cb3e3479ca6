/-
  FrameValid: for every two frames the statement FrameValid answers true; no condition.
-/
import Derived.Test.YtbcleifhadkecaaKnown
import Derived.Test.YtbcleifhadkecaaOpen
import Derived.Deep.RegionHeld3
import Derived.ProofKit
import Derived.OpenShut
import Derived.ShutString
import Derived.ChangeOld
import Derived.Below
import Derived.Lib.SmallJoins
set_option linter.unusedSimpArgs false
set_option linter.unusedVariables false
namespace Go.Proofs.Ytbcleifhadkecaa.frameValid
open Go.Joins Go.ChangeShapes Go.WideShapes Go.ChangeAt Go.RowKit
open Go.ChangeMaps (open_string shut_string)


set_option maxHeartbeats 1600000 in
theorem walk_small (k s m k' s' m' : Int) (A B : Option Addr) (n c n' c' : Nat) (xs ys : List Int) (w : World) (hx : BReads w A n xs) (hy : BReads w B n' ys) (hn : n ≤ 600) (hn' : n' ≤ 600) :
    Calls Try.prog 8 #[.agg #[.int .i64 k, .int .u16 s, .int .u32 m, .slice A n c], .agg #[.int .i64 k', .int .u16 s', .int .u32 m', .slice B n' c']] w fun e w' => e = .returned (.bool true) ∧ Below w.heap.size w w' := by
  have HX : Hid (∀ W, Below w.heap.size w W → BReads W A n xs) := fun W h => hx.below h
  have HY : Hid (∀ W, Below w.heap.size w W → BReads W B n' ys) := fun W h => hy.below h
  have e1 : eqB k s m xs k s m xs = true := by simp [eqB]
  have HK : Hid (∀ W W' : World, (W.cell? ⟨w.heap.size, 0, none⟩ = some (.int .i64 k) ∧ W.cell? ⟨w.heap.size, 1, none⟩ = some (.int .u16 s) ∧ W.cell? ⟨w.heap.size, 2, none⟩ = some (.int .u32 m) ∧ W.cell? ⟨w.heap.size, 3, none⟩ = some (.slice A n c) ∧ W.cell? ⟨w.heap.size + 1, 0, none⟩ = some (.int .i64 k') ∧ W.cell? ⟨w.heap.size + 1, 1, none⟩ = some (.int .u16 s') ∧ W.cell? ⟨w.heap.size + 1, 2, none⟩ = some (.int .u32 m') ∧ W.cell? ⟨w.heap.size + 1, 3, none⟩ = some (.slice B n' c') ∧ w.heap.size + 2 ≤ W.heap.size ∧ Below w.heap.size w W) → Below W.heap.size W W' → (W'.cell? ⟨w.heap.size, 0, none⟩ = some (.int .i64 k) ∧ W'.cell? ⟨w.heap.size, 1, none⟩ = some (.int .u16 s) ∧ W'.cell? ⟨w.heap.size, 2, none⟩ = some (.int .u32 m) ∧ W'.cell? ⟨w.heap.size, 3, none⟩ = some (.slice A n c) ∧ W'.cell? ⟨w.heap.size + 1, 0, none⟩ = some (.int .i64 k') ∧ W'.cell? ⟨w.heap.size + 1, 1, none⟩ = some (.int .u16 s') ∧ W'.cell? ⟨w.heap.size + 1, 2, none⟩ = some (.int .u32 m') ∧ W'.cell? ⟨w.heap.size + 1, 3, none⟩ = some (.slice B n' c') ∧ w.heap.size + 2 ≤ W'.heap.size ∧ Below w.heap.size w W')) := by
    intro W W' ⟨h1, h2, h3, h4, h5, h6, h7, h8, hz, hB⟩ hb
    have hz' := hb.size
    have c0 := keep_at hb w.heap.size (by omega)
    have c1 := keep_at hb (w.heap.size + 1) (by omega)
    exact ⟨(c0 _).trans h1, (c0 _).trans h2, (c0 _).trans h3, (c0 _).trans h4, (c1 _).trans h5, (c1 _).trans h6, (c1 _).trans h7, (c1 _).trans h8, by omega, below_call hB hb (by omega)⟩
  clear hx hy
  go_enter Try.func8, Try.ntmps8
  go_wp2
  go_region_held3 (fun W => W.cell? ⟨w.heap.size, 0, none⟩ = some (.int .i64 k) ∧ W.cell? ⟨w.heap.size, 1, none⟩ = some (.int .u16 s) ∧ W.cell? ⟨w.heap.size, 2, none⟩ = some (.int .u32 m) ∧ W.cell? ⟨w.heap.size, 3, none⟩ = some (.slice A n c) ∧ W.cell? ⟨w.heap.size + 1, 0, none⟩ = some (.int .i64 k') ∧ W.cell? ⟨w.heap.size + 1, 1, none⟩ = some (.int .u16 s') ∧ W.cell? ⟨w.heap.size + 1, 2, none⟩ = some (.int .u32 m') ∧ W.cell? ⟨w.heap.size + 1, 3, none⟩ = some (.slice B n' c') ∧ w.heap.size + 2 ≤ W.heap.size ∧ Below w.heap.size w W)
    (first
      | exact HK.out _ _ (by assumption) hb
      | (refine ⟨?_, ?_, ?_, ?_, ?_, ?_, ?_, ?_, ?_, ?_⟩ <;> first | (simp; done) | (focus (repeat' (first | (with_reducible exact Below.refl _ _) | (with_reducible assumption) | (with_reducible refine Below.alloc ?_ ?_ _) | (with_reducible refine below_drewN ?_ _) | (with_reducible refine Below.drew ?_) | (with_reducible refine Below.setCell ?_ ?_ _) | omega | (simp; done) | (simp; omega)))))
      | (obtain ⟨g1, g2, g3, g4, g5, g6, g7, g8, g9, g10⟩ := HK.out _ _ (by assumption) hb; assumption)
      | (simp; done)
      | (focus (repeat' (first | (with_reducible exact Below.refl _ _) | (with_reducible assumption) | (with_reducible refine Below.alloc ?_ ?_ _) | (with_reducible refine below_drewN ?_ _) | (with_reducible refine Below.drew ?_) | (with_reducible refine Below.setCell ?_ ?_ _) | omega | (simp; done) | (simp; omega)))))
    (first
      | (go_at_call 21; refine (valid_any _ _ _ _ _ _ _).mono ?_; rintro e w' ⟨rfl, hb⟩)
      | (go_at_call 10; refine (rvalid_any _ _ _ _ _ _ _).mono ?_; rintro e w' ⟨rfl, hb⟩)
      | (go_at_call 22; ((with_reducible refine (equal_any k s m k' s' m' A B n c n' c' xs ys _ ?_ ?_).mono ?_); exact HX.out _ (by go_split_ands; assumption); exact HY.out _ (by go_split_ands; assumption); rintro e w' ⟨rfl, hb⟩))
      | (go_at_call 22; ((with_reducible refine (equal_any k s m k s m A A n c n c xs xs _ ?_ ?_).mono ?_); exact HX.out _ (by go_split_ands; assumption); exact HX.out _ (by go_split_ands; assumption); rintro e w' ⟨rfl, hb⟩))
      | (go_at_call 18; ((with_reducible refine (requal_any k s m k' s' m' A B n c n' c' xs ys _ ?_ ?_).mono ?_); exact HX.out _ (by go_split_ands; assumption); exact HY.out _ (by go_split_ands; assumption); rintro e w' ⟨rfl, hb⟩))
      | (go_at_call 9; refine (known_any _).mono ?_; rintro e w' ⟨rfl, hb⟩))
  all_goals go_wp2
  all_goals go_ret
  all_goals exact ⟨rfl, by go_split_ands; assumption⟩

set_option maxHeartbeats 400000 in
theorem walk (k s m k' s' m' : Int) (A B : Option Addr) (n c n' c' : Nat) (xs ys : List Int) (w : World) (hx : BReads w A n xs) (hy : BReads w B n' ys) :
    Calls Try.prog 8 #[.agg #[.int .i64 k, .int .u16 s, .int .u32 m, .slice A n c], .agg #[.int .i64 k', .int .u16 s', .int .u32 m', .slice B n' c']] w fun e w' => e = .returned (.bool true) ∧ Below w.heap.size w w' := by
  by_cases hn : n ≤ 600
  · by_cases hn' : n' ≤ 600
    · exact walk_small k s m k' s' m' A B n c n' c' xs ys w hx hy hn hn'
    · clear hx hy
      go_enter Try.func8, Try.ntmps8
      go_wp2_with (go_at_call 9; refine (known_any _).mono ?_; rintro e w' ⟨rfl, hb⟩)
      go_ret
      exact ⟨rfl, below_call (by (focus (repeat' (first | (with_reducible exact Below.refl _ _) | (with_reducible assumption) | (with_reducible refine Below.alloc ?_ ?_ _) | (with_reducible refine below_drewN ?_ _) | (with_reducible refine Below.drew ?_) | (with_reducible refine Below.setCell ?_ ?_ _) | omega | (simp; done) | (simp; omega))))) hb (by (focus (first | omega | (simp only [World.size_alloc]; done) | (simp only [World.size_alloc]; omega) | (simp; done) | (simp; omega))))⟩
  · clear hx hy
    go_enter Try.func8, Try.ntmps8
    go_wp2_with (go_at_call 9; refine (known_any _).mono ?_; rintro e w' ⟨rfl, hb⟩)
    go_ret
    exact ⟨rfl, below_call (by (focus (repeat' (first | (with_reducible exact Below.refl _ _) | (with_reducible assumption) | (with_reducible refine Below.alloc ?_ ?_ _) | (with_reducible refine below_drewN ?_ _) | (with_reducible refine Below.drew ?_) | (with_reducible refine Below.setCell ?_ ?_ _) | omega | (simp; done) | (simp; omega))))) hb (by (focus (first | omega | (simp only [World.size_alloc]; done) | (simp only [World.size_alloc]; omega) | (simp; done) | (simp; omega))))⟩

theorem own : ownKnob Try.prog.godebug = none := by kernel_rfl
theorem laidOut : laidOutB Try.prog = true := by kernel_rfl

set_option maxRecDepth 100000 in
theorem lifted (os : Os) (started : os.Started) (H : Type) (enc : TypeId × Value → H) :
    ReturnsInHanded {} Try.checked os 8 .any (Rows.frameValidSpec.pre6 enc Try.prog Try.f8 Rows.frameValidRow.domain false) (Rows.frameValidSpec.post enc Try.prog Try.f8 false true false false) := by
  refine returnsInHanded_of_change (C := Try.checked) own started (by kernel_rfl) Try.func8
    (ChangeSpec.witness6 (enc := enc) (C := Try.checked) false ⟨#[], #[.agg #[.int .i64 0, .int .u16 0, .int .u32 0, .slice none 0 0], .agg #[.int .i64 0, .int .u16 0, .int .u32 0, .slice none 0 0]], []⟩ 8 (by kernel_rfl) (by kernel_rfl) (by kernel_rfl) (by kernel_rfl)) ?_
  intro W base args ds gs before hval0 hW hcnd _
  have hval : ∀ (j : Nat) t v, Try.f8.params[j]? = some t → args[j]? = some v → Value.okWide Try.prog W .any base t v := hval0
  have hW' := hW
  obtain ⟨p, q, hA0, hV, rfl, hfz, hnd⟩ := hW
  have hA : DataW.TrodAll enc Try.prog W 0 (fun _ => true) true Try.f8.params.toList args.toList ds p := hA0
  rw [Try.params8] at hA hval
  obtain ⟨v0, vs0, d0, ds0, p0, q0, hargs, rfl, rfl, h0, r0⟩ := trodAll_cons hA
  obtain ⟨v1, vs1, d1, ds1, p1, q1, rfl, rfl, rfl, h1, r1⟩ := trodAll_cons r0
  obtain ⟨rfl, rfl, rfl⟩ := trodAll_nil r1
  obtain rfl : args = #[v0, v1] := by cases args; simp_all
  obtain ⟨rfl, rfl⟩ := trodVars_none hV
  have k0 := h0
  have lt0 : ∀ x ∈ p0, x.block < W.heap.size := by obtain ⟨m, hm⟩ := k0; exact DataW.trod_lt m _ _ _ hm
  have k1 := h1
  have lt1 : ∀ x ∈ p1, x.block < W.heap.size := by obtain ⟨m, hm⟩ := k1; exact DataW.trod_lt m _ _ _ hm
  obtain ⟨fk0, fs0, fm0, fa0, fl0, fc0, fz0, rfl, fb0, fB0, fw0, fi0, fn0, fx0⟩ := open_frame (hval 0 27 v0 rfl rfl) h0
  obtain ⟨fk1, fs1, fm1, fa1, fl1, fc1, fz1, rfl, fb1, fB1, fw1, fi1, fn1, fx1⟩ := open_frame (hval 1 27 v1 rfl rfl) h1
  clear hA0 hval0
  refine (walk fk0 fs0 fm0 fk1 fs1 fm1 fa0 fa1 fl0 fc0 fl1 fc1 _ _ W fw0 fw1).mono fun e W' ⟨he, bel⟩ => ?_
  subst he
  exact ⟨_, rfl, _, _, _, [], _, [], hW', trodAll_mk1 (shut_bool Try.underlying4 _), (trodAll_cons_mk (Below.trod laidOut (by kernel_rfl) (of_decide_eq_true (by kernel_rfl)) k0 bel lt0) (trodAll_cons_mk (Below.trod laidOut (by kernel_rfl) (of_decide_eq_true (by kernel_rfl)) k1 bel lt1) trodAll_mk0)), rfl, bel.frame _, fun h => by cases h⟩

theorem over : Rows.frameValidRow.holds Try.pinned (OpenSpec.ofChange Rows.frameValidSpec) :=
  OpenClaim.holds_of_wide 8 Try.f8 rfl rfl rfl rfl rfl rfl rfl ⟨rfl, rfl, rfl, rfl, rfl⟩ rfl rfl rfl rfl rfl (by kernel_rfl) Try.func8 (by kernel_rfl)
    (of_decide_eq_true (by kernel_rfl)) (by unfold Func.isWrapper; first | (rw [if_pos (by decide +kernel)]; kernel_rfl) | (rw [if_neg (by decide +kernel)]; exact ⟨rfl, rfl⟩))
    (fun os started H enc _ => lifted os started H enc)

/-- The statement. -/
theorem proved : Rows.FrameValidSaid := over

end Go.Proofs.Ytbcleifhadkecaa.frameValid
