/-
  PairingNew: for every number of players the statement PairingNew answers true; no condition.
-/
import Derived.Test.YtngcmihaheiigaaAlk
import Derived.Test.YtngcmihaheiigaaOpen
import Derived.Test.YtngcmihaheiigaaOpenRows
import Derived.Test.YtngcmihaheiigaaKnown
import Derived.ProofKit
import Derived.OpenShut
import Derived.ShutString
import Derived.ChangeOld
import Derived.Below
import Derived.Lib.SmallJoins
set_option linter.unusedSimpArgs false
set_option linter.unusedVariables false
namespace Go.Proofs.Ytngcmihaheiigaa.pairingNew
open Go.Joins Go.ChangeShapes Go.WideShapes Go.ChangeAt Go.RowKit
open Go.ChangeMaps (open_string shut_string)


theorem mn0 {w : World} (B : Nat) {n : Nat} (h : 2 ≤ n ∧ n ≤ 14) (hb : B ≤ w.heap.size) : Mn (w.alloc (.cells #[.int .i64 n, .slice none 0 0, .slice none 0 0, .bool false] 45)) B w.heap.size (ts0 n) ⟨none, 0, [], none, 0, []⟩ :=
  ⟨Blk.mk_ _ _ _ _ rfl, hb, XOwns.nil_ _ _ _ _, XOwns.nil_ _ _ _ _, (fun k s l h => by simp at h), (fun k s l h => by simp at h), ts0_ok h⟩
set_option maxHeartbeats 800000 in
theorem walk (n : Int) (w : World) : Calls Try.prog 4 #[.int .i64 n] w fun e w' => e = .returned (.bool true) ∧ Below w.heap.size w w' := by
  by_cases hb : n < 2 ∨ 14 < n
  · rcases Int.lt_or_le n 2 with h1 | h1
    · go_enter Try.func4, Try.ntmps4
      go_wp2_with (first
        | (go_at_call 9; refine (new_bad n _ (.inl h1)).mono ?_; rintro e w2 ⟨rfl, rfl⟩)
        | (go_at_call 8; refine (known_any _).mono ?_; rintro e w3 ⟨rfl, hb3⟩)
        | fail)
      go_ret
      exact ⟨rfl, hb3⟩
    · have h2 : ¬ n < 2 := by omega
      have h3 : 14 < n := by omega
      clear hb h1
      go_enter Try.func4, Try.ntmps4
      go_wp2_with (first
        | (go_at_call 9; refine (new_bad n _ (.inr h3)).mono ?_; rintro e w2 ⟨rfl, rfl⟩)
        | (go_at_call 8; refine (known_any _).mono ?_; rintro e w3 ⟨rfl, hb3⟩)
        | fail)
      go_ret
      exact ⟨rfl, hb3⟩
  · obtain ⟨n, rfl⟩ : ∃ k : Nat, n = k := ⟨n.toNat, by omega⟩
    have h1 : ¬ (n : Int) < 2 := by omega
    have h2 : ¬ (14 : Int) < n := by omega
    have HN : Hid (2 ≤ n ∧ n ≤ 14) := Lib.hid (by omega)
    clear hb
    go_enter Try.func4, Try.ntmps4
    go_wp2_with (first
      | (go_at_call 9; refine (new_ok n _ HN.out).mono ?_; rintro e w2 ⟨g2, x2, rfl, ht2, hb2⟩; have HT2 := Lib.hid ht2; have hz2 := hb2.size; clear ht2)
      | (go_at_call 14; refine (alike_any w.heap.size g2 w.heap.size _ (ts0 n) x2 _ _ (HT2.out.below ((Below.refl _ _).alloc (Nat.le_refl _) _)) (mn0 w.heap.size HN.out hz2)).mono ?_; rintro e w3 ⟨rfl, hb3⟩; have hB3 := hb2.trans ((below_call ((Below.refl _ _).alloc (Nat.le_refl _) _) hb3 (by simp)).mono hz2))
      | (go_at_call 8; refine (known_any _).mono ?_; rintro e w4 ⟨rfl, hb4⟩)
      | fail)
    go_ret
    exact ⟨rfl, below_call hB3 hb4 hB3.size⟩

theorem own : ownKnob Try.prog.godebug = none := by kernel_rfl
theorem laidOut : laidOutB Try.prog = true := by kernel_rfl

set_option maxRecDepth 100000 in
theorem lifted (os : Os) (started : os.Started) (H : Type) (enc : TypeId × Value → H) :
    ReturnsInHanded {} Try.checked os 4 .any (Rows.pairingNewSpec.pre6 enc Try.prog Try.f4 Rows.pairingNewRow.domain false) (Rows.pairingNewSpec.post enc Try.prog Try.f4 false true false false) := by
  refine returnsInHanded_of_change (C := Try.checked) own started (by kernel_rfl) Try.func4
    (ChangeSpec.witness6 (enc := enc) (C := Try.checked) false ⟨#[], #[.int .i64 0], []⟩ 8 (by kernel_rfl) (by kernel_rfl) (by kernel_rfl) (by kernel_rfl)) ?_
  intro W base args ds gs before hval0 hW hcnd _
  have hval : ∀ (j : Nat) t v, Try.f4.params[j]? = some t → args[j]? = some v → Value.okWide Try.prog W .any base t v := hval0
  have hW' := hW
  obtain ⟨p, q, hA0, hV, rfl, hfz, hnd⟩ := hW
  have hA : DataW.TrodAll enc Try.prog W 0 (fun _ => true) true Try.f4.params.toList args.toList ds p := hA0
  rw [Try.params4] at hA hval
  obtain ⟨v0, vs0, d0, ds0, p0, q0, hargs, rfl, rfl, h0, r0⟩ := trodAll_cons hA
  obtain ⟨rfl, rfl, rfl⟩ := trodAll_nil r0
  obtain rfl : args = #[v0] := by cases args; simp_all
  obtain ⟨rfl, rfl⟩ := trodVars_none hV
  have k0 := h0
  have lt0 : ∀ x ∈ p0, x.block < W.heap.size := by obtain ⟨m, hm⟩ := k0; exact DataW.trod_lt m _ _ _ hm
  obtain ⟨a0, rfl, rfl, rfl, w0⟩ := open_int Try.underlying3 (hval 0 3 v0 rfl rfl) h0
  clear hA0 hval0
  refine (walk a0 W).mono fun e W' ⟨he, bel⟩ => ?_
  subst he
  exact ⟨_, rfl, _, _, _, [], _, [], hW', trodAll_mk1 (shut_bool Try.underlying4 _), (trodAll_cons_mk (Below.trod laidOut (by kernel_rfl) (of_decide_eq_true (by kernel_rfl)) k0 bel lt0) trodAll_mk0), rfl, bel.frame _, fun h => by cases h⟩

theorem over : Rows.pairingNewRow.holds Try.pinned (OpenSpec.ofChange Rows.pairingNewSpec) :=
  OpenClaim.holds_of_wide 4 Try.f4 rfl rfl rfl rfl rfl rfl rfl ⟨rfl, rfl, rfl, rfl, rfl⟩ rfl rfl rfl rfl rfl (by kernel_rfl) Try.func4 (by kernel_rfl)
    (of_decide_eq_true (by kernel_rfl)) (by unfold Func.isWrapper; first | (rw [if_pos (by decide +kernel)]; kernel_rfl) | (rw [if_neg (by decide +kernel)]; exact ⟨rfl, rfl⟩))
    (fun os started H enc _ => lifted os started H enc)

/-- The statement. -/
theorem proved : Rows.PairingNewSaid := over

end Go.Proofs.Ytngcmihaheiigaa.pairingNew
