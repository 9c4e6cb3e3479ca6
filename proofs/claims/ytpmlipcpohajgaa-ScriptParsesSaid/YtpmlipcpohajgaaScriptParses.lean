/-
  ScriptParses: for all bytes and every number the statement ScriptParses answers true; no condition.
-/
import Derived.Test.YtpmlipcpohajgaaKnown
import Derived.Test.YtpmlipcpohajgaaOpen
import Derived.ProofKit
import Derived.OpenShut
import Derived.ShutString
import Derived.ChangeOld
import Derived.Below
import Derived.Lib.SmallJoins
set_option linter.unusedSimpArgs false
set_option linter.unusedVariables false
namespace Go.Proofs.Ytpmlipcpohajgaa.scriptParses
open Go.Joins Go.ChangeShapes Go.WideShapes Go.ChangeAt Go.RowKit
open Go.ChangeMaps (open_string shut_string)


theorem parse_le (xs : List Int) : (parseS xs).length ≤ xs.length := by
  unfold parseS
  have : ∀ (f : Nat) (ys : List Int), (parseF f ys).length ≤ ys.length := by
    intro f
    induction f with
    | zero => intro ys; simp [parseF]
    | succ f ih =>
      intro ys
      simp only [parseF]
      split
      · simp
      · rename_i hne
        have h1 := ih (ys.drop (opS ys).2)
        have h2 := opS_pos ys
        have h3 : 0 < ys.length := List.length_pos_iff.2 hne
        rw [List.length_drop] at h1
        rw [List.length_cons]
        omega
  exact this _ _

set_option maxHeartbeats 800000 in
theorem walk_many (A : Option Addr) (n cap : Nat) (xs : List Int) (many : Int) (w : World) (hx : BReads w A n xs) (hm : 4094 ≤ many) (hm2 : many ≤ 4098) :
    Calls Try.prog 3 #[.slice A n cap, .int .i64 many] w fun e w' => e = .returned (.bool true) ∧ Below w.heap.size w w' := by
  clear hx
  obtain ⟨m, rfl⟩ : ∃ m : Nat, many = (m : Int) := ⟨many.toNat, by omega⟩
  have hm' : 4094 ≤ m := by omega
  have hm2' : m ≤ 4098 := by omega
  go_enter Try.func3, Try.ntmps3
  go_wp2_with (at_make; refine make_bytes_full _ rfl (.tmp 14) (.tmp 14) 22 rfl w.heap.size 5 Try.info5 Try.underlying22 .i64 .i64 _ _ m rfl rfl rfl rfl ?_ ?_ ?_; omega; exact Nat.le_refl _; intro w1 ho1 hb1)
  generalize hg : w.heap.size = g at *
  go_loopw [5] (fun i W => ∃ (j : Nat) (zs : List Int), j ≤ m ∧ i = .int .i64 j ∧ BOwns W g 5 (some ⟨g, 0, none⟩) m m zs ∧ Below g w W) (fun i _ => m - (intOf i).toNat)
  case atStart => exact ⟨0, _, Nat.zero_le _, rfl, ho1, hb1⟩
  case round =>
    obtain ⟨j, zs, hj, rfl, hown, hB⟩ := hrel
    by_cases hlt : j < m
    · obtain ⟨q1, q2, q3, q4⟩ := hown.cellAt hlt
      have hlt' : (j : Int) < m := by omega
      go_wp2
      go_roundw
      case rel => exact ⟨j + 1, zs.set j 2, by omega, by go_num, hown.stored 2 hlt (by omega), hB.setCell (Nat.le_refl _) _⟩
      case measure => simp [intOf]; omega
    · obtain rfl : j = m := by omega
      have hz := hB.size
      have HR : Hid (∀ W, Below wr.heap.size wr W → BReads W (some ⟨g, 0, none⟩) j zs) := fun W h => hown.reads.below h
      clear hown
      by_cases hl : (4096 : Int) < j
      · go_wp2_with (first
          | (go_at_call 7; refine (parse_long _ j j _ hl).mono ?_; rintro e w2 ⟨rfl, rfl⟩)
          | (go_at_call 6; refine (known_any _).mono ?_; rintro e w3 ⟨rfl, hb3⟩; have hB3 : Below g w w3 := Below.trans (by (focus (repeat' (first | (with_reducible exact Below.refl _ _) | (with_reducible assumption) | (with_reducible refine Below.alloc ?_ ?_ _) | (with_reducible refine below_drewN ?_ _) | (with_reducible refine Below.drew ?_) | (with_reducible refine Below.setCell ?_ ?_ _) | omega | (simp; done) | (simp; omega))))) (hb3.mono (by omega)))
          | fail)
        go_ret
        exact ⟨rfl, by rw [hg]; exact hB3⟩
      · have hle : j ≤ 4096 := by omega
        go_wp2_with (first
          | (go_at_call 9; refine (rparse_any _ j j zs _ (HR.out _ (Below.refl _ _)) (Nat.le_refl _) (by omega) (fun h => by cases h) hle).mono ?_; rintro e w2 ⟨A2, n2, c2, rfl, ho2, hb2⟩; have hl2 := ho2.length; have hO2 := Lib.hid ho2.reads; have hpl := Lib.hid (parse_le zs); have hzl := (HR.out _ (Below.refl _ _)).length; clear ho2)
          | (go_at_call 8; refine (reads_any _ A2 j j n2 c2 zs (parseS zs) _ (HR.out _ hb2) (Nat.le_refl _) (by omega) (fun h => by cases h) hle hO2.out (by have := hpl.out; omega)).mono ?_; rintro e w4 ⟨rfl, hb4⟩; rw [(opsEq_iff _ _).2 rfl])
          | (go_at_call 6; refine (known_any _).mono ?_; rintro e w3 ⟨rfl, hb3⟩; have hB3 : Below g w w3 := ((hB.trans (hb2.mono (by omega))).trans (hb4.mono (by have := hb2.size; omega))).trans (hb3.mono (by have := hb2.size; have := hb4.size; omega)))
          | fail)
        go_ret
        exact ⟨rfl, by rw [hg]; exact hB3⟩

set_option maxHeartbeats 800000 in
theorem walk_few (A : Option Addr) (n cap : Nat) (xs : List Int) (many : Int) (w : World) (hx : BReads w A n xs) (hc : n ≤ cap) (hcm : cap ≤ 9223372036854775807) (hA : A = none → cap = 0) (hm : many < 4094 ∨ 4098 < many) :
    Calls Try.prog 3 #[.slice A n cap, .int .i64 many] w fun e w' => e = .returned (.bool true) ∧ Below w.heap.size w w' := by
  have HA := Lib.hid hA
  have HX : Hid (∀ W, Below w.heap.size w W → BReads W A n xs) := fun W h => hx.below h
  have HL := Lib.hid hx.length
  clear hx hA
  by_cases hn : (600 : Int) < n
  · go_enter Try.func3, Try.ntmps3
    go_wp2_with (go_at_call 6; refine (known_any _).mono ?_; rintro e w3 ⟨rfl, hb3⟩)
    all_goals go_ret
    all_goals exact ⟨rfl, hb3⟩
  · have hle : n ≤ 4096 := by omega
    go_enter Try.func3, Try.ntmps3
    go_wp2_with (first
      | (go_at_call 9; refine (rparse_any A n cap xs _ (HX.out _ (Below.refl _ _)) hc hcm HA.out hle).mono ?_; rintro e w2 ⟨A2, n2, c2, rfl, ho2, hb2⟩; have hl2 := ho2.length; have hO2 := Lib.hid ho2.reads; have hpl := Lib.hid (parse_le xs); have hzl := HL.out; clear ho2)
      | (go_at_call 8; refine (reads_any A A2 n cap n2 c2 xs (parseS xs) _ (HX.out _ hb2) hc hcm HA.out hle hO2.out (by have := hpl.out; omega)).mono ?_; rintro e w4 ⟨rfl, hb4⟩; rw [(opsEq_iff _ _).2 rfl])
      | (go_at_call 6; refine (known_any _).mono ?_; rintro e w3 ⟨rfl, hb3⟩; have hB3 : Below w.heap.size w w3 := (hb2.trans (hb4.mono (by have := hb2.size; omega))).trans (hb3.mono (by have := hb2.size; have := hb4.size; omega)))
      | fail)
    all_goals go_ret
    all_goals exact ⟨rfl, hB3⟩

theorem walk (A : Option Addr) (n cap : Nat) (xs : List Int) (many : Int) (w : World) (hx : BReads w A n xs) (hc : n ≤ cap) (hcm : cap ≤ maxLen) (hA : A = none → cap = 0) :
    Calls Try.prog 3 #[.slice A n cap, .int .i64 many] w fun e w' => e = .returned (.bool true) ∧ Below w.heap.size w w' := by
  by_cases hm : 4094 ≤ many ∧ many ≤ 4098
  · exact walk_many A n cap xs many w hx hm.1 hm.2
  · exact walk_few A n cap xs many w hx hc hcm hA (by omega)

theorem own : ownKnob Try.prog.godebug = none := by kernel_rfl
theorem laidOut : laidOutB Try.prog = true := by kernel_rfl

set_option maxRecDepth 100000 in
theorem lifted (os : Os) (started : os.Started) (H : Type) (enc : TypeId × Value → H) :
    ReturnsInHanded {} Try.checked os 3 .any (Rows.scriptParsesSpec.pre6 enc Try.prog Try.f3 Rows.scriptParsesRow.domain false) (Rows.scriptParsesSpec.post enc Try.prog Try.f3 false true false false) := by
  refine returnsInHanded_of_change (C := Try.checked) own started (by kernel_rfl) Try.func3
    (ChangeSpec.witness6 (enc := enc) (C := Try.checked) false ⟨#[], #[.slice none 0 0, .int .i64 0], []⟩ 8 (by kernel_rfl) (by kernel_rfl) (by kernel_rfl) (by kernel_rfl)) ?_
  intro W base args ds gs before hval0 hW hcnd _
  have hval : ∀ (j : Nat) t v, Try.f3.params[j]? = some t → args[j]? = some v → Value.okWide Try.prog W .any base t v := hval0
  have hW' := hW
  obtain ⟨p, q, hA0, hV, rfl, hfz, hnd⟩ := hW
  have hA : DataW.TrodAll enc Try.prog W 0 (fun _ => true) true Try.f3.params.toList args.toList ds p := hA0
  rw [Try.params3] at hA hval
  obtain ⟨v0, vs0, d0, ds0, p0, q0, hargs, rfl, rfl, h0, r0⟩ := trodAll_cons hA
  obtain ⟨v1, vs1, d1, ds1, p1, q1, rfl, rfl, rfl, h1, r1⟩ := trodAll_cons r0
  obtain ⟨rfl, rfl, rfl⟩ := trodAll_nil r1
  obtain rfl : args = #[v0, v1] := by cases args; simp_all
  obtain ⟨rfl, rfl⟩ := trodVars_none hV
  have k0 := h0
  have lt0 : ∀ x ∈ p0, x.block < W.heap.size := by obtain ⟨m, hm⟩ := k0; exact DataW.trod_lt m _ _ _ hm
  have k1 := h1
  have lt1 : ∀ x ∈ p1, x.block < W.heap.size := by obtain ⟨m, hm⟩ := k1; exact DataW.trod_lt m _ _ _ hm
  obtain ⟨a0, len0, cap0, rfl⟩ := okWide_slice Try.underlying22 (hval 0 22 v0 rfl rfl)
  obtain ⟨z0, wz0, wc0, wn0, wm0⟩ := open_bytes h0
  obtain ⟨a1, rfl, rfl, rfl, w1⟩ := open_int Try.underlying3 (hval 1 3 v1 rfl rfl) h1
  clear hA0 hval0
  refine (walk a0 len0 cap0 z0 a1 W wz0 wc0 wm0 wn0).mono fun e W' ⟨he, bel⟩ => ?_
  subst he
  exact ⟨_, rfl, _, _, _, [], _, [], hW', trodAll_mk1 (shut_bool Try.underlying4 _), (trodAll_cons_mk (Below.trod laidOut (by kernel_rfl) (of_decide_eq_true (by kernel_rfl)) k0 bel lt0) (trodAll_cons_mk (Below.trod laidOut (by kernel_rfl) (of_decide_eq_true (by kernel_rfl)) k1 bel lt1) trodAll_mk0)), rfl, bel.frame _, fun h => by cases h⟩

theorem over : Rows.scriptParsesRow.holds Try.pinned (OpenSpec.ofChange Rows.scriptParsesSpec) :=
  OpenClaim.holds_of_wide 3 Try.f3 rfl rfl rfl rfl rfl rfl rfl ⟨rfl, rfl, rfl, rfl, rfl⟩ rfl rfl rfl rfl rfl (by kernel_rfl) Try.func3 (by kernel_rfl)
    (of_decide_eq_true (by kernel_rfl)) (by unfold Func.isWrapper; first | (rw [if_pos (by decide +kernel)]; kernel_rfl) | (rw [if_neg (by decide +kernel)]; exact ⟨rfl, rfl⟩))
    (fun os started H enc _ => lifted os started H enc)

/-- The statement. -/
theorem proved : Rows.ScriptParsesSaid := over

end Go.Proofs.Ytpmlipcpohajgaa.scriptParses
