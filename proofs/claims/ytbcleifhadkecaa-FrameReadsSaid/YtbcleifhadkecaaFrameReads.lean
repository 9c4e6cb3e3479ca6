/-
  FrameReads: for every slice of bytes the statement FrameReads answers true; no condition.
-/
import Derived.Test.YtbcleifhadkecaaKnown
import Derived.Test.YtbcleifhadkecaaOpen
import Derived.Test.YtbcleifhadkecaaOnly
import Derived.ProofKit
import Derived.OpenShut
import Derived.ShutString
import Derived.ChangeOld
import Derived.Below
import Derived.Lib.SmallJoins
set_option linter.unusedSimpArgs false
set_option linter.unusedVariables false
namespace Go.Proofs.Ytbcleifhadkecaa.frameReads
open Go.Joins Go.ChangeShapes Go.WideShapes Go.ChangeAt Go.RowKit
open Go.ChangeMaps (open_string shut_string)


def incr (x : Int) : Int := (x + 1) % 256

set_option maxHeartbeats 1600000 in
theorem walk_small (A : Option Addr) (n cap : Nat) (xs : List Int) (w : World) (hx : BReads w A n xs) (hc : n ≤ cap) (hA : A = none → cap = 0) (hn : n ≤ 600) :
    Calls Try.prog 4 #[.slice A n cap] w fun e w' => e = .returned (.bool true) ∧ Below w.heap.size w w' := by
  have HA := Lib.hid hA
  have HX : Hid (∀ W, Below w.heap.size w W → BReads W A n xs) := fun W h => hx.below h
  have HC := Lib.hid hc
  have e1 := readsB_self (rd xs)
  clear hx hA hc
  go_enter Try.func4, Try.ntmps4
  go_wp2_with fail
  refine (rread_any _ _ _ xs _ (HX.out _ (Below.refl _ _)) HC.out).mono ?_
  rintro e w1 ⟨A1, n1, c1, rfl, ho1, hb1⟩
  have HR1 := Lib.hid ho1.reads
  have hZ1 := hb1.size
  clear ho1
  go_wp2_with fail
  refine (reads_any _ _ _ xs _ _ _ _ _ _ (rd xs).d _ _ (HX.out _ (by (focus (repeat' (first | (with_reducible exact Below.refl _ _) | (with_reducible assumption) | (with_reducible refine Below.alloc ?_ ?_ _) | (with_reducible refine below_drewN ?_ _) | (with_reducible refine Below.drew ?_) | (with_reducible refine Below.setCell ?_ ?_ _) | omega | (simp; done) | (simp; omega)))))) HC.out (HR1.out.alloc _)).mono ?_
  rintro e w2 ⟨rfl, hb2⟩
  have hB2 : Below w.heap.size w w2 := below_call (by (focus (repeat' (first | (with_reducible exact Below.refl _ _) | (with_reducible assumption) | (with_reducible refine Below.alloc ?_ ?_ _) | (with_reducible refine below_drewN ?_ _) | (with_reducible refine Below.drew ?_) | (with_reducible refine Below.setCell ?_ ?_ _) | omega | (simp; done) | (simp; omega))))) hb2 (by (focus (first | omega | (simp only [World.size_alloc]; done) | (simp only [World.size_alloc]; omega) | (simp; done) | (simp; omega))))
  have hZ2 := hB2.size
  have hk2 := keep_at hb2 w1.heap.size (by (focus (first | omega | (simp only [World.size_alloc]; done) | (simp only [World.size_alloc]; omega) | (simp; done) | (simp; omega))))
  have hkf2 := keepf_at hb2 w1.heap.size (by (focus (first | omega | (simp only [World.size_alloc]; done) | (simp only [World.size_alloc]; omega) | (simp; done) | (simp; omega))))
  have hL2 : w1.heap.size < w2.heap.size := by have := hb2.size; simp at this; omega
  go_wp2_with (first
    | (at_builtin; refine append_bytes _ rfl (.const (.slice none 0 0)) (.tmp 23) 25 rfl (w2.heap.size) 5 Try.info5 Try.underlying25 none 0 0 [] rfl (BOwns.nil _ _ _) A n cap xs rfl HA.out (HX.out _ (by (focus (repeat' (first | (with_reducible exact Below.refl _ _) | (with_reducible assumption) | (with_reducible refine Below.alloc ?_ ?_ _) | (with_reducible refine below_drewN ?_ _) | (with_reducible refine Below.drew ?_) | (with_reducible refine Below.setCell ?_ ?_ _) | omega | (simp; done) | (simp; omega)))))) ?_ ?_ ?_; omega; (focus (first | omega | (simp only [World.size_alloc]; done) | (simp only [World.size_alloc]; omega) | (simp; done) | (simp; omega))); intro A3 c3 w3 ho3 hb3; simp only [Nat.zero_add, List.nil_append] at ho3; have hB3 : Below w.heap.size w w3 := Below.trans (by (focus (repeat' (first | (with_reducible exact Below.refl _ _) | (with_reducible assumption) | (with_reducible refine Below.alloc ?_ ?_ _) | (with_reducible refine below_drewN ?_ _) | (with_reducible refine Below.drew ?_) | (with_reducible refine Below.setCell ?_ ?_ _) | omega | (simp; done) | (simp; omega))))) (hb3.mono (by omega)); have hZ3 := hb3.size; have hk3 := keep_at hb3 w1.heap.size hL2; have hkf3 := keepf_at hb3 w1.heap.size hL2; have hL3 : w1.heap.size < w3.heap.size := (by omega))
    | (go_at_call 16; refine (rcheck_any _ _ _ _ _ (HX.out _ hB3) ?_).mono ?_; omega; rintro e w' ⟨rfl, rfl⟩)
    | (at_builtin; refine append_bytes _ rfl (.tmp 24) (.tmp 27) 25 rfl (w2.heap.size) 5 Try.info5 Try.underlying25 _ _ _ _ rfl (ho3.alloc _) _ 1 1 [chk xs] rfl (fun h => by cases h) (BReads.lit _ _ [chk xs] _ _ (isBytes_cons (chk_bd _) isBytes_nil) rfl rfl) ?_ ?_ ?_; omega; (focus (first | omega | (simp only [World.size_alloc]; done) | (simp only [World.size_alloc]; omega) | (simp; done) | (simp; omega))); intro A4 c4 w4 ho4 hb4; have hB4 : Below w.heap.size w w4 := Below.trans (by (focus (repeat' (first | (with_reducible exact Below.refl _ _) | (with_reducible assumption) | (with_reducible refine Below.alloc ?_ ?_ _) | (with_reducible refine below_drewN ?_ _) | (with_reducible refine Below.drew ?_) | (with_reducible refine Below.setCell ?_ ?_ _) | omega | (simp; done) | (simp; omega))))) (hb4.mono (by omega)); have hZ4 : w3.heap.size < w4.heap.size := (by have := hb4.size; simp at this; omega); have hk4 := keep_far hb4 w1.heap.size hL3 hL2; have hkf4 := keepf_far hb4 w1.heap.size hL3 hL2; have hL4 : w1.heap.size < w4.heap.size := (by omega))
    | fail)
  obtain ⟨g, rfl, hg1, hg2⟩ := ho4.head (by omega)
  have HL := Lib.hid (own_cap ho4)
  generalize hall : xs ++ [chk xs] = ys at *
  clear hall ho3
  have e2 := eqB_self (rd ys)
  refine (rread_any _ _ _ ys _ ho4.reads HL.out).mono ?_
  rintro e w5 ⟨A5, n5, c5, rfl, ho5, hb5⟩
  have hB5 := below_call hB4 hb5 hB4.size
  have hZ5 := hb5.size
  have hO5 := ho4.below hb5
  have hk5 := keep_at hb5 w1.heap.size hL4
  have hkf5 := keepf_at hb5 w1.heap.size hL4
  have hL5 : w1.heap.size < w5.heap.size := by omega
  clear ho4
  go_wp2_with fail
  refine (read_any _ _ _ ys _ (BOwns.reads (base := w2.heap.size) (e := 5) (cap := c4) (by (focus (repeat' (first | (with_reducible assumption) | (with_reducible refine BOwns.setBelow ?_ ?_ _) | (with_reducible refine BOwns.alloc ?_ _) | (with_reducible refine BOwns.drew ?_) | omega | (simp; done) | (simp; omega)))))) HL.out).mono ?_
  rintro e w6 ⟨A6, n6, c6, rfl, ho6, hb6⟩
  have hO6 : BOwns w6 w2.heap.size 5 (some ⟨g, 0, none⟩) (n + 1) c4 ys := BOwns.below (by (focus (repeat' (first | (with_reducible assumption) | (with_reducible refine BOwns.setBelow ?_ ?_ _) | (with_reducible refine BOwns.alloc ?_ _) | (with_reducible refine BOwns.drew ?_) | omega | (simp; done) | (simp; omega))))) hb6
  have hw6 : BOwns w6 w4.heap.size 5 A5 n5 c5 (rd ys).d := BOwns.below (by (focus (repeat' (first | (with_reducible assumption) | (with_reducible refine BOwns.setBelow ?_ ?_ _) | (with_reducible refine BOwns.alloc ?_ _) | (with_reducible refine BOwns.drew ?_) | omega | (simp; done) | (simp; omega))))) hb6
  have hf6 : BOwns w6 w5.heap.size 5 A6 n6 c6 (rd ys).d := ho6.more (by (focus (first | omega | (simp only [World.size_alloc]; done) | (simp only [World.size_alloc]; omega) | (simp; done) | (simp; omega))))
  have hB6 : Below w.heap.size w w6 := below_call (by (focus (repeat' (first | (with_reducible exact Below.refl _ _) | (with_reducible assumption) | (with_reducible refine Below.alloc ?_ ?_ _) | (with_reducible refine below_drewN ?_ _) | (with_reducible refine Below.drew ?_) | (with_reducible refine Below.setCell ?_ ?_ _) | omega | (simp; done) | (simp; omega))))) hb6 (by (focus (first | omega | (simp only [World.size_alloc]; done) | (simp only [World.size_alloc]; omega) | (simp; done) | (simp; omega))))
  have hZ6 : w5.heap.size ≤ w6.heap.size := by have := hb6.size; simp at this; omega
  have hk6 := keep_at hb6 w1.heap.size (by (focus (first | omega | (simp only [World.size_alloc]; done) | (simp only [World.size_alloc]; omega) | (simp; done) | (simp; omega))))
  clear ho6 ho5 hO5
  go_wp2
  have hV : Below w.heap.size w (w6.alloc (.cells #[.int .i64 (rd ys).k, .int .u16 (rd ys).s, .int .u32 (rd ys).m, .slice A6 n6 c6] 27)) := by (focus (repeat' (first | (with_reducible exact Below.refl _ _) | (with_reducible assumption) | (with_reducible refine Below.alloc ?_ ?_ _) | (with_reducible refine below_drewN ?_ _) | (with_reducible refine Below.drew ?_) | (with_reducible refine Below.setCell ?_ ?_ _) | omega | (simp; done) | (simp; omega))))
  have hVO : BOwns (w6.alloc (.cells #[.int .i64 (rd ys).k, .int .u16 (rd ys).s, .int .u32 (rd ys).m, .slice A6 n6 c6] 27)) w2.heap.size 5 (some ⟨g, 0, none⟩) (n + 1) c4 ys := hO6.alloc _
  have hVw : BOwns (w6.alloc (.cells #[.int .i64 (rd ys).k, .int .u16 (rd ys).s, .int .u32 (rd ys).m, .slice A6 n6 c6] 27)) w4.heap.size 5 A5 n5 c5 (rd ys).d := hw6.alloc _
  have hVf : BOwns (w6.alloc (.cells #[.int .i64 (rd ys).k, .int .u16 (rd ys).s, .int .u32 (rd ys).m, .slice A6 n6 c6] 27)) w5.heap.size 5 A6 n6 c6 (rd ys).d := hf6.alloc _
  have hL6 : w1.heap.size < w6.heap.size := by omega
  have hS6 : (w6.alloc (.cells #[.int .i64 (rd ys).k, .int .u16 (rd ys).s, .int .u32 (rd ys).m, .slice A6 n6 c6] 27)).heap.size = w6.heap.size + 1 := by simp
  clear hO6 hw6 hf6
  go_loopw [8] (fun i wr => ∃ (k : Nat) (zs : List Int), k ≤ n + 1 ∧ i = .int .i64 k ∧ BOwns wr w2.heap.size 5 (some ⟨g, 0, none⟩) (n + 1) c4 zs ∧ World.grownBy (w6.alloc (.cells #[.int .i64 (rd ys).k, .int .u16 (rd ys).s, .int .u32 (rd ys).m, .slice A6 n6 c6] 27)) wr (some g)) (fun i _ => n + 1 - (intOf i).toNat)
  case atStart => exact ⟨0, ys, Nat.zero_le _, rfl, hVO, only_refl _ _⟩
  case round =>
    obtain ⟨k, zs, hk, rfl, hown, honly⟩ := hrel
    by_cases hlt : k < n + 1
    · obtain ⟨q1, q2, q3, q4⟩ := hown.cellAt hlt
      go_wp2
      go_roundw
      case rel => exact ⟨k + 1, zs.set k ((nth zs k + 1) % 256), by omega, by go_num, hown.stored _ hlt (by omega), only_setCell honly (.inl rfl) _⟩
      case measure => simp [intOf]; omega
    · have hcA := only_cell honly w1.heap.size (by omega) (by omega)
      have hcB := only_cell honly w6.heap.size (by omega) (by omega)
      have hBr := only_below honly hV (by omega) (by omega)
      have HFr := Lib.hid (hVf.only honly (by omega)).reads
      have HWr := Lib.hid (hVw.only honly (by omega)).reads
      clear hown honly hV hVO hVw hVf
      go_wp2_with (first
        | (go_at_call 18; refine (requal_any _ _ _ _ _ _ _ _ _ _ _ _ _ _ _ HFr.out HWr.out).mono ?_; rintro e w7 ⟨rfl, hb7⟩; have hB7 := below_call hBr hb7 hBr.size)
        | (go_at_call 9; refine (known_any _).mono ?_; rintro e w8 ⟨rfl, hb8⟩; have hB8 := below_call hB7 hb8 hB7.size))
      all_goals go_ways
      go_ret
      exact ⟨rfl, hB8⟩

set_option maxHeartbeats 400000 in
theorem walk (A : Option Addr) (n cap : Nat) (xs : List Int) (w : World) (hx : BReads w A n xs) (hc : n ≤ cap) (hA : A = none → cap = 0) :
    Calls Try.prog 4 #[.slice A n cap] w fun e w' => e = .returned (.bool true) ∧ Below w.heap.size w w' := by
  by_cases hn : n ≤ 600
  · exact walk_small A n cap xs w hx hc hA hn
  · clear hx hA
    go_enter Try.func4, Try.ntmps4
    go_wp2_with (go_at_call 9; refine (known_any _).mono ?_; rintro e w7 ⟨rfl, hb7⟩)
    go_ret
    exact ⟨rfl, hb7⟩

theorem own : ownKnob Try.prog.godebug = none := by kernel_rfl
theorem laidOut : laidOutB Try.prog = true := by kernel_rfl

set_option maxRecDepth 100000 in
theorem lifted (os : Os) (started : os.Started) (H : Type) (enc : TypeId × Value → H) :
    ReturnsInHanded {} Try.checked os 4 .any (Rows.frameReadsSpec.pre6 enc Try.prog Try.f4 Rows.frameReadsRow.domain false) (Rows.frameReadsSpec.post enc Try.prog Try.f4 false true false false) := by
  refine returnsInHanded_of_change (C := Try.checked) own started (by kernel_rfl) Try.func4
    (ChangeSpec.witness6 (enc := enc) (C := Try.checked) false ⟨#[], #[.slice none 0 0], []⟩ 8 (by kernel_rfl) (by kernel_rfl) (by kernel_rfl) (by kernel_rfl)) ?_
  intro W base args ds gs before hval0 hW hcnd _
  have hval : ∀ (j : Nat) t v, Try.f4.params[j]? = some t → args[j]? = some v → Value.okWide Try.prog W .any base t v := hval0
  have hW' := hW
  obtain ⟨p, q, hA0, hV, rfl, hfz, hnd⟩ := hW
  have hA : DataW.TrodAll enc Try.prog W 0 (fun _ => true) true Try.f4.params.toList args.toList ds p := hA0
  rw [Try.params4] at hA hval
  obtain ⟨v0, vs0, d0, ds0, p0, q0, hargs, rfl, rfl, h0, r0⟩ := trodAll_cons hA
  obtain ⟨rfl, rfl, rfl⟩ := trodAll_nil r0
  obtain rfl : args = #[v0] := by cases args; simp_all
  obtain ⟨rfl, rfl⟩ := trodVars_none hV
  have k0 := h0
  have lt0 : ∀ x ∈ p0, x.block < W.heap.size := by obtain ⟨m, hm⟩ := k0; exact DataW.trod_lt m _ _ _ hm
  obtain ⟨a0, len0, cap0, rfl⟩ := okWide_slice Try.underlying25 (hval 0 25 v0 rfl rfl)
  obtain ⟨z0, wz0, wc0, wn0, wm0⟩ := open_bytes h0
  clear hA0 hval0
  refine (walk a0 len0 cap0 _ W wz0 wc0 wn0).mono fun e W' ⟨he, bel⟩ => ?_
  subst he
  exact ⟨_, rfl, _, _, _, [], _, [], hW', trodAll_mk1 (shut_bool Try.underlying4 _), (trodAll_cons_mk (Below.trod laidOut (by kernel_rfl) (of_decide_eq_true (by kernel_rfl)) k0 bel lt0) trodAll_mk0), rfl, bel.frame _, fun h => by cases h⟩

theorem over : Rows.frameReadsRow.holds Try.pinned (OpenSpec.ofChange Rows.frameReadsSpec) :=
  OpenClaim.holds_of_wide 4 Try.f4 rfl rfl rfl rfl rfl rfl rfl ⟨rfl, rfl, rfl, rfl, rfl⟩ rfl rfl rfl rfl rfl (by kernel_rfl) Try.func4 (by kernel_rfl)
    (of_decide_eq_true (by kernel_rfl)) (by unfold Func.isWrapper; first | (rw [if_pos (by decide +kernel)]; kernel_rfl) | (rw [if_neg (by decide +kernel)]; exact ⟨rfl, rfl⟩))
    (fun os started H enc _ => lifted os started H enc)

/-- The statement. -/
theorem proved : Rows.FrameReadsSaid := over

end Go.Proofs.Ytbcleifhadkecaa.frameReads
