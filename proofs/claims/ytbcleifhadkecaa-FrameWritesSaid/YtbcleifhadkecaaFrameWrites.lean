/-
  FrameWrites: for every frame the statement FrameWrites answers true; no condition.
-/
import Derived.Test.YtbcleifhadkecaaKnown
import Derived.Test.YtbcleifhadkecaaOpen
import Derived.Test.YtbcleifhadkecaaOnly
import Derived.Deep.RegionHeld3
import Derived.ProofKit
import Derived.OpenShut
import Derived.ShutString
import Derived.ChangeOld
import Derived.Below
import Derived.Lib.SmallJoins
set_option linter.unusedSimpArgs false
set_option linter.unusedVariables false
namespace Go.Proofs.Ytbcleifhadkecaa.frameWrites
open Go.Joins Go.ChangeShapes Go.WideShapes Go.ChangeAt Go.RowKit
open Go.ChangeMaps (open_string shut_string)


theorem own_at {w : World} {base : Nat} {e : TypeId} {A : Option Addr} {n cap : Nat} {xs : List Int} (h : BOwns w base e A n cap xs) (G : Nat) : ∃ g, (0 < n → A = some ⟨g, 0, none⟩) ∧ ((base ≤ g ∧ g < w.heap.size) ∨ g = G) := by
  rcases Nat.eq_zero_or_pos n with h0 | h0
  · exact ⟨G, fun h => by omega, .inr rfl⟩
  · obtain ⟨g, e, h1, h2⟩ := h.head h0
    exact ⟨g, fun _ => e, .inl ⟨h1, h2⟩⟩
theorem BOwns.only' {a w : World} {g base : Nat} {e : TypeId} {A : Option Addr} {n cap : Nat} {xs : List Int} (h : BOwns a base e A n cap xs) (ho : a.grownBy w (some g)) (hg : g < base ∨ a.heap.size ≤ g) : BOwns w base e A n cap xs := by
  refine ⟨h.1.kept ho ?_, h.2⟩
  rcases hv : (Value.slice A n cap).ownBlock with _ | b
  · exact .inl rfl
  · refine .inr (fun e => ?_)
    injection e with e
    have := h.1.lt b hv
    omega

set_option maxHeartbeats 800000 in
theorem walk_no (k s m : Int) (A : Option Addr) (n cap : Nat) (xs : List Int) (w : World) (hx : BReads w A n xs) (hA : A = none → cap = 0) (bs : 0 ≤ s ∧ s ≤ 65535) (bm : 0 ≤ m ∧ m ≤ 4294967295) (hn : n ≤ 600) (hv : validB k s m n = false) :
    Calls Try.prog 3 #[.agg #[.int .i64 k, .int .u16 s, .int .u32 m, .slice A n cap]] w fun e w' => e = .returned (.bool true) ∧ Below w.heap.size w w' := by
  have HW : Hid (∀ W, Below w.heap.size w W → Calls Try.prog 11 #[.agg #[.int .i64 k, .int .u16 s, .int .u32 m, .slice A n cap], .slice none 0 0, .int .i64 2] W fun e w' => e = .returned (.bool true) ∧ Below W.heap.size W w') := fun W h => by
    have h1 := writes_any k s m A n cap xs none 0 0 [] 2 W (hx.below h) hA (.inr hv) bs bm (nil_reads _)
    have h2 : writesB k s m n xs [] 2 = true := by simp [writesB, wrB, wrE, hv]
    rw [h2] at h1
    exact h1
  clear hx hA bs bm
  go_enter Try.func3, Try.ntmps3
  go_wp2_with (first
    | (go_at_call 10; refine (rvalid_any _ _ _ _ _ _ _).mono ?_; rintro e w1 ⟨rfl, hb1⟩; have hB1 := below_call (B := w.heap.size) (a := w) (by (focus (repeat' (first | (with_reducible exact Below.refl _ _) | (with_reducible assumption) | (with_reducible refine Below.alloc ?_ ?_ _) | (with_reducible refine below_drewN ?_ _) | (with_reducible refine Below.drew ?_) | (with_reducible refine Below.setCell ?_ ?_ _) | omega | (simp; done) | (simp; omega))))) hb1 (by (focus (first | omega | (simp only [World.size_alloc]; done) | (simp only [World.size_alloc]; omega) | (simp; done) | (simp; omega)))); have hk1 := keep_at hb1 w.heap.size (by (focus (first | omega | (simp only [World.size_alloc]; done) | (simp only [World.size_alloc]; omega) | (simp; done) | (simp; omega)))))
    | (go_at_call 11; refine (HW.out _ hB1).mono ?_; rintro e w2 ⟨rfl, hb2⟩; have hB2 := below_call hB1 hb2 hB1.size)
    | (go_at_call 9; refine (known_any _).mono ?_; rintro e w3 ⟨rfl, hb3⟩; have hB3 := below_call hB2 hb3 hB2.size))
  go_ret
  exact ⟨rfl, hB3⟩

set_option maxHeartbeats 1600000 in
theorem walk_yes (k s m : Int) (A : Option Addr) (n cap : Nat) (xs : List Int) (w : World) (hx : BReads w A n xs) (hA : A = none → cap = 0) (bs : 0 ≤ s ∧ s ≤ 65535) (bm : 0 ≤ m ∧ m ≤ 4294967295) (hn : n ≤ 600) (hv : validB k s m n = true) :
    Calls Try.prog 3 #[.agg #[.int .i64 k, .int .u16 s, .int .u32 m, .slice A n cap]] w fun e w' => e = .returned (.bool true) ∧ Below w.heap.size w w' := by
  have HA := Lib.hid hA
  have HX : Hid (∀ W, Below w.heap.size w W → BReads W A n xs) := fun W h => hx.below h
  have HW : Hid (∀ (B : Option Addr) (c : Nat) (W : World), BReads W B n xs → (B = none → c = 0) → Calls Try.prog 12 #[.agg #[.int .i64 k, .int .u16 s, .int .u32 m, .slice B n c]] W fun e w' => ∃ A' n' c', e = .returned (.tuple #[.slice A' n' c', .int .i64 0]) ∧ BOwns w' W.heap.size 5 A' n' c' (wr k s m xs) ∧ Below W.heap.size W w') :=
    fun B c W h h' => write_any k s m B n c xs W h h' (by omega) bs bm hv
  have HRW : Hid (∀ W, Below w.heap.size w W → Calls Try.prog 13 #[.agg #[.int .i64 k, .int .u16 s, .int .u32 m, .slice A n cap]] W fun e w' => ∃ A' n' c', e = .returned (.slice A' n' c') ∧ BOwns w' W.heap.size 5 A' n' c' (wr k s m xs) ∧ Below W.heap.size W w') :=
    fun W h => rwrite_any k s m A n cap xs W (hx.below h) hA (by omega) bs bm
  clear hx hA bs bm
  generalize wr k s m xs = bts at HW HRW
  go_enter Try.func3, Try.ntmps3
  go_wp2_with (first
    | (go_at_call 10; refine (rvalid_any _ _ _ _ _ _ _).mono ?_; rintro e w1 ⟨rfl, hb1⟩; have hB1 := below_call (B := w.heap.size) (a := w) (by (focus (repeat' (first | (with_reducible exact Below.refl _ _) | (with_reducible assumption) | (with_reducible refine Below.alloc ?_ ?_ _) | (with_reducible refine below_drewN ?_ _) | (with_reducible refine Below.drew ?_) | (with_reducible refine Below.setCell ?_ ?_ _) | omega | (simp; done) | (simp; omega))))) hb1 (by (focus (first | omega | (simp only [World.size_alloc]; done) | (simp only [World.size_alloc]; omega) | (simp; done) | (simp; omega)))); have hk1 := keep_at hb1 w.heap.size (by (focus (first | omega | (simp only [World.size_alloc]; done) | (simp only [World.size_alloc]; omega) | (simp; done) | (simp; omega)))); have hZ1 : w.heap.size < w1.heap.size := (by have := hb1.size; simp at this; omega); have hQ1 : Below (w.heap.size + 1) (w.alloc (.cells #[.int .i64 k, .int .u16 s, .int .u32 m, .slice A n cap] 27)) w1 := hb1.mono (by (focus (first | omega | (simp only [World.size_alloc]; done) | (simp only [World.size_alloc]; omega) | (simp; done) | (simp; omega)))))
    | (at_builtin; refine append_bytes _ rfl (.const (.slice none 0 0)) (.tmp 22) 25 rfl (w1.heap.size + 1) 5 Try.info5 Try.underlying25 none 0 0 [] rfl (BOwns.nil _ _ _) A n cap xs rfl HA.out (HX.out _ (by (focus (repeat' (first | (with_reducible exact Below.refl _ _) | (with_reducible assumption) | (with_reducible refine Below.alloc ?_ ?_ _) | (with_reducible refine below_drewN ?_ _) | (with_reducible refine Below.drew ?_) | (with_reducible refine Below.setCell ?_ ?_ _) | omega | (simp; done) | (simp; omega)))))) ?_ ?_ ?_; omega; (focus (first | omega | (simp only [World.size_alloc]; done) | (simp only [World.size_alloc]; omega) | (simp; done) | (simp; omega))); intro A2 c2 w2 ho2 hb2; simp only [Nat.zero_add, List.nil_append] at ho2; have hB2 : Below w.heap.size w w2 := Below.trans (by (focus (repeat' (first | (with_reducible exact Below.refl _ _) | (with_reducible assumption) | (with_reducible refine Below.alloc ?_ ?_ _) | (with_reducible refine below_drewN ?_ _) | (with_reducible refine Below.drew ?_) | (with_reducible refine Below.setCell ?_ ?_ _) | omega | (simp; done) | (simp; omega))))) (hb2.mono (by omega)); have hQ2 : Below (w.heap.size + 1) (w.alloc (.cells #[.int .i64 k, .int .u16 s, .int .u32 m, .slice A n cap] 27)) w2 := Below.trans (by (focus (repeat' (first | (with_reducible exact Below.refl _ _) | (with_reducible assumption) | (with_reducible refine Below.alloc ?_ ?_ _) | (with_reducible refine below_drewN ?_ _) | (with_reducible refine Below.drew ?_) | (with_reducible refine Below.setCell ?_ ?_ _) | omega | (simp; done) | (simp; omega))))) (hb2.mono (by omega)); have hZ2 : w1.heap.size < w2.heap.size := (by have := hb2.size; simp at this; omega); have hk2 := keep_far hb2 w.heap.size hZ1 (by omega); have hk2' := keep_at hb2 w1.heap.size (by omega); have hkf2' := keepf_at hb2 w1.heap.size (by omega))
    | fail)
  have HL : Hid (∀ G, ∃ g, (0 < n → A2 = some ⟨g, 0, none⟩) ∧ ((w1.heap.size + 1 ≤ g ∧ g < w2.heap.size) ∨ g = G)) := fun G => own_at ho2 G
  refine (HW.out _ _ _ (BOwns.reads (base := w1.heap.size + 1) (e := 5) (cap := c2) (by (focus (repeat' (first | (with_reducible assumption) | (with_reducible refine BOwns.setBelow ?_ ?_ _) | (with_reducible refine BOwns.alloc ?_ _) | (with_reducible refine BOwns.drew ?_) | omega | (simp; done) | (simp; omega)))))) ho2.2.2).mono ?_
  rintro e w3 ⟨A3, n3, c3, rfl, ho3, hb3⟩
  have hO3 : BOwns w3 (w1.heap.size + 1) 5 A2 n c2 xs := BOwns.below (by (focus (repeat' (first | (with_reducible assumption) | (with_reducible refine BOwns.setBelow ?_ ?_ _) | (with_reducible refine BOwns.alloc ?_ _) | (with_reducible refine BOwns.drew ?_) | omega | (simp; done) | (simp; omega))))) hb3
  have hf3 : BOwns w3 w2.heap.size 5 A3 n3 c3 bts := ho3.more (by (focus (first | omega | (simp only [World.size_alloc]; done) | (simp only [World.size_alloc]; omega) | (simp; done) | (simp; omega))))
  have hB3 : Below w.heap.size w w3 := below_call (by (focus (repeat' (first | (with_reducible exact Below.refl _ _) | (with_reducible assumption) | (with_reducible refine Below.alloc ?_ ?_ _) | (with_reducible refine below_drewN ?_ _) | (with_reducible refine Below.drew ?_) | (with_reducible refine Below.setCell ?_ ?_ _) | omega | (simp; done) | (simp; omega))))) hb3 (by (focus (first | omega | (simp only [World.size_alloc]; done) | (simp only [World.size_alloc]; omega) | (simp; done) | (simp; omega))))
  have hQ3 : Below (w.heap.size + 1) (w.alloc (.cells #[.int .i64 k, .int .u16 s, .int .u32 m, .slice A n cap] 27)) w3 := below_call (by (focus (repeat' (first | (with_reducible exact Below.refl _ _) | (with_reducible assumption) | (with_reducible refine Below.alloc ?_ ?_ _) | (with_reducible refine below_drewN ?_ _) | (with_reducible refine Below.drew ?_) | (with_reducible refine Below.setCell ?_ ?_ _) | omega | (simp; done) | (simp; omega))))) hb3 (by (focus (first | omega | (simp only [World.size_alloc]; done) | (simp only [World.size_alloc]; omega) | (simp; done) | (simp; omega))))
  have hZ3 : w2.heap.size ≤ w3.heap.size := by have := hb3.size; simp at this; omega
  have hk3 := keep_at hb3 w.heap.size (by (focus (first | omega | (simp only [World.size_alloc]; done) | (simp only [World.size_alloc]; omega) | (simp; done) | (simp; omega))))
  have hk3' := keep_at hb3 w1.heap.size (by (focus (first | omega | (simp only [World.size_alloc]; done) | (simp only [World.size_alloc]; omega) | (simp; done) | (simp; omega))))
  clear ho3
  go_wp2
  obtain ⟨g, hg3, hg1⟩ := HL.out w3.heap.size
  have HG := Lib.hid hg3
  clear hg3 ho2
  go_loopw [6] (fun i W => ∃ (j : Nat) (zs : List Int), j ≤ n ∧ i = .int .i64 j ∧ BOwns W (w1.heap.size + 1) 5 A2 n c2 zs ∧ World.grownBy w3 W (some g)) (fun i _ => n - (intOf i).toNat)
  case atStart => exact ⟨0, xs, Nat.zero_le _, rfl, hO3, only_refl _ _⟩
  case round =>
    obtain ⟨j, zs, hj, rfl, hown, honly⟩ := hrel
    have hcB := only_cell honly w1.heap.size (by omega) (by omega)
    by_cases hlt : j < n
    · obtain rfl := HG.out (by omega)
      obtain ⟨q1, q2, q3, q4⟩ := hown.cellAt hlt
      go_wp2
      go_roundw
      case rel => exact ⟨j + 1, zs.set j ((nth zs j + 1) % 256), by omega, by go_num, hown.stored _ hlt (by omega), only_setCell honly (.inl rfl) _⟩
      case measure => simp [intOf]; omega
    · have hBr := only_below honly hB3 (by omega) (by omega)
      have hQr := only_below honly hQ3 (by omega) (by omega)
      have hLr : w.heap.size + 1 ≤ wr.heap.size := by have := hQr.size; simp at this; omega
      have hcA := keep_at hQr w.heap.size (by omega)
      have x0 : wr.cell? ⟨w.heap.size, 0, none⟩ = some (.int .i64 k) := by rw [hcA]; simp
      have x1 : wr.cell? ⟨w.heap.size, 1, none⟩ = some (.int .u16 s) := by rw [hcA]; simp
      have x2 : wr.cell? ⟨w.heap.size, 2, none⟩ = some (.int .u32 m) := by rw [hcA]; simp
      have x3 : wr.cell? ⟨w.heap.size, 3, none⟩ = some (.slice A n cap) := by rw [hcA]; simp
      have xr : BReads wr A3 n3 bts := (BOwns.only' hf3 honly (by omega)).reads
      clear hcA
      go_wp2
      clear hcB hQ1 hQ2 hQ3 hk1 hk2 hk2' hkf2' hk3 hk3' hown hO3 hf3 hb1 hb2 hb3 hB1 hB2 hB3 honly
      have hcv : ∀ W, BReads W A3 n3 bts → (convert 25 9 (.slice A3 n3 c3)).run Try.prog W = .ok (.string (strOfNums bts)) W := fun W h => convert_bytes h c3 25 5 Try.underlying25 Try.underlying5 9 Try.underlying9
      have hcd := hcv wr.drew xr
      have HCV := Lib.hid hcv
      clear hcv
      go_region_with (first
          | (go_at_call 13; refine (HRW.out _ (Below.drew hBr)).mono ?_; rintro e w5 ⟨A4, n4, c4, rfl, ho4, hb5⟩; have hcv4 := convert_bytes (P := Try.prog) ho4.reads c4 25 5 Try.underlying25 Try.underlying5 9 Try.underlying9; have hcv3 := HCV.out w5 (BReads.below (w := wr.drew) xr hb5); have hB5 := below_call (W := wr.drew) (Below.drew hBr) hb5 hBr.size)
          | (go_at_call 9; refine (known_any _).mono ?_; rintro e w6 ⟨rfl, hb6⟩; have hB6 := below_call hB5 hb6 hB5.size))
      all_goals go_wp2
      all_goals go_ret
      all_goals exact ⟨rfl, hB6⟩

set_option maxHeartbeats 400000 in
theorem walk (k s m : Int) (A : Option Addr) (n cap : Nat) (xs : List Int) (w : World) (hx : BReads w A n xs) (hA : A = none → cap = 0) (bs : 0 ≤ s ∧ s ≤ 65535) (bm : 0 ≤ m ∧ m ≤ 4294967295) :
    Calls Try.prog 3 #[.agg #[.int .i64 k, .int .u16 s, .int .u32 m, .slice A n cap]] w fun e w' => e = .returned (.bool true) ∧ Below w.heap.size w w' := by
  by_cases hn : n ≤ 600
  · rcases hv : validB k s m n with _ | _
    · exact walk_no k s m A n cap xs w hx hA bs bm hn hv
    · exact walk_yes k s m A n cap xs w hx hA bs bm hn hv
  · clear hx hA
    go_enter Try.func3, Try.ntmps3
    go_wp2_with (go_at_call 9; refine (known_any _).mono ?_; rintro e w7 ⟨rfl, hb7⟩)
    go_ret
    exact ⟨rfl, below_call (by (focus (repeat' (first | (with_reducible exact Below.refl _ _) | (with_reducible assumption) | (with_reducible refine Below.alloc ?_ ?_ _) | (with_reducible refine below_drewN ?_ _) | (with_reducible refine Below.drew ?_) | (with_reducible refine Below.setCell ?_ ?_ _) | omega | (simp; done) | (simp; omega))))) hb7 (by (focus (first | omega | (simp only [World.size_alloc]; done) | (simp only [World.size_alloc]; omega) | (simp; done) | (simp; omega))))⟩

theorem own : ownKnob Try.prog.godebug = none := by kernel_rfl
theorem laidOut : laidOutB Try.prog = true := by kernel_rfl

set_option maxRecDepth 100000 in
theorem lifted (os : Os) (started : os.Started) (H : Type) (enc : TypeId × Value → H) :
    ReturnsInHanded {} Try.checked os 3 .any (Rows.frameWritesSpec.pre6 enc Try.prog Try.f3 Rows.frameWritesRow.domain false) (Rows.frameWritesSpec.post enc Try.prog Try.f3 false true false false) := by
  refine returnsInHanded_of_change (C := Try.checked) own started (by kernel_rfl) Try.func3
    (ChangeSpec.witness6 (enc := enc) (C := Try.checked) false ⟨#[], #[.agg #[.int .i64 0, .int .u16 0, .int .u32 0, .slice none 0 0]], []⟩ 8 (by kernel_rfl) (by kernel_rfl) (by kernel_rfl) (by kernel_rfl)) ?_
  intro W base args ds gs before hval0 hW hcnd _
  have hval : ∀ (j : Nat) t v, Try.f3.params[j]? = some t → args[j]? = some v → Value.okWide Try.prog W .any base t v := hval0
  have hW' := hW
  obtain ⟨p, q, hA0, hV, rfl, hfz, hnd⟩ := hW
  have hA : DataW.TrodAll enc Try.prog W 0 (fun _ => true) true Try.f3.params.toList args.toList ds p := hA0
  rw [Try.params3] at hA hval
  obtain ⟨v0, vs0, d0, ds0, p0, q0, hargs, rfl, rfl, h0, r0⟩ := trodAll_cons hA
  obtain ⟨rfl, rfl, rfl⟩ := trodAll_nil r0
  obtain rfl : args = #[v0] := by cases args; simp_all
  obtain ⟨rfl, rfl⟩ := trodVars_none hV
  have k0 := h0
  have lt0 : ∀ x ∈ p0, x.block < W.heap.size := by obtain ⟨m, hm⟩ := k0; exact DataW.trod_lt m _ _ _ hm
  obtain ⟨fk0, fs0, fm0, fa0, fl0, fc0, fz0, rfl, fb0, fB0, fw0, fi0, fn0, fx0⟩ := open_frame (hval 0 27 v0 rfl rfl) h0
  clear hA0 hval0
  refine (walk fk0 fs0 fm0 fa0 fl0 fc0 _ W fw0 fn0 fb0 fB0).mono fun e W' ⟨he, bel⟩ => ?_
  subst he
  exact ⟨_, rfl, _, _, _, [], _, [], hW', trodAll_mk1 (shut_bool Try.underlying4 _), (trodAll_cons_mk (Below.trod laidOut (by kernel_rfl) (of_decide_eq_true (by kernel_rfl)) k0 bel lt0) trodAll_mk0), rfl, bel.frame _, fun h => by cases h⟩

theorem over : Rows.frameWritesRow.holds Try.pinned (OpenSpec.ofChange Rows.frameWritesSpec) :=
  OpenClaim.holds_of_wide 3 Try.f3 rfl rfl rfl rfl rfl rfl rfl ⟨rfl, rfl, rfl, rfl, rfl⟩ rfl rfl rfl rfl rfl (by kernel_rfl) Try.func3 (by kernel_rfl)
    (of_decide_eq_true (by kernel_rfl)) (by unfold Func.isWrapper; first | (rw [if_pos (by decide +kernel)]; kernel_rfl) | (rw [if_neg (by decide +kernel)]; exact ⟨rfl, rfl⟩))
    (fun os started H enc _ => lifted os started H enc)

/-- The statement. -/
theorem proved : Rows.FrameWritesSaid := over

end Go.Proofs.Ytbcleifhadkecaa.frameWrites
