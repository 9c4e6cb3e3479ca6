/-
  Texts: Ke, KMid.
-/
import Derived.Test.YtpbbemmjodegkaaDoorXk6
import Derived.Test.YtpbbemmjodegkaaDoorXk2
import Derived.Test.YtpbbemmjodegkaaDoorXk1
import Derived.Test.YtpbbemmjodegkaaDoorXk3
import Derived.Deep.MidRow
set_option linter.unusedSimpArgs false
set_option linter.unusedVariables false
namespace Go.Proofs.YtpbbemmjodegkaaDoor
open Go.RowKit

def mnOk (a b c d m : Int) : Bool := [a, b, c, d].all fun x => wnR x 0 m
theorem knone_of {α : Type} {l : List α} {p : α → Bool} {q : Nat} {x : α} (h : l[q]? = some x) (hp : p x = false) : l.all p = false := by
  rw [List.all_eq_false]
  exact ⟨x, List.mem_of_getElem? h, by rw [hp]; decide⟩
theorem kall_of {α : Type} {l : List α} {p : α → Bool} {n : Nat} (hn : l.length = n) (h : ∀ j x, j < n → l[j]? = some x → p x = true) : l.all p = true := by
  rw [List.all_eq_true]
  intro x hx
  obtain ⟨q, hq, he⟩ := List.getElem_of_mem hx
  exact h q x (by rw [← hn]; exact hq) (by rw [List.getElem?_eq_getElem hq, he])
theorem mn_idx (a b c d : Int) {k : Nat} (hk : k < 4) (w : World) : (Instr.index 66 (.agg #[.int .i64 a, .int .i64 b, .int .i64 c, .int .i64 d]) (.int .i64 k)).run Tryd.prog w = .ok (.int .i64 (ith [a, b, c, d] k)) w := by
  rcases (show k = 0 ∨ k = 1 ∨ k = 2 ∨ k = 3 by omega) with rfl | rfl | rfl | rfl <;> simp [Instr.index, run_underlying Tryd.underlying66, asIntOf, go_sem, ith]
set_option maxHeartbeats 800000 in
theorem mn_in (a b c d m : Int) (w : World) : Calls Tryd.prog 53 #[.agg #[.int .i64 a, .int .i64 b, .int .i64 c, .int .i64 d], .int .i64 m] w (BE (mnOk a b c d m) w) := by
  have hal : ∀ cs, Below w.heap.size w (w.alloc (.cells cs 66)) := fun cs => (Below.refl _ _).alloc (Nat.le_refl _) _
  have HAL := Lib.hid hal
  clear hal
  obtain ⟨l, hl⟩ : ∃ l, [a, b, c, d] = l := ⟨_, rfl⟩
  have HM : Hid (mnOk a b c d m = l.all fun x => wnR x 0 m) := Lib.hid (by rw [← hl]; rfl)
  have HLN : Hid (l.length = 4) := Lib.hid (by rw [← hl]; rfl)
  have HI : Hid (∀ k : Nat, k < 4 → ∀ w, (Instr.index 66 (.agg #[.int .i64 a, .int .i64 b, .int .i64 c, .int .i64 d]) (.int .i64 k)).run Tryd.prog w = .ok (.int .i64 (ith l k)) w) := Lib.hid (fun k hk w => by rw [← hl]; exact mn_idx a b c d hk w)
  clear hl
  go_enter Tryd.func53, Tryd.ntmps53
  go_wp2
  go_loopw [8] (fun i W => ∃ k : Nat, k ≤ 4 ∧ i = .int .i64 k ∧ Hid (∀ j x, j < k → l[j]? = some x → wnR x 0 m = true) ∧ Hid (Below w.heap.size w W)) (fun i _ => 4 - (intOf i).toNat)
  case atStart => exact ⟨0, Nat.zero_le _, rfl, Lib.hid (fun q x h => absurd h (by omega)), Lib.hid (HAL.out _)⟩
  case round =>
    obtain ⟨k, hk, rfl, HE, HB⟩ := hrel
    by_cases hlt : k < 4
    · have hlt' : (k : Int) < 4 := by omega
      have hix := HI.out k hlt
      have hg := ith_get (xs := l) (k := k) (by rw [HLN.out]; exact hlt)
      generalize ith l k = x at *
      have HG := Lib.hid hg
      clear hg
      by_cases h1 : x < 0
      · have HA : Hid (l.all (fun x => wnR x 0 m) = false) := Lib.hid (knone_of HG.out (by unfold wnR; exact decide_eq_false (by omega)))
        go_wp2
        go_ret
        exact ⟨by rw [HM.out, HA.out]; rfl, HB.out⟩
      · have h1' : decide (x < 0) = false := decide_eq_false h1
        by_cases h2 : m < x
        · have HA : Hid (l.all (fun x => wnR x 0 m) = false) := Lib.hid (knone_of HG.out (by unfold wnR; exact decide_eq_false (by omega)))
          clear h1
          go_wp2
          go_ret
          exact ⟨by rw [HM.out, HA.out]; rfl, HB.out⟩
        · have h2' : decide (m < x) = false := decide_eq_false h2
          have HEE : Hid (∀ j x, j < k + 1 → l[j]? = some x → wnR x 0 m = true) := Lib.hid (fun j y hq hg => by
            rcases Nat.lt_or_ge j k with h | h
            · exact HE.out j y h hg
            · obtain rfl : j = k := by omega
              rw [HG.out] at hg
              rw [← Option.some.inj hg]
              unfold wnR
              exact decide_eq_true (by omega))
          clear h1 h2
          go_wp2
          go_roundw
          case rel => exact ⟨k + 1, hlt, by go_num, HEE, HB⟩
          case measure => simp [intOf]; omega
    · obtain rfl : k = 4 := by omega
      have HA := Lib.hid (kall_of HLN.out HE.out)
      go_wp2
      go_ret
      exact ⟨by rw [HM.out, HA.out]; rfl, HB.out⟩
def costOk (a b c d any : Int) : Bool := mnOk a b c d 20 && wnR any 0 20
set_option maxHeartbeats 1600000 in
theorem cost_any (a b c d any : Int) (w : World) : Calls Tryd.prog 38 #[.agg #[.int .i64 a, .int .i64 b, .int .i64 c, .int .i64 d, .int .i64 any]] w (BE (costOk a b c d any) w) := by
  have HAL : Hid (Below w.heap.size w (w.alloc (.cells #[.int .i64 a, .int .i64 b, .int .i64 c, .int .i64 d, .int .i64 any] 68))) := Lib.hid ((Below.refl _ _).alloc (Nat.le_refl _) _)
  have HBX : Hid (Blk (w.alloc (.cells #[.int .i64 a, .int .i64 b, .int .i64 c, .int .i64 d, .int .i64 any] 68)) w.heap.size 68 #[.int .i64 a, .int .i64 b, .int .i64 c, .int .i64 d, .int .i64 any]) := Lib.hid (Blk.mk_ _ _ _ _ rfl)
  have HC := Lib.hid (fun W => mn_in a b c d 20 W)
  unfold costOk
  have hw : wnR any 0 20 = (decide (0 ≤ any) && decide (any ≤ 20)) := by unfold wnR; rw [Bool.eq_iff_iff]; simp
  rw [hw]
  clear hw
  obtain ⟨v, hv⟩ : ∃ v, mnOk a b c d 20 = v := ⟨_, rfl⟩
  obtain ⟨v1, hv1⟩ : ∃ v, decide (0 ≤ any) = v := ⟨_, rfl⟩
  obtain ⟨v2, hv2⟩ : ∃ v, decide (any ≤ 20) = v := ⟨_, rfl⟩
  rw [hv] at HC ⊢
  rw [hv1, hv2]
  clear hv
  go_enter Tryd.func38, Tryd.ntmps38
  go_wp2_with fail
  refine (HC.out _).mono ?_
  rintro e w1 ⟨rfl, hb1⟩
  have HB1 := Lib.hid (below_call HAL.out hb1 HAL.out.size)
  have c4 : w1.cell? ⟨w.heap.size, 4, none⟩ = some (.int .i64 any) := ((HBX.out.call hb1).at_ 4).trans rfl
  clear hb1
  cases v with
  | false =>
    go_wp2
    go_ret
    exact ⟨rfl, HB1.out⟩
  | true =>
    cases v1 with
    | false =>
      go_wp2
      go_ret
      exact ⟨rfl, HB1.out⟩
    | true =>
      go_wp2
      go_ret
      exact ⟨rfl, HB1.out⟩
theorem sum_snoc {l : List Int} {k : Nat} {x : Int} (h : l[k]? = some x) : (l.take (k + 1)).sum = (l.take k).sum + x := by
  rw [take_snoc h, List.sum_append]
  simp
set_option maxHeartbeats 1600000 in
theorem msum_any (a b c d : Int) (w : World) (h : mnOk a b c d 20 = true) : Calls Tryd.prog 56 #[.agg #[.int .i64 a, .int .i64 b, .int .i64 c, .int .i64 d]] w fun e w' => e = .returned (.int .i64 ([a, b, c, d].sum)) ∧ Below w.heap.size w w' := by
  have HAL : Hid (Below w.heap.size w (w.alloc (.cells #[.int .i64 a, .int .i64 b, .int .i64 c, .int .i64 d] 66))) := Lib.hid ((Below.refl _ _).alloc (Nat.le_refl _) _)
  obtain ⟨l, hl⟩ : ∃ l, [a, b, c, d] = l := ⟨_, rfl⟩
  have HB20 : Hid (∀ (j : Nat) (x : Int), l[j]? = some x → 0 ≤ x ∧ x ≤ 20) := Lib.hid (fun j x hx => by
    have h2 : (l.all fun x => wnR x 0 20) = true := by rw [← hl]; exact h
    have := List.all_eq_true.1 h2 x (List.mem_of_getElem? hx)
    unfold wnR at this
    exact of_decide_eq_true this)
  have HLN : Hid (l.length = 4) := Lib.hid (by rw [← hl]; rfl)
  have HI : Hid (∀ k : Nat, k < 4 → ∀ w, (Instr.index 66 (.agg #[.int .i64 a, .int .i64 b, .int .i64 c, .int .i64 d]) (.int .i64 k)).run Tryd.prog w = .ok (.int .i64 (ith l k)) w) := Lib.hid (fun k hk w => by rw [← hl]; exact mn_idx a b c d hk w)
  rw [hl]
  clear hl h
  go_enter Tryd.func56, Tryd.ntmps56
  go_wp2
  go_loopw [3, 7] (fun n i W => ∃ (k : Nat) (s : Int), k ≤ 4 ∧ i = .int .i64 k ∧ n = .int .i64 s ∧ 0 ≤ s ∧ s ≤ 20 * k ∧ Hid ((l.take k).sum = s) ∧ Hid (Below w.heap.size w W)) (fun _ i _ => 4 - (intOf i).toNat)
  case atStart => exact ⟨0, 0, Nat.zero_le _, rfl, rfl, by omega, by omega, Lib.hid rfl, HAL⟩
  case round =>
    obtain ⟨k, s, hk, rfl, rfl, hs0, hs1, HS, HB⟩ := hrel
    by_cases hlt : k < 4
    · have hlt' : (k : Int) < 4 := by omega
      have hix := HI.out k hlt
      have hg := ith_get (xs := l) (k := k) (by rw [HLN.out]; exact hlt)
      generalize ith l k = x at *
      have hx := HB20.out k x hg
      have HS2 : Hid ((l.take (k + 1)).sum = s + x) := Lib.hid (by rw [sum_snoc hg, HS.out])
      have hw : IntKind.i64.wrap (s + x) = s + x := IntWalk.i64_in _ (by omega)
      have h20 : 0 ≤ s + x ∧ s + x ≤ 20 * (k + 1) := by omega
      have H20 := Lib.hid h20
      clear hg hx h20
      go_wp2
      go_roundw
      case rel => exact ⟨k + 1, s + x, hlt, by go_num, by first | rfl | go_num, H20.out.1, by have := H20.out.2; omega, HS2, HB⟩
      case measure => simp [intOf]; omega
    · obtain rfl : k = 4 := by omega
      have HE : Hid (l.sum = s) := Lib.hid (by
        have := HS.out
        rwa [List.take_of_length_le (by rw [HLN.out]; exact Nat.le_refl _)] at this)
      go_wp2
      go_ret
      exact ⟨by rw [HE.out]; rfl, HB.out⟩
set_option maxHeartbeats 1600000 in
theorem value_any (a b c d any : Int) (w : World) (h : costOk a b c d any = true) : Calls Tryd.prog 40 #[.agg #[.int .i64 a, .int .i64 b, .int .i64 c, .int .i64 d, .int .i64 any]] w fun e w' => e = .returned (.int .i64 ([a, b, c, d].sum + any)) ∧ Below w.heap.size w w' := by
  have h2 : mnOk a b c d 20 = true ∧ 0 ≤ any ∧ any ≤ 20 := by
    unfold costOk wnR at h
    simpa using h
  have hsum : 0 ≤ [a, b, c, d].sum ∧ [a, b, c, d].sum ≤ 80 := by
    have h3 := h2.1
    unfold mnOk wnR at h3
    simp at h3 ⊢
    omega
  have hw : IntKind.i64.wrap ([a, b, c, d].sum + any) = [a, b, c, d].sum + any := IntWalk.i64_in _ (by omega)
  have HC : Hid (∀ W, Calls Tryd.prog 38 #[.agg #[.int .i64 a, .int .i64 b, .int .i64 c, .int .i64 d, .int .i64 any]] W (BE true W)) := Lib.hid (fun W => h ▸ cost_any a b c d any W)
  have HS : Hid (∀ W, Calls Tryd.prog 56 #[.agg #[.int .i64 a, .int .i64 b, .int .i64 c, .int .i64 d]] W fun e w' => e = .returned (.int .i64 ([a, b, c, d].sum)) ∧ Below W.heap.size W w') := Lib.hid (fun W => msum_any a b c d W h2.1)
  obtain ⟨s, hs⟩ : ∃ s, [a, b, c, d].sum = s := ⟨_, rfl⟩
  rw [hs] at HS hw ⊢
  clear hs hsum h2 h
  obtain ⟨w0, hw0⟩ : ∃ w0, w.alloc (.cells #[.int .i64 a, .int .i64 b, .int .i64 c, .int .i64 d, .int .i64 any] 68) = w0 := ⟨_, rfl⟩
  have HAL : Hid (Below w.heap.size w w0) := Lib.hid (hw0 ▸ (Below.refl _ _).alloc (Nat.le_refl _) _)
  have HBX : Hid (Blk w0 w.heap.size 68 #[.int .i64 a, .int .i64 b, .int .i64 c, .int .i64 d, .int .i64 any]) := Lib.hid (hw0 ▸ Blk.mk_ _ _ _ _ rfl)
  have c0 : ∀ s : Later w0.heap.size w0, s.W.cell? ⟨w.heap.size, 0, none⟩ = some (.int .i64 a) := fun s => ((HBX.out.call s.h).at_ 0).trans rfl
  have c1 : ∀ s : Later w0.heap.size w0, s.W.cell? ⟨w.heap.size, 1, none⟩ = some (.int .i64 b) := fun s => ((HBX.out.call s.h).at_ 1).trans rfl
  have c2 : ∀ s : Later w0.heap.size w0, s.W.cell? ⟨w.heap.size, 2, none⟩ = some (.int .i64 c) := fun s => ((HBX.out.call s.h).at_ 2).trans rfl
  have c3 : ∀ s : Later w0.heap.size w0, s.W.cell? ⟨w.heap.size, 3, none⟩ = some (.int .i64 d) := fun s => ((HBX.out.call s.h).at_ 3).trans rfl
  have c4 : ∀ s : Later w0.heap.size w0, s.W.cell? ⟨w.heap.size, 4, none⟩ = some (.int .i64 any) := fun s => ((HBX.out.call s.h).at_ 4).trans rfl
  have d0 := c0 ⟨w0, Below.refl _ _⟩
  have d1 := c1 ⟨w0, Below.refl _ _⟩
  have d2 := c2 ⟨w0, Below.refl _ _⟩
  have d3 := c3 ⟨w0, Below.refl _ _⟩
  have d4 := c4 ⟨w0, Below.refl _ _⟩
  simp only at d0 d1 d2 d3 d4
  go_enter Tryd.func40, Tryd.ntmps40
  go_wp2_with fail
  refine (HC.out _).mono ?_
  rintro e w1 ⟨rfl, hb1⟩
  clear d0 d1 d2 d3 d4
  go_wp2
  refine wp_region_later (B := w0.heap.size) (w0 := w0) hb1 (by kernel_rfl) (by kernel_rfl) ?_
  repeat (go_big_quiet_step ((first
    | (go_at_call 56; with_reducible exact Calls.later (by omega) (HS.out _)))))
  refine wpQuiet_nil ?_
  intro _ hw'
  obtain ⟨s, hw2⟩ := hw'
  subst hw2
  obtain ⟨w2, hb2⟩ := s
  clear c0 c1 c2 c3 c4 hb1
  have HB2 := Lib.hid (below_call HAL.out hb2 HAL.out.size)
  go_wp2
  go_ret
  exact ⟨rfl, HB2.out⟩
/-! ### Triggers -/
theorem TsR.at2 {w : World} {s : Sl} {l : List Trg} {ts : List Sl} (h : TsR w s l ts) {i : Nat} {t : Trg} (hi : l[i]? = some t) : ∃ u ad, ts[i]? = some u ∧ s.A = some ad ∧ ad.block < w.heap.size ∧ w.cell? (ad.add (i * 2)) = some (.int .i64 t.wh) ∧ w.cell? ⟨(ad.add (i * 2)).block, (ad.add (i * 2)).off + 1, none⟩ = some (.slice u.A t.efs.length u.c) ∧ EsR w u t.efs := h.at_ hi
theorem trig1_any (wh wh0 : Int) (v : Value) (g : Nat) (w : World) (h : w.cell? ⟨g, 0, none⟩ = some (.int .i64 wh0)) (hg : g < w.heap.size) (d : Bool) (hd : (wh == wh0) = d) (hv : ∃ A n c, v = .slice A n c) :
    Calls Tryd.prog 59 #[.agg #[.int .i64 wh, v], .pointer (some ⟨g, 0, none⟩)] w (BE d w) := by
  obtain ⟨A, n, c, rfl⟩ := hv
  have HAL : Hid (Below w.heap.size w (w.alloc (.cells #[.int .i64 wh, .slice A n c] 112))) := Lib.hid ((Below.refl _ _).alloc (Nat.le_refl _) _)
  go_enter Tryd.func59, Tryd.ntmps59
  go_wp2
  go_ret
  exact ⟨rfl, HAL.out⟩
def sameT (x : Int) (l : List Trg) : Bool := l.any fun t => t.wh == x
set_option maxHeartbeats 1600000 in
theorem idxT_k (s : Sl) (l : List Trg) (ts : List Sl) (n : Nat) (wh0 : Int) (g : Nat) (w : World) (h : TsR w s l ts) (hn : n ≤ l.length) (hc : w.cell? ⟨g, 0, none⟩ = some (.int .i64 wh0)) (hg : g < w.heap.size) :
    Calls Tryd.prog 72 #[.slice s.A n s.c, .func (.func 59) #[] #[.pointer (some ⟨g, 0, none⟩)]] w fun e w' => ∃ i : Int, e = .returned (.int .i64 i) ∧ decide (0 ≤ i) = sameT wh0 (l.take n) ∧ Below w.heap.size w w' := by
  obtain ⟨A, c⟩ := s
  have h9 : n ≤ 9223372036854775807 := by have := h.ok; unfold Sl.ok at this; omega
  have HX := Lib.hid h
  have HN := Lib.hid hn
  have HC := Lib.hid hc
  have HG := Lib.hid hg
  simp only
  clear h hn hc hg
  go_enter Tryd.func72, Tryd.ntmps72
  go_wp2_with fail
  go_loopw [8] (fun i W => ∃ k : Nat, k ≤ n ∧ i = .int .i64 k ∧ Hid (∀ j y, j < k → l[j]? = some y → (y.wh == wh0) = false) ∧ Hid (Below w.heap.size w W)) (fun i _ => n - (intOf i).toNat)
  case atStart => exact ⟨0, Nat.zero_le _, rfl, Lib.hid (fun q y h => absurd h (by omega)), Lib.hid (Below.refl _ _)⟩
  case round =>
    obtain ⟨k, hk, rfl, HE, HB⟩ := hrel
    by_cases hlt : k < n
    · have hlt' : (k : Int) < n := by omega
      obtain ⟨t, ht⟩ := get_of (l := l) (k := k) (by have := HN.out; omega)
      have HT := Lib.hid ht
      obtain ⟨u, ad, -, e9, -, c0, c1, -⟩ := (HX.out.below HB.out).at2 ht
      simp only at e9
      subst e9
      obtain ⟨d, hd⟩ : ∃ d, (t.wh == wh0) = d := ⟨_, rfl⟩
      have HD := Lib.hid hd
      have HQ := Lib.hid (trig1_any t.wh wh0 (.slice u.A t.efs.length u.c) g wr (by rw [keep_at HB.out g HG.out]; exact HC.out) (Nat.lt_of_lt_of_le HG.out HB.out.size) d hd ⟨_, _, _, rfl⟩)
      obtain ⟨wh, efs⟩ := t
      obtain ⟨uA, uc⟩ := u
      simp only at HQ c0 c1
      obtain ⟨ne, hne⟩ : ∃ n, efs.length = n := ⟨_, rfl⟩
      rw [hne] at HQ c1
      clear hd ht hne
      cases d with
      | true =>
        go_wp2_with fail
        refine HQ.out.mono ?_
        rintro e w1 ⟨rfl, hb1⟩
        have HB1 := Lib.hid (below_call HB.out hb1 HB.out.size)
        clear hb1 c0 c1
        go_wp2_with fail
        go_ret
        refine ⟨k, rfl, ?_, HB1.out⟩
        rw [show sameT wh0 (l.take n) = true from List.any_eq_true.2 ⟨_, List.mem_of_getElem? (by rw [List.getElem?_take, if_pos hlt]; exact HT.out), HD.out⟩]
        simp
      | false =>
        have HEE : Hid (∀ j y, j < k + 1 → l[j]? = some y → (y.wh == wh0) = false) := Lib.hid (fun j z hq hg => by
          rcases Nat.lt_or_ge j k with h | h
          · exact HE.out j z h hg
          · obtain rfl : j = k := by omega
            rw [HT.out] at hg
            rw [← Option.some.inj hg]
            exact HD.out)
        go_wp2_with fail
        refine HQ.out.mono ?_
        rintro e w1 ⟨rfl, hb1⟩
        have HB1 := Lib.hid (below_call HB.out hb1 HB.out.size)
        clear hb1 c0 c1
        go_wp2_with fail
        go_roundw
        case rel => exact ⟨k + 1, hlt, by go_num, HEE, HB1⟩
        case measure => simp [intOf]; omega
    · obtain rfl : k = n := by omega
      have HA : Hid (sameT wh0 (l.take k) = false) := Lib.hid (by
        rw [Bool.eq_false_iff]
        intro h
        obtain ⟨x, hx, h1⟩ := List.any_eq_true.1 h
        obtain ⟨q, hq, he⟩ := List.getElem_of_mem hx
        have hq2 : q < k := by
          have := List.length_take_le k l
          omega
        have h3 : l[q]? = some x := by
          have h4 : (l.take k)[q]? = some x := by rw [List.getElem?_eq_getElem hq, he]
          rw [List.getElem?_take, if_pos hq2] at h4
          exact h4
        have := HE.out q x hq2 h3
        rw [this] at h1
        cases h1)
      go_wp2_with fail
      go_ret
      exact ⟨-1, rfl, by rw [HA.out]; rfl, HB.out⟩
theorem anyT_k (s : Sl) (l : List Trg) (ts : List Sl) (n : Nat) (wh0 : Int) (g : Nat) (w : World) (h : TsR w s l ts) (hn : n ≤ l.length) (hc : w.cell? ⟨g, 0, none⟩ = some (.int .i64 wh0)) (hg : g < w.heap.size) :
    Calls Tryd.prog 58 #[.slice s.A n s.c, .func (.func 59) #[] #[.pointer (some ⟨g, 0, none⟩)]] w (BE (sameT wh0 (l.take n)) w) := by
  have HC := Lib.hid (idxT_k s l ts n wh0 g w h hn hc hg)
  obtain ⟨A, c⟩ := s
  simp only at HC ⊢
  obtain ⟨d, hd⟩ : ∃ d, sameT wh0 (l.take n) = d := ⟨_, rfl⟩
  rw [hd] at HC ⊢
  clear hd h hn hc hg
  go_enter Tryd.func58, Tryd.ntmps58
  go_wp2_with fail
  refine HC.out.mono ?_
  rintro e w1 ⟨i, rfl, hib, hb⟩
  go_wp2
  go_ret
  exact ⟨rfl, hb⟩

theorem Blk.mid {W : World} {g o ty t : Nat} {cs : Array Value} (h : Blk W g t cs) (vs : List Value) (d : TypeDesc) (hr : ∀ (j : Nat) (v : Value), vs[j]? = some v → cs[o + j]? = some v)
    (hu : Tryd.prog.underlying ty = some d) (hd : d.isRow = true) (hi : (Tryd.prog.info? ty).map (·.size) = some vs.length) :
    (Instr.loadAt ty (.pointer (some ⟨g, o, none⟩))).run Tryd.prog W = .ok (.agg vs.toArray) W :=
  run_loadAt_mid W g o ty vs d (fun j v hj => (h.at_ (o + j)).trans (hr j v hj)) hu hd hi
theorem wpList_load_by {P : Program} {ops : Array Oper} {rest : List Oper} {op : Oper} {a : Act} {w : World} {Q : Exit → Act → World → Prop} {ty : TypeId} {x : Operand} {p v : Value} (hl : (Instr.loadAt ty p).run P w = .ok v w)
    (ho : op.op = .load ty x) (hw : Region.wanted op (yielded ops a.tmps) = true) (hx : a.eval x = p) (h : wpList P ops Q rest (a.put op.dst v) w) : wpList P ops Q (op :: rest) a w :=
  wpList_step fun K hK => by
    simp only [hw, if_true]
    unfold Oper.wp execOp
    simp only [ho, hx, hl, Sem.run_bind, Sem.run_pure, Result.andThen_ok]
    exact hK _ _ h
theorem XOwns.setX {w : World} {base : Nat} {e : TypeId} {size g n c : Nat} {xs : List Value} (h : XOwns w base e size (some ⟨g, 0, none⟩) n c xs) (j : Nat) (u : Value) : XOwns (w.setCell ⟨g, j, none⟩ u) base e size (some ⟨g, 0, none⟩) n c (xs.set j u) :=
  ⟨(h.1.stored j u).1, h.2⟩
theorem XOwns.blk_ {W W' : World} {base e size n c g t : Nat} {A : Option Addr} {xs : List Value} {cs : Array Value} (h : XOwns W base e size A n c xs) (hk : Blk W g t cs) (hg : W.grownBy W' (some g)) (h1 : e ≠ t) : XOwns W' base e size A n c xs := h.grown hg (.inr (h.apart_blk hk h1))
def findR (n : Nat) : Code → Option Code
  | .region m ops b => if m = n then some (.region m ops b) else Option.none
  | .loop c => findR n c
  | .seq a b => match findR n a with
    | some c => some c
    | Option.none => findR n b
  | .block _ c => findR n c
  | .scope c => findR n c
  | .cond _ a b => match findR n a with
    | some c => some c
    | Option.none => findR n b
  | _ => Option.none
def regOf (f : Func) (n : Nat) : Code := (f.body.bind (findR n)).getD .skip
theorem wpQuiet_load_by {P : Program} {ops : Array Oper} {C : World → Prop} {Qa : Act → Prop} {rest : List Oper} {op : Oper} {a : Act} {ty : TypeId} {x : Operand} {p v : Value} (hl : ∀ w, C w → (Instr.loadAt ty p).run P w = .ok v w)
    (hC : ∃ w, C w) (ho : op.op = .load ty x) (hw : Region.wanted op (yielded ops a.tmps) = true) (hx : a.eval x = p) (h : wpQuiet P ops C Qa rest (a.put op.dst v)) : wpQuiet P ops C Qa (op :: rest) a := by
  unfold wpQuiet
  rw [if_pos hw]
  refine ⟨v, fun w hc => ?_, h⟩
  unfold Oper.quietAt execOp
  simp only [ho, hx, hl w hc, Sem.run_bind, Sem.run_pure, Result.andThen_ok, Oper.quietUpon]
  exact ⟨trivial, trivial⟩
theorem ret_cell {fn : Func} {p : Tmp} {ty : TypeId} {tmps : Array Value} {w : World} {g t : Nat} {cs : Array Value} {d : TypeDesc} (h : fn.results = #[.cell p ty]) (hp : tmps.getD p undef = .pointer (some ⟨g, 0, none⟩)) (hb : Blk w g t cs)
    (hu : Tryd.prog.underlying ty = some d) (hd : d.isRow = true) (hi : (Tryd.prog.info? ty).map (·.size) = some cs.size) : (results fn tmps).run Tryd.prog w = .ok (.agg cs) w := by
  unfold Blk at hb
  exact results_cell_row h tmps w g t cs (0, 0) d hp hb hu (by cases d <;> simp_all) hi
theorem take_set_ {α : Type} (v : α) : ∀ (cs : List α) (o : Nat), o < cs.length → (cs.set o v).take (o + 1) = cs.take o ++ [v]
  | [], _, h => by simp at h
  | c :: cs, 0, _ => by simp
  | c :: cs, o + 1, h => by
    have := take_set_ v cs o (by simpa using h)
    simp [this]
theorem setCells_blk {g t : Nat} : ∀ (vs : List Value) (o : Nat) (w : World) (cs : List Value), Blk w g t cs.toArray → o + vs.length = cs.length → Blk (w.setCells g o vs) g t (cs.take o ++ vs).toArray
  | [], o, w, cs, h, hl => by
    rw [List.take_of_length_le (by simp at hl; omega), List.append_nil]
    exact h
  | v :: r, o, w, cs, h, hl => by
    have h1 := h.put o v
    rw [List.setIfInBounds_toArray] at h1
    have h2 := setCells_blk r (o + 1) _ (cs.set o v) h1 (by simp at hl ⊢; omega)
    rw [take_set_ v cs o (by simp at hl; omega), List.append_assoc] at h2
    exact h2
theorem setCells_only {g : Nat} {a : World} : ∀ (vs : List Value) (o : Nat) (w : World), a.grownBy w (some g) → a.grownBy (w.setCells g o vs) (some g)
  | [], _, _, h => h
  | v :: r, o, w, h => setCells_only r (o + 1) _ (only_setCell h (.inl rfl) v)
theorem Blk.storeAll {W : World} {g t ty : Nat} {cs : Array Value} (h : Blk W g t cs) (vs : List Value) (hl : vs.length = cs.size) (hi : (Tryd.prog.info? ty).map (·.size) = some vs.length) (h1 : ∀ v ∈ vs, v.oneCell' = true) :
    ∃ w', (Instr.storeAt ty (.pointer (some ⟨g, 0, none⟩)) (.agg vs.toArray)).run Tryd.prog W = .ok () w' ∧ Blk w' g t vs.toArray ∧ W.grownBy w' (some g) := by
  refine ⟨_, run_storeAt_mid W g 0 ty vs.toArray (fun j hj => ⟨?_, h.free _⟩) (by simpa using hi) (all_oneCell_toArray h1), ?_, ?_⟩
  · rw [h.at_, Nat.zero_add]
    have : j < cs.size := by rw [← hl]; simpa using hj
    simp [this]
  · have := setCells_blk vs 0 W cs.toList h (by simp [hl])
    simpa using this
  · exact setCells_only _ _ _ (only_refl _ _)
theorem wpList_store_by {P : Program} {ops : Array Oper} {rest : List Oper} {op : Oper} {a : Act} {w w' : World} {Q : Exit → Act → World → Prop} {ty : TypeId} {x y : Operand} {p v : Value} (hl : (Instr.storeAt ty p v).run P w = .ok () w')
    (ho : op.op = .store ty x y) (hw : Region.wanted op (yielded ops a.tmps) = true) (hx : a.eval x = p) (hy : a.eval y = v) (h : wpList P ops Q rest (a.put op.dst undef) w') : wpList P ops Q (op :: rest) a w :=
  wpList_step fun K hK => by
    simp only [hw, if_true]
    unfold Oper.wp execOp
    simp only [ho, hx, hy, hl, Sem.run_bind, Sem.run_pure, Result.andThen_ok]
    exact hK _ _ h
theorem wp_op_by {P : Program} {op : Oper} {a : Act} {w w' : World} {K : Act → World → Prop} {Q : Exit → Act → World → Prop} {v : Value} (h : (execOp a.eval op).run P w = .ok (.value v) w') (hk : K (a.put op.dst v) w') : op.wp P a w K Q := by
  unfold Oper.wp
  rw [h]
  exact hk
theorem run_of_slice {P : Program} {op : Oper} {ev : Operand → Value} {ty : TypeId} {n : Nat} {parts : Array (Nat × Operand)} {parts' : Array (Nat × Value)} {w w' : World} {v : Value} (ho : op.op = .buildSlice ty n parts) (hp : parts.map (fun (i, x) => (i, ev x)) = parts') (hb : (Instr.buildSlice ty n parts').run P w = .ok v w') :
    (execOp ev op).run P w = .ok (.value v) w' := by
  unfold execOp
  simp only [ho, hp, hb, Sem.run_bind, Sem.run_pure, Result.andThen_ok]
end Go.Proofs.YtpbbemmjodegkaaDoor
