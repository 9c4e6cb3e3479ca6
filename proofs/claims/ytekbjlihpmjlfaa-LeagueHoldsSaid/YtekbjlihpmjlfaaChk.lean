/-
  check: players and games.
-/
import Derived.Test.YtekbjlihpmjlfaaGms
import Derived.IntWalk
import Derived.Laws.EntriesVeiled
set_option linter.unusedSimpArgs false
set_option linter.unusedVariables false
namespace Go.Proofs.Ytekbjlihpmjlfaa
open Go.RowKit

theorem in_any (b0 : Nat) (p n : Int) (W : World) (h : W.cell? ⟨b0, 0, none⟩ = some (.int .i64 n)) : Calls Try.prog 34 #[.int .i64 p, .pointer (some ⟨b0, 0, none⟩)] W fun e w' => e = .returned (.bool (decide (0 ≤ p ∧ p < n))) ∧ W = w' := by
  by_cases h0 : 0 ≤ p
  · by_cases h1 : p < n
    · have HD : Hid (decide (0 ≤ p ∧ p < n) = true) := Lib.hid (decide_eq_true ⟨h0, h1⟩)
      go_enter Try.func34, Try.ntmps34
      go_wp2
      go_ret
      exact ⟨by rw [HD.out]; rfl, rfl⟩
    · have HD : Hid (decide (0 ≤ p ∧ p < n) = false) := Lib.hid (decide_eq_false (by omega))
      have h2 : decide (p < n) = false := decide_eq_false h1
      clear h1
      go_enter Try.func34, Try.ntmps34
      go_wp2
      go_ret
      exact ⟨by rw [HD.out]; rfl, rfl⟩
  · have HD : Hid (decide (0 ≤ p ∧ p < n) = false) := Lib.hid (decide_eq_false (by omega))
    have h2 : decide (0 ≤ p) = false := decide_eq_false h0
    clear h0
    go_enter Try.func34, Try.ntmps34
    go_wp2
    go_ret
    exact ⟨by rw [HD.out]; rfl, rfl⟩

set_option maxHeartbeats 800000 in
theorem bad_any (bi b0 : Nat) (g : Gm) (n : Int) (W : World) (hi : W.cell? ⟨bi, 0, none⟩ = some (.func (.func 34) #[] #[.pointer (some ⟨b0, 0, none⟩)])) (h : W.cell? ⟨b0, 0, none⟩ = some (.int .i64 n)) (h1 : bi < W.heap.size) (h2 : b0 < W.heap.size) :
    Calls Try.prog 36 #[.agg #[.int .i64 g.a, .int .i64 g.b, .int .i64 g.o], .pointer (some ⟨bi, 0, none⟩)] W fun e w' => e = .returned (.bool (!decide (GOk n g))) ∧ Below W.heap.size W w' := by
  obtain ⟨a, b, o⟩ := g
  have HB : Hid (∀ cs, Below W.heap.size W (W.alloc (.cells cs 30))) := Lib.hid fun cs => (Below.refl _ _).alloc (Nat.le_refl _) _
  by_cases ha : 0 ≤ a ∧ a < n
  · have HA : Hid (decide (0 ≤ a ∧ a < n) = true) := Lib.hid (decide_eq_true ha)
    by_cases hb : 0 ≤ b ∧ b < n
    · have HBB : Hid (decide (0 ≤ b ∧ b < n) = true) := Lib.hid (decide_eq_true hb)
      by_cases hab : a = b
      · have HD : Hid (decide (GOk n ⟨a, b, o⟩) = false) := Lib.hid (decide_eq_false (by unfold GOk; simp only; omega))
        have he : (a == b) = true := by rw [beq_iff_eq]; exact hab
        clear ha hb hab
        go_enter Try.func36, Try.ntmps36
        go_wp2_with fail
        refine (in_any b0 a n _ ((World.cell?_alloc_lt _ _ _ h2).trans h)).mono ?_
        rintro e w1 ⟨rfl, rfl⟩
        rw [HA.out]
        go_wp2_with fail
        refine (in_any b0 b n _ ((World.cell?_alloc_lt _ _ _ h2).trans h)).mono ?_
        rintro e w1 ⟨rfl, rfl⟩
        rw [HBB.out]
        go_wp2
        go_ret
        exact ⟨by rw [HD.out]; rfl, HB.out _⟩
      · have he : (a == b) = false := by rw [beq_eq_false_iff_ne]; exact hab
        by_cases ho : o < 1
        · have HD : Hid (decide (GOk n ⟨a, b, o⟩) = false) := Lib.hid (decide_eq_false (by unfold GOk; simp only; omega))
          clear ha hb hab
          go_enter Try.func36, Try.ntmps36
          go_wp2_with fail
          refine (in_any b0 a n _ ((World.cell?_alloc_lt _ _ _ h2).trans h)).mono ?_
          rintro e w1 ⟨rfl, rfl⟩
          rw [HA.out]
          go_wp2_with fail
          refine (in_any b0 b n _ ((World.cell?_alloc_lt _ _ _ h2).trans h)).mono ?_
          rintro e w1 ⟨rfl, rfl⟩
          rw [HBB.out]
          go_wp2
          go_ret
          exact ⟨by rw [HD.out]; rfl, HB.out _⟩
        · have ho1 : decide (o < 1) = false := decide_eq_false ho
          by_cases ho2 : 3 < o
          · have HD : Hid (decide (GOk n ⟨a, b, o⟩) = false) := Lib.hid (decide_eq_false (by unfold GOk; simp only; omega))
            clear ha hb hab ho
            go_enter Try.func36, Try.ntmps36
            go_wp2_with fail
            refine (in_any b0 a n _ ((World.cell?_alloc_lt _ _ _ h2).trans h)).mono ?_
            rintro e w1 ⟨rfl, rfl⟩
            rw [HA.out]
            go_wp2_with fail
            refine (in_any b0 b n _ ((World.cell?_alloc_lt _ _ _ h2).trans h)).mono ?_
            rintro e w1 ⟨rfl, rfl⟩
            rw [HBB.out]
            go_wp2
            go_ret
            exact ⟨by rw [HD.out]; rfl, HB.out _⟩
          · have ho3 : decide (3 < o) = false := decide_eq_false ho2
            have HD : Hid (decide (GOk n ⟨a, b, o⟩) = true) := Lib.hid (decide_eq_true (by unfold GOk; simp only; omega))
            clear ha hb hab ho ho2
            go_enter Try.func36, Try.ntmps36
            go_wp2_with fail
            refine (in_any b0 a n _ ((World.cell?_alloc_lt _ _ _ h2).trans h)).mono ?_
            rintro e w1 ⟨rfl, rfl⟩
            rw [HA.out]
            go_wp2_with fail
            refine (in_any b0 b n _ ((World.cell?_alloc_lt _ _ _ h2).trans h)).mono ?_
            rintro e w1 ⟨rfl, rfl⟩
            rw [HBB.out]
            go_wp2
            go_ret
            exact ⟨by rw [HD.out]; rfl, HB.out _⟩
    · have HBB : Hid (decide (0 ≤ b ∧ b < n) = false) := Lib.hid (decide_eq_false hb)
      have HD : Hid (decide (GOk n ⟨a, b, o⟩) = false) := Lib.hid (decide_eq_false (by unfold GOk; simp only; omega))
      clear ha hb
      go_enter Try.func36, Try.ntmps36
      go_wp2_with fail
      refine (in_any b0 a n _ ((World.cell?_alloc_lt _ _ _ h2).trans h)).mono ?_
      rintro e w1 ⟨rfl, rfl⟩
      rw [HA.out]
      go_wp2_with fail
      refine (in_any b0 b n _ ((World.cell?_alloc_lt _ _ _ h2).trans h)).mono ?_
      rintro e w1 ⟨rfl, rfl⟩
      rw [HBB.out]
      go_wp2
      go_ret
      exact ⟨by rw [HD.out]; rfl, HB.out _⟩
  · have HA : Hid (decide (0 ≤ a ∧ a < n) = false) := Lib.hid (decide_eq_false ha)
    have HD : Hid (decide (GOk n ⟨a, b, o⟩) = false) := Lib.hid (decide_eq_false (by unfold GOk; simp only; omega))
    clear ha
    go_enter Try.func36, Try.ntmps36
    go_wp2_with fail
    refine (in_any b0 a n _ ((World.cell?_alloc_lt _ _ _ h2).trans h)).mono ?_
    rintro e w1 ⟨rfl, rfl⟩
    rw [HA.out]
    go_wp2
    go_ret
    exact ⟨by rw [HD.out]; rfl, HB.out _⟩
/-- What IndexFunc hands back. -/
def IdxEnd (n : Int) (l : List Gm) (w : World) (e : Ending) (w' : World) : Prop := ∃ i : Int, e = .returned (.int .i64 i) ∧ decide (0 ≤ i) = !l.all (fun g => decide (GOk n g)) ∧ Below w.heap.size w w'
set_option maxHeartbeats 800000 in
theorem index_any (bi b0 : Nat) (n : Int) (A : Option Addr) (len c : Nat) (l : List Gm) (w : World) (hx : Reads w 3 A len (gcells l)) (hlen : len ≤ 100000) (hi : w.cell? ⟨bi, 0, none⟩ = some (.func (.func 34) #[] #[.pointer (some ⟨b0, 0, none⟩)])) (h : w.cell? ⟨b0, 0, none⟩ = some (.int .i64 n)) (h1 : bi < w.heap.size) (h2 : b0 < w.heap.size) :
    Calls Try.prog 42 #[.slice A len c, .func (.func 36) #[] #[.pointer (some ⟨bi, 0, none⟩)]] w (IdxEnd n l w) := by
  have HX := Lib.hid hx
  have HL := Lib.hid (glen hx)
  clear hx
  have HI := Lib.hid hi
  have HH := Lib.hid h
  clear hi h
  go_enter Try.func42, Try.ntmps42
  go_wp2
  go_loopw [8] (fun i W => ∃ k : Nat, k ≤ len ∧ i = .int .i64 k ∧ Hid (∀ q, q < k → GOk n (gth l q)) ∧ Below w.heap.size w W) (fun i _ => len - (intOf i).toNat)
  case atStart => exact ⟨0, Nat.zero_le _, rfl, Lib.hid (fun q h => absurd h (by omega)), Below.refl _ _⟩
  case round =>
    obtain ⟨k, hk, rfl, HE, hB⟩ := hrel
    have hz := hB.size
    by_cases hlt : k < len
    · obtain ⟨ad, rfl, -, c0, c1, c2⟩ := game_at (HX.out.below hB) hlt
      have hlt' : (k : Int) < len := by omega
      have HG := Lib.hid (gth_get (xs := l) (k := k) (by rw [HL.out]; exact hlt))
      have HNX : Hid (GOk n (gth l k) → ∀ q, q < k + 1 → GOk n (gth l q)) := Lib.hid (fun h q hq => by
        rcases Nat.lt_or_ge q k with h3 | h3
        · exact HE.out q h3
        · obtain rfl : q = k := by omega
          exact h)
      generalize gth l k = g at *
      have HBD := Lib.hid (fun W (hb : Below w.heap.size w W) => bad_any bi b0 g n W ((hb.cell (p := ⟨bi, 0, none⟩) h1).trans HI.out) ((hb.cell (p := ⟨b0, 0, none⟩) h2).trans HH.out) (by have := hb.size; omega) (by have := hb.size; omega))
      obtain ⟨ga, gb, go⟩ := g
      simp only at c0 c1 c2
      go_wp2_with fail
      refine (HBD.out _ hB).mono ?_
      rintro e w1 ⟨rfl, hb1⟩
      by_cases hok : GOk n ⟨ga, gb, go⟩
      · rw [decide_eq_true hok]
        have HN := Lib.hid (HNX.out hok)
        clear hok
        go_wp2
        go_roundw
        case rel => exact ⟨k + 1, hlt, by go_num, HN, below_call hB hb1 hz⟩
        case measure => simp [intOf]; omega
      · rw [decide_eq_false hok]
        have HN : Hid (l.all (fun g => decide (GOk n g)) = false) := Lib.hid (by rw [List.all_eq_false]; exact ⟨_, List.mem_of_getElem? HG.out, by simpa using hok⟩)
        clear hok
        go_wp2
        go_ret
        exact ⟨k, rfl, by rw [HN.out]; simp, below_call hB hb1 hz⟩
    · obtain rfl : k = len := by omega
      have HN : Hid (l.all (fun g => decide (GOk n g)) = true) := Lib.hid (by
        rw [List.all_eq_true]
        intro g hg
        obtain ⟨q, hq, he⟩ := List.getElem_of_mem hg
        have h3 := gth_get hq
        rw [List.getElem?_eq_getElem hq, he] at h3
        injection h3 with h3
        rw [h3, decide_eq_true_eq]
        exact HE.out q (by rw [HL.out] at hq; exact hq))
      go_wp2
      go_ret
      exact ⟨-1, rfl, by rw [HN.out]; rfl, hB⟩
theorem contains_any (bi b0 : Nat) (n : Int) (A : Option Addr) (len c : Nat) (l : List Gm) (w : World) (hx : Reads w 3 A len (gcells l)) (hlen : len ≤ 100000) (hi : w.cell? ⟨bi, 0, none⟩ = some (.func (.func 34) #[] #[.pointer (some ⟨b0, 0, none⟩)])) (h : w.cell? ⟨b0, 0, none⟩ = some (.int .i64 n)) (h1 : bi < w.heap.size) (h2 : b0 < w.heap.size) :
    Calls Try.prog 35 #[.slice A len c, .func (.func 36) #[] #[.pointer (some ⟨bi, 0, none⟩)]] w fun e w' => e = .returned (.bool (!l.all (fun g => decide (GOk n g)))) ∧ Below w.heap.size w w' := by
  have HC := Lib.hid (index_any bi b0 n A len c l w hx hlen hi h h1 h2)
  clear hx hi h
  go_enter Try.func35, Try.ntmps35
  go_wp2_with fail
  refine HC.out.mono ?_
  rintro e w1 ⟨i, rfl, hib, hb1⟩
  go_wp2
  go_ret
  exact ⟨rfl, hb1⟩
set_option maxHeartbeats 800000 in
theorem check_any (n : Int) (A : Option Addr) (len c : Nat) (l : List Gm) (w : World) (hx : Reads w 3 A len (gcells l)) :
    Calls Try.prog 22 #[.int .i64 n, .slice A len c] w fun e w' => e = .returned (.int .i64 (errS n l)) ∧ Below w.heap.size w w' := by
  have HX := Lib.hid hx
  have hlen := glen hx
  clear hx
  by_cases h1 : 2000 < len
  · have HE : Hid (errS n l = 5) := Lib.hid (by unfold errS; rw [if_pos (by omega)])
    have h1' : (2000 : Int) < len := by omega
    clear hlen
    go_enter Try.func22, Try.ntmps22
    go_wp2
    go_ret
    exact ⟨by rw [HE.out]; rfl, by (focus (repeat' (first | (with_reducible exact Below.refl _ _) | (with_reducible assumption) | (with_reducible refine Below.alloc ?_ ?_ _) | (with_reducible refine below_drewN ?_ _) | (with_reducible refine Below.drew ?_) | (with_reducible refine Below.setCell ?_ ?_ _) | omega | (simp; done) | (simp; omega))))⟩
  · have h1' : decide ((2000 : Int) < len) = false := decide_eq_false (by omega)
    by_cases h2 : n < 2
    · have HE : Hid (errS n l = 2) := Lib.hid (by unfold errS; rw [if_neg (by omega), if_pos (.inl h2)])
      clear hlen
      go_enter Try.func22, Try.ntmps22
      go_wp2
      go_ret
      exact ⟨by rw [HE.out]; rfl, by (focus (repeat' (first | (with_reducible exact Below.refl _ _) | (with_reducible assumption) | (with_reducible refine Below.alloc ?_ ?_ _) | (with_reducible refine below_drewN ?_ _) | (with_reducible refine Below.drew ?_) | (with_reducible refine Below.setCell ?_ ?_ _) | omega | (simp; done) | (simp; omega))))⟩
    · have h2' : decide (n < 2) = false := decide_eq_false h2
      by_cases h3 : 40 < n
      · have HE : Hid (errS n l = 2) := Lib.hid (by unfold errS; rw [if_neg (by omega), if_pos (.inr h3)])
        clear hlen h2
        go_enter Try.func22, Try.ntmps22
        go_wp2
        go_ret
        exact ⟨by rw [HE.out]; rfl, by (focus (repeat' (first | (with_reducible exact Below.refl _ _) | (with_reducible assumption) | (with_reducible refine Below.alloc ?_ ?_ _) | (with_reducible refine below_drewN ?_ _) | (with_reducible refine Below.drew ?_) | (with_reducible refine Below.setCell ?_ ?_ _) | omega | (simp; done) | (simp; omega))))⟩
      · have h3' : decide (40 < n) = false := decide_eq_false h3
        have HE : Hid (errS n l = if l.all (fun g => decide (GOk n g)) = true then 0 else 2) := Lib.hid (by unfold errS; rw [if_neg (by omega), if_neg (by omega)])
        clear h2 h3 hlen
        go_enter Try.func22, Try.ntmps22
        have HB0 : Hid (Below w.heap.size w ((w.alloc (.cells #[.int .i64 n] 3)).alloc (.cells #[.func (.func 34) #[] #[.pointer (some ⟨w.heap.size, 0, none⟩)]] 52))) := Lib.hid (by (focus (repeat' (first | (with_reducible exact Below.refl _ _) | (with_reducible assumption) | (with_reducible refine Below.alloc ?_ ?_ _) | (with_reducible refine below_drewN ?_ _) | (with_reducible refine Below.drew ?_) | (with_reducible refine Below.setCell ?_ ?_ _) | omega | (simp; done) | (simp; omega)))))
        have HK1 := Lib.hid (Blk.mk_ (w.alloc (.cells #[.int .i64 n] 3)) 52 #[.func (.func 34) #[] #[.pointer (some ⟨w.heap.size, 0, none⟩)]] (w.heap.size + 1) (by simp))
        have HK0 := Lib.hid ((Blk.mk_ w 3 #[.int .i64 n] _ rfl).alloc (.cells #[.func (.func 34) #[] #[.pointer (some ⟨w.heap.size, 0, none⟩)]] 52))
        go_wp2_with fail
        refine (contains_any (w.heap.size + 1) w.heap.size n A len c l _ (HX.out.below HB0.out) (by omega) ((HK1.out.at_ 0).trans rfl) ((HK0.out.at_ 0).trans rfl) HK1.out.lt HK0.out.lt).mono ?_
        rintro e w1 ⟨rfl, hb1⟩
        have hB := below_call HB0.out hb1 HB0.out.size
        cases hok : l.all (fun g => decide (GOk n g)) with
        | true =>
          have HF : Hid (errS n l = 0) := Lib.hid (by rw [HE.out, hok]; rfl)
          clear hok
          go_wp2
          go_ret
          exact ⟨by rw [HF.out]; rfl, hB⟩
        | false =>
          have HF : Hid (errS n l = 2) := Lib.hid (by rw [HE.out, hok]; rfl)
          clear hok
          go_wp2
          go_ret
          exact ⟨by rw [HF.out]; rfl, hB⟩
end Go.Proofs.Ytekbjlihpmjlfaa
