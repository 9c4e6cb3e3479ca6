/-
  LeagueTables: the table that is wanted is built, and Table's is that.
-/
import Derived.Test.YtekbjlihpmjlfaaRow
import Derived.Test.YtekbjlihpmjlfaaFul
set_option linter.unusedSimpArgs false
set_option linter.unusedVariables false
namespace Go.Proofs.Ytekbjlihpmjlfaa
open Go.RowKit

theorem XOwns.lit (w : World) (base : Nat) (e : TypeId) (size : Nat) (cs : Array Value) (n : Nat) (hb : base ≤ w.heap.size) (hn : n ≤ 1000000) (hs : cs.size = n * size) : XOwns (w.alloc (.cells cs e)) base e size (some ⟨w.heap.size, 0, none⟩) n n cs.toList :=
  ⟨World.ownsRow_lit (base := base) (e := e) (size := size) w cs n hb (by unfold maxLen; omega) hs, fun h => by cases h⟩
theorem XOwns.drew_ {w : World} {base : Nat} {e : TypeId} {size n c : Nat} {A : Option Addr} {xs : List Value} (h : XOwns w base e size A n c xs) : XOwns w.drew base e size A n c xs := h.below (Below.refl _ _).drew
theorem neq_game (a b c : Int) (W : World) : (binOp .neq 30 (.agg #[.int .i64 a, .int .i64 b, .int .i64 c]) (.agg #[.int .i64 a, .int .i64 b, .int .i64 c])).run Try.prog W = .ok (.bool false) W := by
  have h72 : Try.prog.underlying 30 = some (.struct (Try.prog.fieldsOf 30)) := by kernel_rfl
  have p72 : Try.prog.stoodInHeld 30 = false := by kernel_rfl
  rw [run_neq_struct, run_equalIn_agg W 9999 30 _ _ h72 p72]
  simp [Program.fieldsOf, Try.underlying30, Op.eqFields, go_sem]
theorem rcells_one (l : List Rw) : ∀ u ∈ rcells l, u.oneCell' = true := by
  intro u hu
  simp only [rcells, List.mem_flatMap] at hu
  obtain ⟨d, _, hd⟩ := hu
  simp [Rw.cells] at hd
  rcases hd with rfl | rfl | rfl | rfl | rfl | rfl <;> rfl
theorem rcells_app (l m : List Rw) : rcells (l ++ m) = rcells l ++ rcells m := by simp [rcells]
theorem rcells_cons1 (x : Rw) (m : List Rw) : rcells (x :: m) = rcells [x] ++ rcells m := by simp [rcells]
theorem rcells_take (l : List Rw) (k : Nat) : (rcells l).take (k * 6) = rcells (l.take k) := by
  have h := rcells_app (l.take k) (l.drop k)
  rw [List.take_append_drop] at h
  rcases Nat.lt_or_ge l.length k with hk | hk
  · rw [List.take_of_length_le (by rw [rcells_len]; omega), List.take_of_length_le (by omega)]
  · rw [h, List.take_append_of_le_length (by rw [rcells_len, List.length_take]; omega), List.take_of_length_le (by rw [rcells_len, List.length_take]; omega)]
theorem rcells_drop (l : List Rw) (k : Nat) : (rcells l).drop (k * 6) = rcells (l.drop k) := by
  have h := rcells_app (l.take k) (l.drop k)
  rw [List.take_append_drop] at h
  rcases Nat.lt_or_ge l.length k with hk | hk
  · rw [List.drop_eq_nil_of_le (by rw [rcells_len]; omega), List.drop_eq_nil_of_le (by omega)]
    rfl
  · rw [h, List.drop_append_of_le_length (by rw [rcells_len, List.length_take]; omega), List.drop_eq_nil_of_le (by rw [rcells_len, List.length_take]; omega)]
    rfl
/-- Where a row is put in. -/
theorem ins_at {x : Rw} : ∀ (L : List Rw) (k : Nat), k ≤ L.length → (∀ j, j < k → Ahead (rth L j) x) → (k = L.length ∨ ¬ Ahead (rth L k) x) → insR x L = L.take k ++ x :: L.drop k
  | [], k, hk, _, _ => by
    obtain rfl : k = 0 := by simpa using hk
    rfl
  | y :: L, 0, _, _, h => by
    unfold insR
    rw [if_neg]
    · rfl
    · exact h.resolve_left (by simp)
  | y :: L, k + 1, hk, h1, h2 => by
    unfold insR
    rw [if_pos (show Ahead y x from h1 0 (by omega)), ins_at L k (by simpa using hk) (fun j hj => h1 (j + 1) (by omega)) (by
      rcases h2 with h | h
      · exact .inl (by simpa using h)
      · exact .inr h)]
    rfl
/-- The first rows, sorted. -/
def srtK (l : List Gm) (p : Nat) : List Rw := srtR ((rangeI p).map (rowS l))
theorem srtK_succ (l : List Gm) (p : Nat) : srtK l (p + 1) = insR (rowS l p) (srtK l p) := by
  unfold srtK srtR rangeI
  rw [List.range_succ]
  simp only [List.map_append, List.map_cons, List.map_nil, List.foldl_append, List.foldl_cons, List.foldl_nil]
theorem insR_len (x : Rw) (L : List Rw) : (insR x L).length = L.length + 1 := by rw [(insR_perm x L).length_eq]; rfl
theorem srtK_len (l : List Gm) : ∀ p, (srtK l p).length = p
  | 0 => rfl
  | p + 1 => by rw [srtK_succ, insR_len, srtK_len l p]

set_option maxRecDepth 100000 in
set_option maxHeartbeats 3200000 in
theorem ltab_bad (n : Int) (A : Option Addr) (len c : Nat) (l : List Gm) (w : World) (hx : Reads w 3 A len (gcells l)) (hA : A = none → c = 0) (hlen : len ≤ 60) (he : errS n l ≠ 0) :
    Calls Try.prog 3 #[.int .i64 n, .slice A len c] w fun e w' => e = .returned (.bool true) ∧ Below w.heap.size w w' := by
  have HX := Lib.hid hx
  have HL := Lib.hid (glen hx)
  have hl60 : decide ((60 : Int) < len) = false := decide_eq_false (by omega)
  have HE := Lib.hid he
  obtain ⟨E, hE⟩ : ∃ E, errS n l = E := ⟨_, rfl⟩
  have HEE := Lib.hid hE
  have hE0 : (E == 0) = false := by rw [beq_eq_false_iff_ne, ← hE]; exact he
  have hE1 : (E != 0) = true := by simp [bne, hE0]
  clear hx he hE
  go_enter Try.func3, Try.ntmps3
  go_wp2_with (at_builtin; refine append_nil (w := w) ?_ (.const (.slice none 0 0)) (.tmp 19) 22 ?_ 30 _ 3 24 Try.info30 Try.underlying22 rfl (by decide) ?_ A len c (gcells l) ?_ hA HX.out (gcells_one l) ?_ ?_ ?_; rfl; rfl; rfl; rfl; omega; omega; intro A1 c1 w1 ho1 hb1)
  have HO1 := Lib.hid ho1
  clear ho1
  go_wp2_with fail
  refine (table_bad n A1 len c1 l _ HO1.out.reads HE.out).mono ?_
  rw [HEE.out]
  rintro e w2 ⟨rfl, hb2⟩
  have HB2 := Lib.hid (below_call hb1 hb2 hb1.size)
  have HX2 := Lib.hid (HX.out.below HB2.out)
  have HO2 := Lib.hid (HO1.out.below hb2)
  clear hb1 hb2
  go_wp2
  go_loopw [8] (fun i W => ∃ k : Nat, k ≤ len ∧ i = .int .i64 k ∧ Hid (Below w2.heap.size w2 W)) (fun i _ => len - (intOf i).toNat)
  case atStart => exact ⟨0, Nat.zero_le _, rfl, Lib.hid (Below.refl _ _)⟩
  case round =>
    obtain ⟨k, hk, rfl, HBk⟩ := hrel
    by_cases hlt : k < len
    · have hlt' : (k : Int) < len := by omega
      obtain ⟨ad, rfl, had, c0, c1, c2⟩ := game_at ((HX2.out).below HBk.out) hlt
      obtain ⟨bd, rfl, hbd, d0, d1, d2⟩ := game_at ((HO2.out.reads).below HBk.out) hlt
      generalize gth l k = g at *
      obtain ⟨g1, g2, g3⟩ := g
      simp only at c0 c1 c2 d0 d1 d2
      have hnq := neq_game g1 g2 g3
      have hgd : Try.prog.eqGuardType Try.prog.depth 30 = false := by kernel_rfl
      go_wp2
      go_quiet (fail)
      clear hnq
      go_wp2
      go_roundw
      case rel => exact ⟨k + 1, by omega, by go_num, Lib.hid (below_drew_ HBk.out nq)⟩
      case measure => simp [intOf]; omega
    · obtain rfl : k = len := by omega
      go_wp2_with fail
      refine (lbad_any n A k c l _ (HX2.out.below HBk.out)).mono ?_
      rw [HEE.out]
      rintro e w4 ⟨rfl, hb4⟩
      have HB4 := Lib.hid (below_call (below_call HB2.out HBk.out HB2.out.size) hb4 (below_call HB2.out HBk.out HB2.out.size).size)
      go_wp2_with fail
      refine (known_any _).mono ?_
      rintro e w5 ⟨rfl, hb5⟩
      go_wp2
      go_ret
      exact ⟨rfl, below_call HB4.out hb5 HB4.out.size⟩

set_option maxRecDepth 100000 in
set_option maxHeartbeats 3200000 in
theorem ltab_ok (n : Nat) (A : Option Addr) (len c : Nat) (l : List Gm) (w : World) (hx : Reads w 3 A len (gcells l)) (hA : A = none → c = 0) (hlen : len ≤ 60) (he : errS n l = 0) :
    Calls Try.prog 3 #[.int .i64 n, .slice A len c] w fun e w' => e = .returned (.bool true) ∧ Below w.heap.size w w' := by
  have HX := Lib.hid hx
  have HL := Lib.hid (glen hx)
  have hl60 : decide ((60 : Int) < len) = false := decide_eq_false (by omega)
  have HE := Lib.hid he
  have hn := (errS_zero he).2.2.1
  clear hx he
  go_enter Try.func3, Try.ntmps3
  go_wp2_with (at_builtin; refine append_nil (w := w) ?_ (.const (.slice none 0 0)) (.tmp 19) 22 ?_ 30 _ 3 24 Try.info30 Try.underlying22 rfl (by decide) ?_ A len c (gcells l) ?_ hA HX.out (gcells_one l) ?_ ?_ ?_; rfl; rfl; rfl; rfl; omega; omega; intro A1 c1 w1 ho1 hb1)
  have HO1 := Lib.hid ho1
  clear ho1
  go_wp2_with fail
  refine (table_ok n A1 len c1 l _ HO1.out.reads HE.out).mono ?_
  rintro e w2 ⟨gT, rfl, hoT, hb2⟩
  have HB2 := Lib.hid (below_call hb1 hb2 hb1.size)
  have HX2 := Lib.hid (HX.out.below HB2.out)
  have HO2 := Lib.hid (HO1.out.below hb2)
  have HT2 := Lib.hid hoT.reads
  clear hb1 hb2 hoT
  go_wp2
  go_loopw [8] (fun i W => ∃ k : Nat, k ≤ len ∧ i = .int .i64 k ∧ Hid (Below w2.heap.size w2 W)) (fun i _ => len - (intOf i).toNat)
  case atStart => exact ⟨0, Nat.zero_le _, rfl, Lib.hid (Below.refl _ _)⟩
  case round =>
    obtain ⟨k, hk, rfl, HBk⟩ := hrel
    by_cases hlt : k < len
    · have hlt' : (k : Int) < len := by omega
      obtain ⟨ad, rfl, had, c0, c1, c2⟩ := game_at ((HX2.out).below HBk.out) hlt
      obtain ⟨bd, rfl, hbd, d0, d1, d2⟩ := game_at ((HO2.out.reads).below HBk.out) hlt
      generalize gth l k = g at *
      obtain ⟨g1, g2, g3⟩ := g
      simp only at c0 c1 c2 d0 d1 d2
      have hnq := neq_game g1 g2 g3
      have hgd : Try.prog.eqGuardType Try.prog.depth 30 = false := by kernel_rfl
      go_wp2
      go_quiet (fail)
      clear hnq
      go_wp2
      go_roundw
      case rel => exact ⟨k + 1, by omega, by go_num, Lib.hid (below_drew_ HBk.out nq)⟩
      case measure => simp [intOf]; omega
    · obtain rfl : k = len := by omega
      go_wp2_with fail
      refine (lbad_any n A k c l _ (HX2.out.below HBk.out)).mono ?_
      rw [HE.out]
      rintro e w4 ⟨rfl, hb4⟩
      have HB4' := Lib.hid (below_call (below_call HB2.out HBk.out HB2.out.size) hb4 (below_call HB2.out HBk.out HB2.out.size).size)
      have HT4 := Lib.hid (HT2.out.below (below_call HBk.out hb4 HBk.out.size))
      have HX4 := Lib.hid (HX2.out.below (below_call HBk.out hb4 HBk.out.size))
      clear HBk hb4
      go_wp2
      go_loopw [10, 11] (fun o i W => ∃ (p : Nat) (AW : Option Addr) (cW : Nat), p ≤ n ∧ i = .int .i64 p ∧ o = .slice AW p cW ∧ Hid (XOwns W w.heap.size 33 6 AW p cW (rcells (srtK l p))) ∧ Hid (Below w4.heap.size w4 W)) (fun _ i _ => n - (intOf i).toNat)
      case atStart => exact ⟨0, none, 0, Nat.zero_le _, rfl, rfl, Lib.hid (XOwns.nil_ _ _ _ _), Lib.hid (Below.refl _ _)⟩
      case round =>
        obtain ⟨p, AW, cW, hp, rfl, rfl, HOW, HBp⟩ := hrel
        have HB4 := Lib.hid (below_call HB4'.out HBp.out HB4'.out.size)
        by_cases hpn : p < n
        · have hpn' : (p : Int) < n := by omega
          have HNX := Lib.hid (srtK_succ l p)
          obtain ⟨L, hLL⟩ : ∃ L, srtK l p = L := ⟨_, rfl⟩
          have hLlen : L.length = p := by rw [← hLL]; exact srtK_len l p
          have HLL := Lib.hid hLlen
          rw [hLL] at HOW HNX
          have HRW : ∀ W, Below w4.heap.size w4 W → Calls Try.prog 11 #[.slice A k c, .int .i64 p] W fun e w' => e = .returned (.agg (rowS l p).cells.toArray) ∧ Below W.heap.size W w' := fun W hb => row_any A k c l p W (HX4.out.below hb) (by omega)
          obtain ⟨x, hx⟩ : ∃ x, rowS l p = x := ⟨_, rfl⟩
          rw [hx] at HRW HNX
          clear hx hLL hLlen
          obtain ⟨x0, x1, x2, x3, x4, x5⟩ := x
          simp only [Rw.cells] at HRW
          have HRW := Lib.hid HRW
          go_wp2_with fail
          refine (HRW.out _ HBp.out).mono ?_
          rintro e w5 ⟨rfl, hb5⟩
          have hz5 := HB4.out.size
          have HB6 := Lib.hid ((below_call HB4.out hb5 HB4.out.size).alloc (by have := hb5.size; omega) (.cells #[.int .i64 x0, .int .i64 x1, .int .i64 x2, .int .i64 x3, .int .i64 x4, .int .i64 x5] 33))
          have HB46 := Lib.hid (below_call HBp.out (hb5.alloc hb5.size (.cells #[.int .i64 x0, .int .i64 x1, .int .i64 x2, .int .i64 x3, .int .i64 x4, .int .i64 x5] 33)) HBp.out.size)
          have HOW6 := Lib.hid (HOW.out.below (hb5.alloc hb5.size (.cells #[.int .i64 x0, .int .i64 x1, .int .i64 x2, .int .i64 x3, .int .i64 x4, .int .i64 x5] 33)))
          have HXB6 := Lib.hid (Blk.mk_ w5 33 #[.int .i64 x0, .int .i64 x1, .int .i64 x2, .int .i64 x3, .int .i64 x4, .int .i64 x5] _ rfl)
          clear HRW hb5 HBp HOW
          go_wp2
          generalize hgx : w5.heap.size = gx at *
          generalize w5.alloc (.cells #[.int .i64 x0, .int .i64 x1, .int .i64 x2, .int .i64 x3, .int .i64 x4, .int .i64 x5] 33) = w6 at *
          clear hgx
          go_loopw [13] (fun i W => ∃ q : Nat, q ≤ p ∧ i = .int .i64 q ∧ Hid (∀ j, j < q → Ahead (rth L j) ⟨x0, x1, x2, x3, x4, x5⟩) ∧ Hid (Below w6.heap.size w6 W)) (fun i _ => p - (intOf i).toNat)
          case atStart => exact ⟨0, Nat.zero_le _, rfl, Lib.hid (fun j hj => absurd hj (by omega)), Lib.hid (Below.refl _ _)⟩
          case round =>
            obtain ⟨q, hq, rfl, HAH, HBq0⟩ := hrel
            by_cases hqp : q < p
            · have hqp' : (q : Int) < p := by omega
              obtain ⟨ad0, hAW, -, -⟩ := row_at (HOW6.out.reads.below HBq0.out) hqp
              obtain ⟨gW, hAW2⟩ : ∃ g, AW = some ⟨g, 0, none⟩ := by
                obtain ⟨g, _, hv, _⟩ := HOW6.out.1.form (by omega)
                exact ⟨g, by injection hv⟩
              clear hAW ad0
              subst hAW2
              have HOWr := Lib.hid (HOW6.out.below HBq0.out)
              have hcap := HOW6.out.capOk
              have HXBr := Lib.hid (HXB6.out.below HBq0.out HXB6.out.lt)
              have hgWr := (HOWr.out.lt gW rfl).2
              obtain ⟨⟨y0, y1, y2, y3, y4, y5⟩, hy⟩ : ∃ y, rth L q = y := ⟨_, rfl⟩
              have c0 := (HOWr.out.rcell (i := q) (j := 0) (u := .int .i64 y0) hqp (by decide) (by rw [hy]; rfl) (t := q * 6) (by omega)).1
              have c1 := (HOWr.out.rcell (i := q) (j := 1) (u := .int .i64 y1) hqp (by decide) (by rw [hy]; rfl) (t := q * 6 + 1) (by omega)).1
              have c2 := (HOWr.out.rcell (i := q) (j := 2) (u := .int .i64 y2) hqp (by decide) (by rw [hy]; rfl) (t := q * 6 + 2) (by omega)).1
              have c3 := (HOWr.out.rcell (i := q) (j := 3) (u := .int .i64 y3) hqp (by decide) (by rw [hy]; rfl) (t := q * 6 + 3) (by omega)).1
              have c4 := (HOWr.out.rcell (i := q) (j := 4) (u := .int .i64 y4) hqp (by decide) (by rw [hy]; rfl) (t := q * 6 + 4) (by omega)).1
              have c5 := (HOWr.out.rcell (i := q) (j := 5) (u := .int .i64 y5) hqp (by decide) (by rw [hy]; rfl) (t := q * 6 + 5) (by omega)).1
              have HY := Lib.hid hy
              have m0 : ∀ s : Later wr.heap.size wr, s.W.cell? ⟨gW, q * 6, none⟩ = some (.int .i64 y0) := fun s => (s.h.cell (p := ⟨gW, q * 6, none⟩) hgWr).trans c0
              have m1 : ∀ s : Later wr.heap.size wr, s.W.cell? ⟨gW, q * 6 + 1, none⟩ = some (.int .i64 y1) := fun s => (s.h.cell (p := ⟨gW, q * 6 + 1, none⟩) hgWr).trans c1
              have m2 : ∀ s : Later wr.heap.size wr, s.W.cell? ⟨gW, q * 6 + 2, none⟩ = some (.int .i64 y2) := fun s => (s.h.cell (p := ⟨gW, q * 6 + 2, none⟩) hgWr).trans c2
              have m3 : ∀ s : Later wr.heap.size wr, s.W.cell? ⟨gW, q * 6 + 3, none⟩ = some (.int .i64 y3) := fun s => (s.h.cell (p := ⟨gW, q * 6 + 3, none⟩) hgWr).trans c3
              have m4 : ∀ s : Later wr.heap.size wr, s.W.cell? ⟨gW, q * 6 + 4, none⟩ = some (.int .i64 y4) := fun s => (s.h.cell (p := ⟨gW, q * 6 + 4, none⟩) hgWr).trans c4
              have m5 : ∀ s : Later wr.heap.size wr, s.W.cell? ⟨gW, q * 6 + 5, none⟩ = some (.int .i64 y5) := fun s => (s.h.cell (p := ⟨gW, q * 6 + 5, none⟩) hgWr).trans c5
              have n0 : ∀ s : Later wr.heap.size wr, s.W.cell? ⟨gx, 0, none⟩ = some (.int .i64 x0) := fun s => ((HXBr.out.below s.h HXBr.out.lt).at_ 0).trans rfl
              have n1 : ∀ s : Later wr.heap.size wr, s.W.cell? ⟨gx, 1, none⟩ = some (.int .i64 x1) := fun s => ((HXBr.out.below s.h HXBr.out.lt).at_ 1).trans rfl
              have n2 : ∀ s : Later wr.heap.size wr, s.W.cell? ⟨gx, 2, none⟩ = some (.int .i64 x2) := fun s => ((HXBr.out.below s.h HXBr.out.lt).at_ 2).trans rfl
              have n3 : ∀ s : Later wr.heap.size wr, s.W.cell? ⟨gx, 3, none⟩ = some (.int .i64 x3) := fun s => ((HXBr.out.below s.h HXBr.out.lt).at_ 3).trans rfl
              have n4 : ∀ s : Later wr.heap.size wr, s.W.cell? ⟨gx, 4, none⟩ = some (.int .i64 x4) := fun s => ((HXBr.out.below s.h HXBr.out.lt).at_ 4).trans rfl
              have n5 : ∀ s : Later wr.heap.size wr, s.W.cell? ⟨gx, 5, none⟩ = some (.int .i64 x5) := fun s => ((HXBr.out.below s.h HXBr.out.lt).at_ 5).trans rfl
              obtain ⟨d, hd⟩ : ∃ d, decide (Ahead ⟨y0, y1, y2, y3, y4, y5⟩ ⟨x0, x1, x2, x3, x4, x5⟩) = d := ⟨_, rfl⟩
              have HAC : Hid (∀ s : Later wr.heap.size wr, Calls Try.prog 12 #[.agg #[.int .i64 y0, .int .i64 y1, .int .i64 y2, .int .i64 y3, .int .i64 y4, .int .i64 y5], .agg #[.int .i64 x0, .int .i64 x1, .int .i64 x2, .int .i64 x3, .int .i64 x4, .int .i64 x5]] s.W fun e w' => e = .returned (.bool d) ∧ Below s.W.heap.size s.W w') := Lib.hid fun s => by
                have h := ahead_any ⟨y0, y1, y2, y3, y4, y5⟩ ⟨x0, x1, x2, x3, x4, x5⟩ s.W
                rw [hd] at h
                exact h
              clear c0 c1 c2 c3 c4 c5 hy
              go_wp2
              refine wp_region_later (B := wr.heap.size) (w0 := wr) (Below.refl _ _) (by kernel_rfl) (by kernel_rfl) ?_
              repeat (go_big_quiet_step (((go_at_call 12; with_reducible exact Calls.later (Nat.le_refl _) (HAC.out _)))))
              refine wpQuiet_nil ?_
              intro _ hw'
              obtain ⟨s, hw2⟩ := hw'
              subst hw2
              obtain ⟨wq, hbq⟩ := s
              have HB6q := Lib.hid (below_call HBq0.out hbq HBq0.out.size)
              have HBq := Lib.hid (below_call HB6.out HB6q.out HB6.out.size)
              have HOWq := Lib.hid (HOW6.out.below HB6q.out)
              have HXBq := Lib.hid (HXB6.out.below HB6q.out HXB6.out.lt)
              clear HAC m0 m1 m2 m3 m4 m5 n0 n1 n2 n3 n4 n5
              cases d with
              | true =>
                have HAH2 : Hid (∀ j, j < q + 1 → Ahead (rth L j) ⟨x0, x1, x2, x3, x4, x5⟩) := Lib.hid (fun j hj => by
                  rcases Nat.lt_or_ge j q with h | h
                  · exact HAH.out j h
                  · obtain rfl : j = q := by omega
                    rw [HY.out]
                    exact of_decide_eq_true hd)
                clear hd
                go_wp2
                go_roundw
                case rel => exact ⟨q + 1, hqp, by go_num, HAH2, HB6q⟩
                case measure => simp [intOf]; omega
              | false =>
                have HINS : Hid (insR ⟨x0, x1, x2, x3, x4, x5⟩ L = L.take q ++ ⟨x0, x1, x2, x3, x4, x5⟩ :: L.drop q) := Lib.hid (ins_at L q (by rw [HLL.out]; exact hq) HAH.out (.inr (by rw [HY.out]; exact of_decide_eq_false hd)))
                clear hd
                have hcq : (cW = q) = False := eq_false (by omega)
                have HCT : Hid (Reads wq 6 (some ⟨gW, q * 6, none⟩) (p - q) (rcells (L.drop q))) := Lib.hid (by
                  have h := HOWq.out.reads.cut (k := q) hq hcap.1
                  rw [if_neg (by omega), rcells_drop] at h
                  simp only [Option.map_some, ad_zero] at h
                  exact h)
                have HHD : Hid (Reads wq 6 (some ⟨gW, 0, none⟩) q (rcells (L.take q))) := Lib.hid (by
                  have h := HOWq.out.reads.head (k := q) hq
                  rwa [rcells_take] at h)
                have HXS : ∀ s : Later wq.heap.size wq, Blk s.W gx 33 #[.int .i64 x0, .int .i64 x1, .int .i64 x2, .int .i64 x3, .int .i64 x4, .int .i64 x5] := fun s => HXBq.out.below s.h HXBq.out.lt
                have n0 : ∀ s : Later wq.heap.size wq, s.W.cell? ⟨gx, 0, none⟩ = some (.int .i64 x0) := fun s => ((HXS s).at_ 0).trans rfl
                have n1 : ∀ s : Later wq.heap.size wq, s.W.cell? ⟨gx, 1, none⟩ = some (.int .i64 x1) := fun s => ((HXS s).at_ 1).trans rfl
                have n2 : ∀ s : Later wq.heap.size wq, s.W.cell? ⟨gx, 2, none⟩ = some (.int .i64 x2) := fun s => ((HXS s).at_ 2).trans rfl
                have n3 : ∀ s : Later wq.heap.size wq, s.W.cell? ⟨gx, 3, none⟩ = some (.int .i64 x3) := fun s => ((HXS s).at_ 3).trans rfl
                have n4 : ∀ s : Later wq.heap.size wq, s.W.cell? ⟨gx, 4, none⟩ = some (.int .i64 x4) := fun s => ((HXS s).at_ 4).trans rfl
                have n5 : ∀ s : Later wq.heap.size wq, s.W.cell? ⟨gx, 5, none⟩ = some (.int .i64 x5) := fun s => ((HXS s).at_ 5).trans rfl
                have hcap63 := HOWq.out.capOk
                clear HXS
                go_wp2
                refine wp_region_sched (fun w' => ∃ s : Later wq.heap.size wq, w' = s.W) [0,2,3,4] (.one 1 [] (.one 5 [6] .done)) (by kernel_rfl) (by kernel_rfl) (fun d _ _ _ _ h => by cases d <;> exact h) ⟨⟨_, (Below.refl _ _).drew⟩, rfl⟩ ?_
                refine quiet_as (C' := (fun w' => ∃ s : Later wq.heap.size wq, w' = s.W)) rfl ?_
                simp only [opsAt, List.getElem?_toArray, List.getElem?_cons_succ, List.getElem?_cons_zero]
                repeat (go_big_quiet_step (fail))
                refine wpQuiet_nil ?_
                refine eff_as (C' := (fun w' => ∃ s : Later wq.heap.size wq, w' = s.W)) rfl ?_
                (refine eff_lit rfl rfl (fun K hK => ?_))
                go_big_op
                have hBa : Below wq.heap.size wq (wq.alloc (.cells #[.int .i64 x0, .int .i64 x1, .int .i64 x2, .int .i64 x3, .int .i64 x4, .int .i64 x5] 33)).drew := ((Below.refl _ _).alloc (Nat.le_refl _) _).drew
                have hLit : XOwns (wq.alloc (.cells #[.int .i64 x0, .int .i64 x1, .int .i64 x2, .int .i64 x3, .int .i64 x4, .int .i64 x5] 33)).drew wq.heap.size 33 6 (some ⟨wq.heap.size, 0, none⟩) 1 1 (rcells [⟨x0, x1, x2, x3, x4, x5⟩]) := (XOwns.lit wq wq.heap.size 33 6 #[.int .i64 x0, .int .i64 x1, .int .i64 x2, .int .i64 x3, .int .i64 x4, .int .i64 x5] 1 (Nat.le_refl _) (by decide) rfl).drew_
                refine hK _ _ ⟨⟨_, hBa⟩, rfl⟩ ?_
                clear hK K
                simp only [opsAt, List.getElem?_toArray, List.getElem?_cons_succ, List.getElem?_cons_zero]
                refine wpQuiet_nil ?_
                refine eff_as (C' := (fun w' => ∃ s : Later wq.heap.size wq, w' = s.W)) rfl ?_
                (refine eff_lit rfl rfl (fun K hK => ?_))
                refine append_xr_op (w := (wq.alloc (.cells #[.int .i64 x0, .int .i64 x1, .int .i64 x2, .int .i64 x3, .int .i64 x4, .int .i64 x5] 33)).drew) (.tmp 81) (.tmp 84) 24 rfl wq.heap.size 33 _ 6 48 Try.info33 Try.underlying24 rfl (by decide) (some ⟨wq.heap.size, 0, none⟩) 1 1 (rcells [⟨x0, x1, x2, x3, x4, x5⟩]) ?_ hLit (some ⟨gW, q * 6, none⟩) (p - q) (cW - q) (rcells (L.drop q)) ?_ (fun h => by cases h) (HCT.out.below hBa) (rcells_one _) ?_ ?_ ?_ ?_
                · rfl
                · rfl
                · omega
                · omega
                · simp [World.drew]
                intro A8 c8 w8 ho8 hb8
                simp only [Act.put, List.setIfInBounds_toArray, List.set_cons_succ, List.set_cons_zero]
                have hB8 : Below wq.heap.size wq w8 := hBa.trans hb8
                refine hK _ _ ⟨⟨_, hB8⟩, rfl⟩ ?_
                clear hK K n0 n1 n2 n3 n4 n5
                simp only [opsAt, List.getElem?_toArray, List.getElem?_cons_succ, List.getElem?_cons_zero]
                repeat (go_big_quiet_step (fail))
                refine wpQuiet_nil ?_
                refine effs_done ?_
                have HW8 := Lib.hid (HHD.out.below hB8)
                have HO8 := Lib.hid ho8
                have HB8 := Lib.hid (below_call HBq.out hB8 HBq.out.size)
                have HB68 := Lib.hid (below_call HB6q.out hB8 HB6q.out.size)
                have hz8 := hB8.size
                clear ho8 hb8 hBa hLit hB8
                go_wp2_with (first
                  | (at_builtin; refine append_nil (w := w8) ?_ (.const (.slice none 0 0)) (.tmp 88) 24 ?_ 33 _ 6 48 Try.info33 Try.underlying24 rfl (by decide) ?_ (some ⟨gW, 0, none⟩) q cW (rcells (L.take q)) ?_ (fun h => by cases h) HW8.out (rcells_one _) ?_ ?_ ?_; rfl; rfl; rfl; rfl; omega; omega; intro A9 c9 w9 ho9 hb9; have HO9 := Lib.hid ho9; clear ho9)
                  | (at_builtin; refine append_xr (w := w9) ?_ (.tmp 89) (.tmp 90) 24 ?_ w8.heap.size 33 _ 6 48 Try.info33 Try.underlying24 rfl (by decide) A9 q c9 (rcells (L.take q)) ?_ HO9.out A8 (1 + (p - q)) c8 (rcells [⟨x0, x1, x2, x3, x4, x5⟩] ++ (rcells (L.drop q))) ?_ HO8.out.2 (HO8.out.below hb9).reads ?_ ?_ ?_ ?_ ?_; rfl; rfl; rfl; rfl; (rw [← rcells_cons1]; exact rcells_one _); omega; omega; exact hb9.size; intro A10 c10 w10 ho10 hb10))
                go_roundw
                case rel => exact ⟨p + 1, A10, c10, by omega, by go_num, by first | rfl | (rw [show q + (1 + (p - q)) = p + 1 by omega]), Lib.hid (by
                  have h := own_lower (b' := w.heap.size) ho10 (by have := HB8.out.size; omega)
                  have e : rcells (L.take q) ++ (rcells [⟨x0, x1, x2, x3, x4, x5⟩] ++ (rcells (L.drop q))) = rcells (srtK l (p + 1)) := by
                    rw [HNX.out, HINS.out, rcells_app, rcells_cons1]
                    try rfl
                  rw [e] at h
                  rw [show q + (1 + (p - q)) = p + 1 by omega] at h
                  exact h), Lib.hid (below_call HB46.out ((below_call HB68.out hb9 HB68.out.size).trans (hb10.mono (by have := HB68.out.size; omega))) HB46.out.size)⟩
                case measure => simp [intOf]; omega
            · have hqp' : decide ((q : Int) < p) = false := decide_eq_false (by omega)
              have hqle : (q : Int) ≤ p := by omega
              have hqf : ((q : Int) < p) = False := eq_false (by omega)
              have hqn : (q < p) = False := eq_false (by omega)
              have HQP : Hid (q = p) := Lib.hid (by omega)
              have HINS : Hid (insR ⟨x0, x1, x2, x3, x4, x5⟩ L = L.take q ++ ⟨x0, x1, x2, x3, x4, x5⟩ :: L.drop q) := Lib.hid (ins_at L q (by rw [HLL.out]; exact hq) HAH.out (.inl (by rw [HLL.out]; omega)))
              have HDN : Hid (L.drop q = []) := Lib.hid (List.eq_nil_of_length_eq_zero (by rw [List.length_drop, HLL.out]; omega))
              have hcap := HOW6.out.capOk
              clear hqp
              go_wp2
              refine wp_region_later (B := wr.heap.size) (w0 := wr) (Below.refl _ _) (by kernel_rfl) (by kernel_rfl) ?_
              repeat (go_big_quiet_step (fail))
              refine wpQuiet_nil ?_
              intro _ hw'
              obtain ⟨s, hw2⟩ := hw'
              subst hw2
              obtain ⟨wq, hbq⟩ := s
              have HB6q := Lib.hid (below_call HBq0.out hbq HBq0.out.size)
              have HBq := Lib.hid (below_call HB6.out HB6q.out HB6.out.size)
              have HOWq := Lib.hid (HOW6.out.below HB6q.out)
              have HXBq := Lib.hid (HXB6.out.below HB6q.out HXB6.out.lt)
              have hform : AW = none ∨ ∃ g, AW = some ⟨g, 0, none⟩ := by
                rcases HOW6.out.1.2 with ⟨h2, _⟩ | ⟨g, c2, cur, h2, _⟩
                · injection h2 with h2; exact .inl h2
                · injection h2 with h2; exact .inr ⟨g, h2⟩
              rcases hform with h0 | ⟨gW, h1⟩
              · subst h0
                obtain rfl : cW = 0 := HOW6.out.2 rfl
                obtain rfl : p = 0 := by omega
                obtain rfl : q = 0 := by omega
                have HHD : Hid (Reads wq 6 none 0 (rcells (L.take 0))) := Lib.hid (by rw [List.take_zero]; exact Reads.none_)
                have HXS : ∀ s : Later wq.heap.size wq, Blk s.W gx 33 #[.int .i64 x0, .int .i64 x1, .int .i64 x2, .int .i64 x3, .int .i64 x4, .int .i64 x5] := fun s => HXBq.out.below s.h HXBq.out.lt
                have n0 : ∀ s : Later wq.heap.size wq, s.W.cell? ⟨gx, 0, none⟩ = some (.int .i64 x0) := fun s => ((HXS s).at_ 0).trans rfl
                have n1 : ∀ s : Later wq.heap.size wq, s.W.cell? ⟨gx, 1, none⟩ = some (.int .i64 x1) := fun s => ((HXS s).at_ 1).trans rfl
                have n2 : ∀ s : Later wq.heap.size wq, s.W.cell? ⟨gx, 2, none⟩ = some (.int .i64 x2) := fun s => ((HXS s).at_ 2).trans rfl
                have n3 : ∀ s : Later wq.heap.size wq, s.W.cell? ⟨gx, 3, none⟩ = some (.int .i64 x3) := fun s => ((HXS s).at_ 3).trans rfl
                have n4 : ∀ s : Later wq.heap.size wq, s.W.cell? ⟨gx, 4, none⟩ = some (.int .i64 x4) := fun s => ((HXS s).at_ 4).trans rfl
                have n5 : ∀ s : Later wq.heap.size wq, s.W.cell? ⟨gx, 5, none⟩ = some (.int .i64 x5) := fun s => ((HXS s).at_ 5).trans rfl
                have hcap63 := HOWq.out.capOk
                clear HXS
                go_wp2
                refine wp_region_sched (fun w' => ∃ s : Later wq.heap.size wq, w' = s.W) [0,2,3,4] (.one 1 [] (.one 5 [6] .done)) (by kernel_rfl) (by kernel_rfl) (fun d _ _ _ _ h => by cases d <;> exact h) ⟨⟨_, (Below.refl _ _).drew⟩, rfl⟩ ?_
                refine quiet_as (C' := (fun w' => ∃ s : Later wq.heap.size wq, w' = s.W)) rfl ?_
                simp only [opsAt, List.getElem?_toArray, List.getElem?_cons_succ, List.getElem?_cons_zero]
                repeat (go_big_quiet_step (fail))
                refine wpQuiet_nil ?_
                refine eff_as (C' := (fun w' => ∃ s : Later wq.heap.size wq, w' = s.W)) rfl ?_
                (refine eff_lit rfl rfl (fun K hK => ?_))
                go_big_op
                have hBa : Below wq.heap.size wq (wq.alloc (.cells #[.int .i64 x0, .int .i64 x1, .int .i64 x2, .int .i64 x3, .int .i64 x4, .int .i64 x5] 33)).drew := ((Below.refl _ _).alloc (Nat.le_refl _) _).drew
                have hLit : XOwns (wq.alloc (.cells #[.int .i64 x0, .int .i64 x1, .int .i64 x2, .int .i64 x3, .int .i64 x4, .int .i64 x5] 33)).drew wq.heap.size 33 6 (some ⟨wq.heap.size, 0, none⟩) 1 1 (rcells [⟨x0, x1, x2, x3, x4, x5⟩]) := (XOwns.lit wq wq.heap.size 33 6 #[.int .i64 x0, .int .i64 x1, .int .i64 x2, .int .i64 x3, .int .i64 x4, .int .i64 x5] 1 (Nat.le_refl _) (by decide) rfl).drew_
                refine hK _ _ ⟨⟨_, hBa⟩, rfl⟩ ?_
                clear hK K
                simp only [opsAt, List.getElem?_toArray, List.getElem?_cons_succ, List.getElem?_cons_zero]
                refine wpQuiet_nil ?_
                refine eff_as (C' := (fun w' => ∃ s : Later wq.heap.size wq, w' = s.W)) rfl ?_
                (refine eff_lit rfl rfl (fun K hK => ?_))
                refine append_xr_op (w := (wq.alloc (.cells #[.int .i64 x0, .int .i64 x1, .int .i64 x2, .int .i64 x3, .int .i64 x4, .int .i64 x5] 33)).drew) (.tmp 81) (.tmp 84) 24 rfl wq.heap.size 33 _ 6 48 Try.info33 Try.underlying24 rfl (by decide) (some ⟨wq.heap.size, 0, none⟩) 1 1 (rcells [⟨x0, x1, x2, x3, x4, x5⟩]) ?_ hLit none 0 0 [] ?_ (fun _ => rfl) Reads.none_ (fun _ h => by cases h) ?_ ?_ ?_ ?_
                · rfl
                · rfl
                · omega
                · omega
                · simp [World.drew]
                intro A8 c8 w8 ho8 hb8
                simp only [Act.put, List.setIfInBounds_toArray, List.set_cons_succ, List.set_cons_zero]
                have hB8 : Below wq.heap.size wq w8 := hBa.trans hb8
                refine hK _ _ ⟨⟨_, hB8⟩, rfl⟩ ?_
                clear hK K n0 n1 n2 n3 n4 n5
                simp only [opsAt, List.getElem?_toArray, List.getElem?_cons_succ, List.getElem?_cons_zero]
                repeat (go_big_quiet_step (fail))
                refine wpQuiet_nil ?_
                refine effs_done ?_
                have HW8 := Lib.hid (HHD.out.below hB8)
                have HO8 := Lib.hid ho8
                have HB8 := Lib.hid (below_call HBq.out hB8 HBq.out.size)
                have HB68 := Lib.hid (below_call HB6q.out hB8 HB6q.out.size)
                have hz8 := hB8.size
                clear ho8 hb8 hBa hLit hB8
                go_wp2_with (first
                  | (at_builtin; refine append_nil (w := w8) ?_ (.const (.slice none 0 0)) (.tmp 88) 24 ?_ 33 _ 6 48 Try.info33 Try.underlying24 rfl (by decide) ?_ none 0 0 (rcells (L.take 0)) ?_ (fun _ => rfl) HW8.out (rcells_one _) ?_ ?_ ?_; rfl; rfl; rfl; rfl; omega; omega; intro A9 c9 w9 ho9 hb9; have HO9 := Lib.hid ho9; clear ho9)
                  | (at_builtin; refine append_xr (w := w9) ?_ (.tmp 89) (.tmp 90) 24 ?_ w8.heap.size 33 _ 6 48 Try.info33 Try.underlying24 rfl (by decide) A9 0 c9 (rcells (L.take 0)) ?_ HO9.out A8 (1 + 0) c8 (rcells [⟨x0, x1, x2, x3, x4, x5⟩] ++ []) ?_ HO8.out.2 (HO8.out.below hb9).reads ?_ ?_ ?_ ?_ ?_; rfl; rfl; rfl; rfl; (rw [List.append_nil]; exact rcells_one _); omega; omega; exact hb9.size; intro A10 c10 w10 ho10 hb10))
                go_roundw
                case rel => exact ⟨0 + 1, A10, c10, by omega, by go_num, by first | rfl | (rw [show 0 + (1 + 0) = 0 + 1 by omega]), Lib.hid (by
                  have h := own_lower (b' := w.heap.size) ho10 (by have := HB8.out.size; omega)
                  have e : rcells (L.take 0) ++ (rcells [⟨x0, x1, x2, x3, x4, x5⟩] ++ []) = rcells (srtK l (0 + 1)) := by
                    rw [HNX.out, HINS.out, rcells_app, rcells_cons1, HDN.out]
                    try rfl
                  rw [e] at h
                  rw [show 0 + (1 + 0) = 0 + 1 by omega] at h
                  exact h), Lib.hid (below_call HB46.out ((below_call HB68.out hb9 HB68.out.size).trans (hb10.mono (by have := HB68.out.size; omega))) HB46.out.size)⟩
                case measure => simp [intOf]; omega
              · subst h1
                have HHD : Hid (Reads wq 6 (some ⟨gW, 0, none⟩) q (rcells (L.take q))) := Lib.hid (by
                  have h := HOWq.out.reads.head (k := q) hq
                  rwa [rcells_take] at h)
                by_cases hce : cW = q
                · have hcq : (cW = q) = True := eq_true hce
                  have hcz : cW - q = 0 := by omega
                  have hpz : p - q = 0 := by omega
                  clear hce
                  have HXS : ∀ s : Later wq.heap.size wq, Blk s.W gx 33 #[.int .i64 x0, .int .i64 x1, .int .i64 x2, .int .i64 x3, .int .i64 x4, .int .i64 x5] := fun s => HXBq.out.below s.h HXBq.out.lt
                  have n0 : ∀ s : Later wq.heap.size wq, s.W.cell? ⟨gx, 0, none⟩ = some (.int .i64 x0) := fun s => ((HXS s).at_ 0).trans rfl
                  have n1 : ∀ s : Later wq.heap.size wq, s.W.cell? ⟨gx, 1, none⟩ = some (.int .i64 x1) := fun s => ((HXS s).at_ 1).trans rfl
                  have n2 : ∀ s : Later wq.heap.size wq, s.W.cell? ⟨gx, 2, none⟩ = some (.int .i64 x2) := fun s => ((HXS s).at_ 2).trans rfl
                  have n3 : ∀ s : Later wq.heap.size wq, s.W.cell? ⟨gx, 3, none⟩ = some (.int .i64 x3) := fun s => ((HXS s).at_ 3).trans rfl
                  have n4 : ∀ s : Later wq.heap.size wq, s.W.cell? ⟨gx, 4, none⟩ = some (.int .i64 x4) := fun s => ((HXS s).at_ 4).trans rfl
                  have n5 : ∀ s : Later wq.heap.size wq, s.W.cell? ⟨gx, 5, none⟩ = some (.int .i64 x5) := fun s => ((HXS s).at_ 5).trans rfl
                  have hcap63 := HOWq.out.capOk
                  clear HXS
                  go_wp2
                  refine wp_region_sched (fun w' => ∃ s : Later wq.heap.size wq, w' = s.W) [0,2,3,4] (.one 1 [] (.one 5 [6] .done)) (by kernel_rfl) (by kernel_rfl) (fun d _ _ _ _ h => by cases d <;> exact h) ⟨⟨_, (Below.refl _ _).drew⟩, rfl⟩ ?_
                  refine quiet_as (C' := (fun w' => ∃ s : Later wq.heap.size wq, w' = s.W)) rfl ?_
                  simp only [opsAt, List.getElem?_toArray, List.getElem?_cons_succ, List.getElem?_cons_zero]
                  repeat (go_big_quiet_step (fail))
                  refine wpQuiet_nil ?_
                  refine eff_as (C' := (fun w' => ∃ s : Later wq.heap.size wq, w' = s.W)) rfl ?_
                  (refine eff_lit rfl rfl (fun K hK => ?_))
                  go_big_op
                  have hBa : Below wq.heap.size wq (wq.alloc (.cells #[.int .i64 x0, .int .i64 x1, .int .i64 x2, .int .i64 x3, .int .i64 x4, .int .i64 x5] 33)).drew := ((Below.refl _ _).alloc (Nat.le_refl _) _).drew
                  have hLit : XOwns (wq.alloc (.cells #[.int .i64 x0, .int .i64 x1, .int .i64 x2, .int .i64 x3, .int .i64 x4, .int .i64 x5] 33)).drew wq.heap.size 33 6 (some ⟨wq.heap.size, 0, none⟩) 1 1 (rcells [⟨x0, x1, x2, x3, x4, x5⟩]) := (XOwns.lit wq wq.heap.size 33 6 #[.int .i64 x0, .int .i64 x1, .int .i64 x2, .int .i64 x3, .int .i64 x4, .int .i64 x5] 1 (Nat.le_refl _) (by decide) rfl).drew_
                  refine hK _ _ ⟨⟨_, hBa⟩, rfl⟩ ?_
                  clear hK K
                  simp only [opsAt, List.getElem?_toArray, List.getElem?_cons_succ, List.getElem?_cons_zero]
                  refine wpQuiet_nil ?_
                  refine eff_as (C' := (fun w' => ∃ s : Later wq.heap.size wq, w' = s.W)) rfl ?_
                  (refine eff_lit rfl rfl (fun K hK => ?_))
                  refine append_xr_op (w := (wq.alloc (.cells #[.int .i64 x0, .int .i64 x1, .int .i64 x2, .int .i64 x3, .int .i64 x4, .int .i64 x5] 33)).drew) (.tmp 81) (.tmp 84) 24 rfl wq.heap.size 33 _ 6 48 Try.info33 Try.underlying24 rfl (by decide) (some ⟨wq.heap.size, 0, none⟩) 1 1 (rcells [⟨x0, x1, x2, x3, x4, x5⟩]) ?_ hLit (some ⟨gW, 0, none⟩) 0 0 [] ?_ (fun h => by cases h) Reads.none_ (fun _ h => by cases h) ?_ ?_ ?_ ?_
                  · rfl
                  · rfl
                  · omega
                  · omega
                  · simp [World.drew]
                  intro A8 c8 w8 ho8 hb8
                  simp only [Act.put, List.setIfInBounds_toArray, List.set_cons_succ, List.set_cons_zero]
                  have hB8 : Below wq.heap.size wq w8 := hBa.trans hb8
                  refine hK _ _ ⟨⟨_, hB8⟩, rfl⟩ ?_
                  clear hK K n0 n1 n2 n3 n4 n5
                  simp only [opsAt, List.getElem?_toArray, List.getElem?_cons_succ, List.getElem?_cons_zero]
                  repeat (go_big_quiet_step (fail))
                  refine wpQuiet_nil ?_
                  refine effs_done ?_
                  have HW8 := Lib.hid (HHD.out.below hB8)
                  have HO8 := Lib.hid ho8
                  have HB8 := Lib.hid (below_call HBq.out hB8 HBq.out.size)
                  have HB68 := Lib.hid (below_call HB6q.out hB8 HB6q.out.size)
                  have hz8 := hB8.size
                  clear ho8 hb8 hBa hLit hB8
                  go_wp2_with (first
                    | (at_builtin; refine append_nil (w := w8) ?_ (.const (.slice none 0 0)) (.tmp 88) 24 ?_ 33 _ 6 48 Try.info33 Try.underlying24 rfl (by decide) ?_ (some ⟨gW, 0, none⟩) q cW (rcells (L.take q)) ?_ (fun h => by cases h) HW8.out (rcells_one _) ?_ ?_ ?_; rfl; rfl; rfl; rfl; omega; omega; intro A9 c9 w9 ho9 hb9; have HO9 := Lib.hid ho9; clear ho9)
                    | (at_builtin; refine append_xr (w := w9) ?_ (.tmp 89) (.tmp 90) 24 ?_ w8.heap.size 33 _ 6 48 Try.info33 Try.underlying24 rfl (by decide) A9 q c9 (rcells (L.take q)) ?_ HO9.out A8 (1 + 0) c8 (rcells [⟨x0, x1, x2, x3, x4, x5⟩] ++ []) ?_ HO8.out.2 (HO8.out.below hb9).reads ?_ ?_ ?_ ?_ ?_; rfl; rfl; rfl; rfl; (rw [List.append_nil]; exact rcells_one _); omega; omega; exact hb9.size; intro A10 c10 w10 ho10 hb10))
                  go_roundw
                  case rel => exact ⟨p + 1, A10, c10, by omega, by go_num, by first | rfl | (rw [show q + (1 + 0) = p + 1 by omega]), Lib.hid (by
                    have h := own_lower (b' := w.heap.size) ho10 (by have := HB8.out.size; omega)
                    have e : rcells (L.take q) ++ (rcells [⟨x0, x1, x2, x3, x4, x5⟩] ++ []) = rcells (srtK l (p + 1)) := by
                      rw [HNX.out, HINS.out, rcells_app, rcells_cons1, HDN.out]
                      try rfl
                    rw [e] at h
                    rw [show q + (1 + 0) = p + 1 by omega] at h
                    exact h), Lib.hid (below_call HB46.out ((below_call HB68.out hb9 HB68.out.size).trans (hb10.mono (by have := HB68.out.size; omega))) HB46.out.size)⟩
                  case measure => simp [intOf]; omega
                · have hcq : (cW = q) = False := eq_false hce
                  have HCT : Hid (Reads wq 6 (some ⟨gW, q * 6, none⟩) (p - q) (rcells (L.drop q))) := Lib.hid (by
                    have h := HOWq.out.reads.cut (k := q) hq hcap.1
                    rw [if_neg hce, rcells_drop] at h
                    simp only [Option.map_some, ad_zero] at h
                    exact h)
                  clear hce
                  have HXS : ∀ s : Later wq.heap.size wq, Blk s.W gx 33 #[.int .i64 x0, .int .i64 x1, .int .i64 x2, .int .i64 x3, .int .i64 x4, .int .i64 x5] := fun s => HXBq.out.below s.h HXBq.out.lt
                  have n0 : ∀ s : Later wq.heap.size wq, s.W.cell? ⟨gx, 0, none⟩ = some (.int .i64 x0) := fun s => ((HXS s).at_ 0).trans rfl
                  have n1 : ∀ s : Later wq.heap.size wq, s.W.cell? ⟨gx, 1, none⟩ = some (.int .i64 x1) := fun s => ((HXS s).at_ 1).trans rfl
                  have n2 : ∀ s : Later wq.heap.size wq, s.W.cell? ⟨gx, 2, none⟩ = some (.int .i64 x2) := fun s => ((HXS s).at_ 2).trans rfl
                  have n3 : ∀ s : Later wq.heap.size wq, s.W.cell? ⟨gx, 3, none⟩ = some (.int .i64 x3) := fun s => ((HXS s).at_ 3).trans rfl
                  have n4 : ∀ s : Later wq.heap.size wq, s.W.cell? ⟨gx, 4, none⟩ = some (.int .i64 x4) := fun s => ((HXS s).at_ 4).trans rfl
                  have n5 : ∀ s : Later wq.heap.size wq, s.W.cell? ⟨gx, 5, none⟩ = some (.int .i64 x5) := fun s => ((HXS s).at_ 5).trans rfl
                  have hcap63 := HOWq.out.capOk
                  clear HXS
                  go_wp2
                  refine wp_region_sched (fun w' => ∃ s : Later wq.heap.size wq, w' = s.W) [0,2,3,4] (.one 1 [] (.one 5 [6] .done)) (by kernel_rfl) (by kernel_rfl) (fun d _ _ _ _ h => by cases d <;> exact h) ⟨⟨_, (Below.refl _ _).drew⟩, rfl⟩ ?_
                  refine quiet_as (C' := (fun w' => ∃ s : Later wq.heap.size wq, w' = s.W)) rfl ?_
                  simp only [opsAt, List.getElem?_toArray, List.getElem?_cons_succ, List.getElem?_cons_zero]
                  repeat (go_big_quiet_step (fail))
                  refine wpQuiet_nil ?_
                  refine eff_as (C' := (fun w' => ∃ s : Later wq.heap.size wq, w' = s.W)) rfl ?_
                  (refine eff_lit rfl rfl (fun K hK => ?_))
                  go_big_op
                  have hBa : Below wq.heap.size wq (wq.alloc (.cells #[.int .i64 x0, .int .i64 x1, .int .i64 x2, .int .i64 x3, .int .i64 x4, .int .i64 x5] 33)).drew := ((Below.refl _ _).alloc (Nat.le_refl _) _).drew
                  have hLit : XOwns (wq.alloc (.cells #[.int .i64 x0, .int .i64 x1, .int .i64 x2, .int .i64 x3, .int .i64 x4, .int .i64 x5] 33)).drew wq.heap.size 33 6 (some ⟨wq.heap.size, 0, none⟩) 1 1 (rcells [⟨x0, x1, x2, x3, x4, x5⟩]) := (XOwns.lit wq wq.heap.size 33 6 #[.int .i64 x0, .int .i64 x1, .int .i64 x2, .int .i64 x3, .int .i64 x4, .int .i64 x5] 1 (Nat.le_refl _) (by decide) rfl).drew_
                  refine hK _ _ ⟨⟨_, hBa⟩, rfl⟩ ?_
                  clear hK K
                  simp only [opsAt, List.getElem?_toArray, List.getElem?_cons_succ, List.getElem?_cons_zero]
                  refine wpQuiet_nil ?_
                  refine eff_as (C' := (fun w' => ∃ s : Later wq.heap.size wq, w' = s.W)) rfl ?_
                  (refine eff_lit rfl rfl (fun K hK => ?_))
                  refine append_xr_op (w := (wq.alloc (.cells #[.int .i64 x0, .int .i64 x1, .int .i64 x2, .int .i64 x3, .int .i64 x4, .int .i64 x5] 33)).drew) (.tmp 81) (.tmp 84) 24 rfl wq.heap.size 33 _ 6 48 Try.info33 Try.underlying24 rfl (by decide) (some ⟨wq.heap.size, 0, none⟩) 1 1 (rcells [⟨x0, x1, x2, x3, x4, x5⟩]) ?_ hLit (some ⟨gW, q * 6, none⟩) (p - q) (cW - q) (rcells (L.drop q)) ?_ (fun h => by cases h) (HCT.out.below hBa) (rcells_one _) ?_ ?_ ?_ ?_
                  · rfl
                  · rfl
                  · omega
                  · omega
                  · simp [World.drew]
                  intro A8 c8 w8 ho8 hb8
                  simp only [Act.put, List.setIfInBounds_toArray, List.set_cons_succ, List.set_cons_zero]
                  have hB8 : Below wq.heap.size wq w8 := hBa.trans hb8
                  refine hK _ _ ⟨⟨_, hB8⟩, rfl⟩ ?_
                  clear hK K n0 n1 n2 n3 n4 n5
                  simp only [opsAt, List.getElem?_toArray, List.getElem?_cons_succ, List.getElem?_cons_zero]
                  repeat (go_big_quiet_step (fail))
                  refine wpQuiet_nil ?_
                  refine effs_done ?_
                  have HW8 := Lib.hid (HHD.out.below hB8)
                  have HO8 := Lib.hid ho8
                  have HB8 := Lib.hid (below_call HBq.out hB8 HBq.out.size)
                  have HB68 := Lib.hid (below_call HB6q.out hB8 HB6q.out.size)
                  have hz8 := hB8.size
                  clear ho8 hb8 hBa hLit hB8
                  go_wp2_with (first
                    | (at_builtin; refine append_nil (w := w8) ?_ (.const (.slice none 0 0)) (.tmp 88) 24 ?_ 33 _ 6 48 Try.info33 Try.underlying24 rfl (by decide) ?_ (some ⟨gW, 0, none⟩) q cW (rcells (L.take q)) ?_ (fun h => by cases h) HW8.out (rcells_one _) ?_ ?_ ?_; rfl; rfl; rfl; rfl; omega; omega; intro A9 c9 w9 ho9 hb9; have HO9 := Lib.hid ho9; clear ho9)
                    | (at_builtin; refine append_xr (w := w9) ?_ (.tmp 89) (.tmp 90) 24 ?_ w8.heap.size 33 _ 6 48 Try.info33 Try.underlying24 rfl (by decide) A9 q c9 (rcells (L.take q)) ?_ HO9.out A8 (1 + (p - q)) c8 (rcells [⟨x0, x1, x2, x3, x4, x5⟩] ++ (rcells (L.drop q))) ?_ HO8.out.2 (HO8.out.below hb9).reads ?_ ?_ ?_ ?_ ?_; rfl; rfl; rfl; rfl; (rw [← rcells_cons1]; exact rcells_one _); omega; omega; exact hb9.size; intro A10 c10 w10 ho10 hb10))
                  go_roundw
                  case rel => exact ⟨p + 1, A10, c10, by omega, by go_num, by first | rfl | (rw [show q + (1 + (p - q)) = p + 1 by omega]), Lib.hid (by
                    have h := own_lower (b' := w.heap.size) ho10 (by have := HB8.out.size; omega)
                    have e : rcells (L.take q) ++ (rcells [⟨x0, x1, x2, x3, x4, x5⟩] ++ (rcells (L.drop q))) = rcells (srtK l (p + 1)) := by
                      rw [HNX.out, HINS.out, rcells_app, rcells_cons1]
                      try rfl
                    rw [e] at h
                    rw [show q + (1 + (p - q)) = p + 1 by omega] at h
                    exact h), Lib.hid (below_call HB46.out ((below_call HB68.out hb9 HB68.out.size).trans (hb10.mono (by have := HB68.out.size; omega))) HB46.out.size)⟩
                  case measure => simp [intOf]; omega
        · obtain rfl : p = n := by omega
          go_wp2_with fail
          refine (rows_same (tabS p l) _ (HT4.out.below HBp.out) HOW.out.reads (by omega)).mono ?_
          rintro e w6 ⟨rfl, hb6⟩
          go_wp2_with fail
          refine (known_any _).mono ?_
          rintro e w7 ⟨rfl, hb7⟩
          go_wp2
          go_ret
          exact ⟨rfl, below_call (below_call HB4.out hb6 HB4.out.size) hb7 (below_call HB4.out hb6 HB4.out.size).size⟩
end Go.Proofs.Ytekbjlihpmjlfaa
