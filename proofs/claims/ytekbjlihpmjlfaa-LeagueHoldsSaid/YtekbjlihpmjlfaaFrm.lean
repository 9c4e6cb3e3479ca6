/-
  Form.
-/
import Derived.Test.YtekbjlihpmjlfaaTab
import Derived.Test.YtekbjlihpmjlfaaAppOp
import Derived.Laws.EntriesVeiled
import Derived.Lib.SliceRun
set_option linter.unusedSimpArgs false
set_option linter.unusedVariables false
namespace Go.Proofs.Ytekbjlihpmjlfaa
open Go.RowKit

theorem Try.info28 : (Try.prog.info? 28).map (fun i => (i.zero, i.size, i.bytes)) = some (some (.int .i64 0), 1, 8) := by kernel_rfl

set_option maxHeartbeats 400000 in
theorem clone40 (A : Option Addr) (n c : Nat) (xs : List Value) (w : World) (hx : Reads w 1 A n xs) (h1 : ∀ u ∈ xs, u.oneCell' = true) (hA : A = none → c = 0) (hn : n ≤ 100000) :
    Calls Try.prog 40 #[.slice A n c] w fun e w' => ∃ A' c', e = .returned (.slice A' n c') ∧ XOwns w' w.heap.size 28 1 A' n c' xs ∧ Below w.heap.size w w' := by
  cases A with
  | none =>
    have hc := hA rfl
    subst hc
    have h0 : n = 0 := by
      rcases Nat.eq_zero_or_pos n with h0 | h0
      · exact h0
      · obtain ⟨ad, e, _⟩ := hx.2 h0
        cases e
    subst h0
    have hxe : xs = [] := List.eq_nil_of_length_eq_zero (by rw [hx.1])
    rw [hxe]
    clear hx hA hxe h1
    have heql := fun W a n c => Lib.run_eql_slice_nil (P := Try.prog) W 45 28 a n c 0 0 Try.underlying45
    go_enter Try.func40, Try.ntmps40
    go_wp2
    go_ret
    exact ⟨none, 0, rfl, ⟨World.ownsRow_nil _ _ _ _, fun _ => rfl⟩, Below.refl _ _⟩
  | some ad =>
    have heql := fun W a n c => Lib.run_eql_slice_nil (P := Try.prog) W 45 28 a n c 0 0 Try.underlying45
    have HX := Lib.hid hx
    have H1 := Lib.hid h1
    clear hx hA h1
    obtain ⟨i0, hi, hz0, hz1, hz2⟩ := info_parts Try.info28
    have HI := Lib.hid hi
    have HZ0 := Lib.hid hz0
    have HZ1 := Lib.hid hz1
    have HZ2 := Lib.hid hz2
    clear hi hz0 hz1 hz2
    go_enter Try.func40, Try.ntmps40
    go_wp2_with (at_builtin; refine wpList_append_reads _ ?_ (.tmp 5) (.tmp 6) 45 ?_ w.heap.size 28 i0 _ 1 8 Try.underlying45 HI.out HZ0.out HZ1.out HZ2.out rfl (by decide) (.slice (some ⟨w.heap.size, 0, none⟩) 0 0) 0 [] ?_ (World.ownsRow_lit (base := w.heap.size) (e := 28) (size := 1) w #[] 0 (Nat.le_refl _) (by unfold maxLen; omega) (by simp)) (some ad) n c xs ?_ (fun h => by cases h) (HX.out.alloc _) H1.out ?_ ?_ ?_ ?_; rfl; rfl; rfl; rfl; (unfold maxLen; omega); omega; (focus (first | omega | (simp only [World.size_alloc]; done) | (simp only [World.size_alloc]; omega) | (simp; done) | (simp; omega))); intro v2 w2 ho2 hg2 hiff)
    go_ret
    have hb : Below w.heap.size w w2 := Below.trans (by (focus (repeat' (first | (with_reducible exact Below.refl _ _) | (with_reducible assumption) | (with_reducible refine Below.alloc ?_ ?_ _) | (with_reducible refine below_drewN ?_ _) | (with_reducible refine Below.drew ?_) | (with_reducible refine Below.setCell ?_ ?_ _) | omega | (simp; done) | (simp; omega))))) ((Below.refl _ _).grown hg2 (by (focus (first | omega | (simp only [World.size_alloc]; done) | (simp only [World.size_alloc]; omega) | (simp; done) | (simp; omega)))) (fun k hk => by (have hkk : w.heap.size = k := by simpa [Value.ownBlock] using hk); omega))
    rw [Nat.zero_add, List.nil_append] at ho2
    rcases ho2.2 with ⟨h0, h00⟩ | ⟨g, cap, cur, h0, _⟩
    · exact ⟨none, 0, by (first | (rw [h00]; exact congrArg Ending.returned h0) | (subst h00; exact congrArg Ending.returned h0)), ⟨by rw [h0] at ho2; rw [h00] at ho2 ⊢; exact ho2, fun _ => rfl⟩, hb⟩
    · exact ⟨some ⟨g, 0, none⟩, cap, congrArg Ending.returned h0, ⟨by rw [h0] at ho2; exact ho2, fun h => by cases h⟩, hb⟩

theorem ics_drop (l : List Int) (k : Nat) : (ics l).drop k = ics (l.drop k) := by simp [ics]
/-- The outcome of a game for a player. -/
def outS (g : Gm) (p : Int) : List Int := if g.a = p then [g.o] else if g.b = p then [if g.o = 3 then 3 else 3 - g.o] else []
def frmS (l : List Gm) (p : Int) : List Int := l.flatMap fun g => outS g p
theorem frmS_snoc {l : List Gm} {g : Gm} {p : Int} : frmS (l ++ [g]) p = frmS l p ++ outS g p := by simp [frmS]
theorem outS_len (g : Gm) (p : Int) : (outS g p).length ≤ 1 := by unfold outS; split <;> (try split) <;> simp
theorem frmS_len (l : List Gm) (p : Int) : (frmS l p).length ≤ l.length := by
  induction l with
  | nil => simp [frmS]
  | cons g l ih =>
    have h := outS_len g p
    have e : frmS (g :: l) p = outS g p ++ frmS l p := by simp [frmS]
    rw [e, List.length_append, List.length_cons]
    omega
/-- The last ones. -/
def lastS (l : List Int) (most : Int) : List Int := l.drop (l.length - most.toNat)
set_option maxHeartbeats 800000 in
theorem form_bad (n : Int) (A : Option Addr) (len c : Nat) (l : List Gm) (p m : Int) (w : World) (hx : Reads w 3 A len (gcells l)) (he : errS n l ≠ 0) :
    Calls Try.prog 30 #[.int .i64 n, .slice A len c, .int .i64 p, .int .i64 m] w fun e w' => e = .returned (.tuple #[.slice none 0 0, .int .i64 (errS n l)]) ∧ Below w.heap.size w w' := by
  have HX := Lib.hid hx
  have h1 : (errS n l == 0) = false := by rw [beq_eq_false_iff_ne]; exact he
  have h2 : (errS n l != 0) = true := by simp [bne, h1]
  clear hx he
  go_enter Try.func30, Try.ntmps30
  go_wp2_with (go_at_call 22; refine (check_any n A len c l _ HX.out).mono ?_; rintro e w1 ⟨rfl, hb1⟩)
  go_ret2
  exact ⟨rfl, hb1⟩
set_option maxHeartbeats 800000 in
theorem form_arg (n : Int) (A : Option Addr) (len c : Nat) (l : List Gm) (p m : Int) (w : World) (hx : Reads w 3 A len (gcells l)) (he : errS n l = 0) (hp : p < 0 ∨ n ≤ p ∨ m < 0) :
    Calls Try.prog 30 #[.int .i64 n, .slice A len c, .int .i64 p, .int .i64 m] w fun e w' => e = .returned (.tuple #[.slice none 0 0, .int .i64 2]) ∧ Below w.heap.size w w' := by
  have HX := Lib.hid hx
  have HE := Lib.hid he
  clear hx he
  by_cases h1 : p < 0
  · clear hp
    go_enter Try.func30, Try.ntmps30
    go_wp2_with (go_at_call 22; refine (check_any n A len c l _ HX.out).mono ?_; rw [HE.out]; rintro e w1 ⟨rfl, hb1⟩)
    go_ret2
    exact ⟨rfl, hb1⟩
  · have h1' : decide (p < 0) = false := decide_eq_false h1
    by_cases h2 : n ≤ p
    · clear hp h1
      go_enter Try.func30, Try.ntmps30
      go_wp2_with (go_at_call 22; refine (check_any n A len c l _ HX.out).mono ?_; rw [HE.out]; rintro e w1 ⟨rfl, hb1⟩)
      go_ret2
      exact ⟨rfl, hb1⟩
    · have h2' : decide (n ≤ p) = false := decide_eq_false h2
      have h3 : m < 0 := by omega
      clear hp h1 h2
      go_enter Try.func30, Try.ntmps30
      go_wp2_with (go_at_call 22; refine (check_any n A len c l _ HX.out).mono ?_; rw [HE.out]; rintro e w1 ⟨rfl, hb1⟩)
      go_ret2
      exact ⟨rfl, hb1⟩
/-- What Form hands back. -/
def FormEnd (l : List Int) (w : World) (e : Ending) (w' : World) : Prop := ∃ A c, e = .returned (.tuple #[.slice A l.length c, .int .i64 0]) ∧ XOwns w' w.heap.size 28 1 A l.length c (ics l) ∧ Below w.heap.size w w'

set_option maxRecDepth 100000 in
set_option maxHeartbeats 3200000 in
theorem form_ok (n : Nat) (A : Option Addr) (len c : Nat) (l : List Gm) (p m : Int) (w : World) (hx : Reads w 3 A len (gcells l)) (he : errS n l = 0) (hp : 0 ≤ p ∧ p < n) (hm : 0 ≤ m ∧ m ≤ 9223372036854775807) :
    Calls Try.prog 30 #[.int .i64 n, .slice A len c, .int .i64 p, .int .i64 m] w (FormEnd (lastS (frmS l p) m) w) := by
  have HX := Lib.hid hx
  have HL := Lib.hid (glen hx)
  obtain ⟨hlen, hn1, hn2, hok⟩ := errS_zero he
  rw [glen hx] at hlen
  have HOK := Lib.hid hok
  have HE := Lib.hid he
  have HMM := Lib.hid hm
  obtain ⟨hp1, hp2⟩ := hp
  have e1 : decide (p < 0) = false := decide_eq_false (by omega)
  have e2 : decide ((n : Int) ≤ p) = false := decide_eq_false (by omega)
  have e3 : decide (m < 0) = false := decide_eq_false (by omega)
  clear hx hok he hm
  go_enter Try.func30, Try.ntmps30
  go_wp2_with (go_at_call 22; refine (check_any n A len c l _ HX.out).mono ?_; rw [HE.out]; rintro e w1 ⟨rfl, hb1⟩; have hz1 := hb1.size)
  go_loopw [11, 33] (fun o i W => ∃ (q : Nat) (S : Option Addr) (k cS : Nat), q ≤ len ∧ i = .int .i64 q ∧ o = .slice S k cS ∧ k ≤ q ∧ Hid (k = (frmS (l.take q) p).length) ∧ XOwns W w.heap.size 28 1 S k cS (ics (frmS (l.take q) p)) ∧ Below w.heap.size w W) (fun _ i _ => len - (intOf i).toNat)
  case atStart => exact ⟨0, none, 0, 0, Nat.zero_le _, rfl, rfl, Nat.le_refl _, Lib.hid rfl, XOwns.nil_ _ _ _ _, hb1⟩
  case round =>
    obtain ⟨q, S, k, cS, hq, rfl, rfl, hkq, HK, hO, hB⟩ := hrel
    have hz := hB.size
    have HO := Lib.hid hO
    clear hO hb1 hz1
    by_cases hlt2 : q < len
    · have hlt2' : (q : Int) < len := by omega
      obtain ⟨ad, rfl, -, c0, c1, c2⟩ := game_at (HX.out.below hB) hlt2
      have hgk := HOK.out _ (List.mem_of_getElem? (gth_get (xs := l) (k := q) (by rw [HL.out]; exact hlt2)))
      have HTK := Lib.hid (gtake_snoc (l := l) (k := q) (by rw [HL.out]; exact hlt2))
      generalize gth l q = g at *
      obtain ⟨ga, gb, go⟩ := g
      simp only at c0 c1 c2
      obtain ⟨g1, g2, g3, g4, g5, g6, g7⟩ := hgk
      simp only at g1 g2 g3 g4 g5 g6 g7
      have hal : Below wr.heap.size wr (wr.alloc (.cells #[.int .i64 ga, .int .i64 gb, .int .i64 go] 30)) := (Below.refl _ _).alloc (Nat.le_refl _) _
      have HAL := Lib.hid hal
      have HO5 := Lib.hid (HO.out.below hal)
      have hB5 := hB.trans (hal.mono hz)
      have hz5 := hB5.size
      clear hal g1 g2 g3 g4
      obtain ⟨L, hL⟩ : ∃ L, frmS (l.take q) p = L := ⟨_, rfl⟩
      rw [hL] at HO5 HK
      have HLL := Lib.hid hL
      clear hL
      by_cases ha : ga = p
      · have HS : Hid (frmS (l.take (q + 1)) p = L ++ [go]) := Lib.hid (by rw [HTK.out, frmS_snoc, HLL.out]; unfold outS; rw [if_pos ha])
        have e5 : (ga == p) = true := by rw [beq_iff_eq]; exact ha
        clear ha
        have hal2 : Below (wr.alloc (.cells #[.int .i64 ga, .int .i64 gb, .int .i64 go] 30)).heap.size (wr.alloc (.cells #[.int .i64 ga, .int .i64 gb, .int .i64 go] 30)) ((wr.alloc (.cells #[.int .i64 ga, .int .i64 gb, .int .i64 go] 30)).alloc (.cells #[.int .i64 go] 28)) := (Below.refl _ _).alloc (Nat.le_refl _) _
        have HBL := Lib.hid (Blk.mk_ (wr.alloc (.cells #[.int .i64 ga, .int .i64 gb, .int .i64 go] 30)) 28 #[.int .i64 go] (wr.heap.size + 1) (by simp))
        go_wp2_with (at_builtin; refine append_xr (w := ((wr.alloc (.cells #[.int .i64 ga, .int .i64 gb, .int .i64 go] 30)).alloc (.cells #[.int .i64 go] 28))) ?_ (.tmp 42) (.tmp 45) 45 ?_ w.heap.size 28 (.int .i64 0) 1 8 Try.info28 Try.underlying45 rfl (by decide) S k cS (ics L) ?_ (HO5.out.below hal2) (some ⟨wr.heap.size + 1, 0, none⟩) 1 1 (ics [go]) ?_ (fun h => by cases h) (reads_block HBL.out 1 1 rfl) (ics_one _) ?_ ?_ ?_ ?_; rfl; rfl; rfl; rfl; omega; omega; (simp; omega); intro A6 c6 w6 ho6 hb6)
        go_roundw
        case rel => exact ⟨q + 1, A6, k + 1, c6, hlt2, by go_num, rfl, by omega, Lib.hid (by rw [HS.out, List.length_append, ← HK.out]; rfl), by rw [HS.out]; (have h := ho6; rw [show ics L ++ ics [go] = ics (L ++ [go]) by simp [ics]] at h; exact h), (hB5.trans (hal2.mono hz5)).trans hb6⟩
        case measure => simp [intOf]; omega
      · have e5 : (ga == p) = false := by rw [beq_eq_false_iff_ne]; exact ha
        by_cases hb : gb = p
        · have e6 : (gb == p) = true := by rw [beq_iff_eq]; exact hb
          by_cases ho : go = 3
          · have HS : Hid (frmS (l.take (q + 1)) p = L ++ [go]) := Lib.hid (by rw [HTK.out, frmS_snoc, HLL.out]; unfold outS; rw [if_neg ha, if_pos hb, if_pos ho, ho])
            have e7 : (go == 3) = true := by rw [beq_iff_eq]; exact ho
            clear ha hb ho
            have hal2 : Below (wr.alloc (.cells #[.int .i64 ga, .int .i64 gb, .int .i64 go] 30)).heap.size (wr.alloc (.cells #[.int .i64 ga, .int .i64 gb, .int .i64 go] 30)) ((wr.alloc (.cells #[.int .i64 ga, .int .i64 gb, .int .i64 go] 30)).alloc (.cells #[.int .i64 go] 28)) := (Below.refl _ _).alloc (Nat.le_refl _) _
            have HBL := Lib.hid (Blk.mk_ (wr.alloc (.cells #[.int .i64 ga, .int .i64 gb, .int .i64 go] 30)) 28 #[.int .i64 go] (wr.heap.size + 1) (by simp))
            go_wp2_with (at_builtin; refine append_xr (w := ((wr.alloc (.cells #[.int .i64 ga, .int .i64 gb, .int .i64 go] 30)).alloc (.cells #[.int .i64 go] 28))) ?_ (.tmp 57) (.tmp 60) 45 ?_ w.heap.size 28 (.int .i64 0) 1 8 Try.info28 Try.underlying45 rfl (by decide) S k cS (ics L) ?_ (HO5.out.below hal2) (some ⟨wr.heap.size + 1, 0, none⟩) 1 1 (ics [go]) ?_ (fun h => by cases h) (reads_block HBL.out 1 1 rfl) (ics_one _) ?_ ?_ ?_ ?_; rfl; rfl; rfl; rfl; omega; omega; (simp; omega); intro A6 c6 w6 ho6 hb6)
            go_roundw
            case rel => exact ⟨q + 1, A6, k + 1, c6, hlt2, by go_num, rfl, by omega, Lib.hid (by rw [HS.out, List.length_append, ← HK.out]; rfl), by rw [HS.out]; (have h := ho6; rw [show ics L ++ ics [go] = ics (L ++ [go]) by simp [ics]] at h; exact h), (hB5.trans (hal2.mono hz5)).trans hb6⟩
            case measure => simp [intOf]; omega
          · have HS : Hid (frmS (l.take (q + 1)) p = L ++ [3 - go]) := Lib.hid (by rw [HTK.out, frmS_snoc, HLL.out]; unfold outS; rw [if_neg ha, if_pos hb, if_neg ho])
            have e7 : (go == 3) = false := by rw [beq_eq_false_iff_ne]; exact ho
            clear ha hb ho
            have hal2 : Below (wr.alloc (.cells #[.int .i64 ga, .int .i64 gb, .int .i64 go] 30)).heap.size (wr.alloc (.cells #[.int .i64 ga, .int .i64 gb, .int .i64 go] 30)) ((wr.alloc (.cells #[.int .i64 ga, .int .i64 gb, .int .i64 go] 30)).alloc (.cells #[.int .i64 (3 - go)] 28)) := (Below.refl _ _).alloc (Nat.le_refl _) _
            have HBL := Lib.hid (Blk.mk_ (wr.alloc (.cells #[.int .i64 ga, .int .i64 gb, .int .i64 go] 30)) 28 #[.int .i64 (3 - go)] (wr.heap.size + 1) (by simp))
            go_wp2_with (at_builtin; refine append_xr (w := ((wr.alloc (.cells #[.int .i64 ga, .int .i64 gb, .int .i64 go] 30)).alloc (.cells #[.int .i64 (3 - go)] 28))) ?_ (.tmp 67) (.tmp 71) 45 ?_ w.heap.size 28 (.int .i64 0) 1 8 Try.info28 Try.underlying45 rfl (by decide) S k cS (ics L) ?_ (HO5.out.below hal2) (some ⟨wr.heap.size + 1, 0, none⟩) 1 1 (ics [3 - go]) ?_ (fun h => by cases h) (reads_block HBL.out 1 1 rfl) (ics_one _) ?_ ?_ ?_ ?_; rfl; rfl; rfl; rfl; omega; omega; (simp; omega); intro A6 c6 w6 ho6 hb6)
            go_roundw
            case rel => exact ⟨q + 1, A6, k + 1, c6, hlt2, by go_num, rfl, by omega, Lib.hid (by rw [HS.out, List.length_append, ← HK.out]; rfl), by rw [HS.out]; (have h := ho6; rw [show ics L ++ ics [3 - go] = ics (L ++ [3 - go]) by simp [ics]] at h; exact h), (hB5.trans (hal2.mono hz5)).trans hb6⟩
            case measure => simp [intOf]; omega
        · have e6 : (gb == p) = false := by rw [beq_eq_false_iff_ne]; exact hb
          have HS : Hid (frmS (l.take (q + 1)) p = L) := Lib.hid (by rw [HTK.out, frmS_snoc, HLL.out]; unfold outS; rw [if_neg ha, if_neg hb, List.append_nil])
          clear ha hb
          go_wp2
          go_roundw
          case rel => exact ⟨q + 1, S, k, cS, hlt2, by go_num, rfl, by omega, Lib.hid (by rw [HS.out]; exact HK.out), by rw [HS.out]; exact HO5.out, hB5⟩
          case measure => simp [intOf]; omega
    · obtain rfl : q = len := by omega
      have HTL : Hid (frmS (l.take q) p = frmS l p) := Lib.hid (by rw [List.take_of_length_le (by rw [HL.out]; exact Nat.le_refl _)])
      rw [HTL.out] at HO HK
      generalize frmS l p = L at *
      obtain ⟨m, rfl⟩ : ∃ k : Nat, m = k := ⟨m.toNat, by have := HMM.out; omega⟩
      have hmb : m ≤ 9223372036854775807 := by have := HMM.out; omega
      have hk0 := HK.out
      obtain ⟨x, hxx⟩ : ∃ x : Int, (k : Int) - m = x := ⟨_, rfl⟩
      have hwx : IntKind.i64.wrap ((k : Int) - m) = x := by rw [hxx]; exact IntWalk.i64_in _ (by omega)
      have hcap := HO.out.capOk
      clear e3
      by_cases hmk : k ≤ m
      · have hx0 : decide (0 < x) = false := decide_eq_false (by omega)
        have hx1 : (0 < x) = False := eq_false (by omega)
        have hmx : max (0 : Int) x = 0 := by omega
        have HLS : Hid (lastS L m = L) := Lib.hid (by unfold lastS; rw [Int.toNat_natCast, show L.length - m = 0 by omega]; rfl)
        have HKL := Lib.hid hk0
        clear hmk hxx hk0
        cases S with
        | none =>
          obtain rfl : cS = 0 := HO.out.2 rfl
          obtain rfl : k = 0 := by omega
          go_wp2_with (go_at_call 40; refine (clone40 none 0 0 (ics L) _ HO.out.reads (ics_one _) (fun _ => rfl) (by omega)).mono ?_; rintro e w7 ⟨A7, c7, rfl, ho7, hb7⟩)
          go_ret2
          rw [HLS.out]
          exact ⟨A7, c7, by rw [← HKL.out]; rfl, by rw [← HKL.out]; exact own_lower ho7 hz, below_call hB hb7 hz⟩
        | some ad =>
          go_wp2_with (go_at_call 40; refine (clone40 (some ad) k cS (ics L) _ HO.out.reads (ics_one _) (fun h => by cases h) (by omega)).mono ?_; rintro e w7 ⟨A7, c7, rfl, ho7, hb7⟩)
          go_ret2
          rw [HLS.out]
          exact ⟨A7, c7, by rw [← HKL.out]; rfl, by rw [← HKL.out]; exact own_lower ho7 hz, below_call hB hb7 hz⟩
      · obtain ⟨j, hj⟩ : ∃ j, k - m = j := ⟨_, rfl⟩
        obtain rfl : x = (j : Int) := by omega
        obtain ⟨ad, hS, _, _⟩ := int_at HO.out.reads (k := 0) (by omega)
        subst hS
        have hj0 : (0 : Int) < j := by omega
        have hjk : (j : Int) ≤ k := by omega
        have HLS : Hid (lastS L m = L.drop j) := Lib.hid (by unfold lastS; rw [Int.toNat_natCast, ← hk0, hj])
        have HLN : Hid ((L.drop j).length = k - j) := Lib.hid (by rw [List.length_drop, ← hk0])
        have hjk' : j ≤ k := by omega
        have hmx : max (0 : Int) (j : Int) = j := by omega
        clear hmk hxx hk0 hj
        have HCUT := Lib.hid (HO.out.reads.cut (k := j) hjk' hcap.1)
        by_cases hcj : cS = j
        · obtain rfl : k = j := by omega
          subst hcj
          have HDN : Hid (L.drop cS = []) := Lib.hid (List.eq_nil_of_length_eq_zero (by rw [HLN.out]; omega))
          have hck : cS ≤ 2000 := by omega
          go_wp2_with (go_at_call 40; refine (clone40 (some ad) 0 _ [] _ Reads.none_ (fun _ h => by cases h) (fun h => by cases h) (by omega)).mono ?_; rintro e w7 ⟨A7, c7, rfl, ho7, hb7⟩)
          go_ret2
          rw [HLS.out, HDN.out]
          exact ⟨A7, c7, rfl, own_lower ho7 hz, below_call hB hb7 hz⟩
        · have hcj' : (cS = j) = False := eq_false hcj
          have HCT : Hid (Reads wr 1 (some (ad.add j)) (k - j) (ics (L.drop j))) := Lib.hid (by
            have h := HCUT.out
            rw [if_neg hcj, Nat.mul_one, ics_drop] at h
            exact h)
          clear hcj
          go_wp2_with (go_at_call 40; refine (clone40 (some (ad.add j)) (k - j) _ (ics (L.drop j)) _ HCT.out (ics_one _) (fun h => by cases h) (by omega)).mono ?_; rintro e w7 ⟨A7, c7, rfl, ho7, hb7⟩)
          go_ret2
          rw [HLS.out]
          exact ⟨A7, c7, by rw [HLN.out]; rfl, by rw [HLN.out]; exact own_lower ho7 hz, below_call hB hb7 hz⟩
end Go.Proofs.Ytekbjlihpmjlfaa
