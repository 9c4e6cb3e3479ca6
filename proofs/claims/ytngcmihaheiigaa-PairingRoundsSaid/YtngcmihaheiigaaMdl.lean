/-
  The law's model in memory; met.
-/
import Derived.Test.YtngcmihaheiigaaCpy
set_option linter.unusedSimpArgs false
set_option linter.unusedVariables false
namespace Go.Proofs.Ytngcmihaheiigaa
open Go.RowKit

structure MC where
  RA : Option Addr
  rc : Nat
  rs : List Sl
  SA : Option Addr
  sc : Nat
  ss : List Sl
/-- Block p is the law's model in the state st. -/
structure Mn (w : World) (B p : Nat) (st : TS) (y : MC) : Prop where
  blk : Blk w p 45 #[.int .i64 st.n, .slice y.RA st.rounds.length y.rc, .slice y.SA st.rounds.length y.sc, .bool st.open_]
  base : B ≤ p
  rds : XOwns w B 29 1 y.RA st.rounds.length y.rc (svs y.rs)
  scs : XOwns w B 66 1 y.SA st.rounds.length y.sc (svs y.ss)
  ird : ∀ (k : Nat) (s : Sl) (l : List D), y.rs[k]? = some s → st.rounds[k]? = some l → XOwns w B 33 2 s.A s.n s.c (dcells l)
  isc : ∀ (k : Nat) (s : Sl) (l : List Int), y.ss[k]? = some s → st.scores[k]? = some l → XOwns w B 34 1 s.A s.n s.c (ics l)
  ok : st.WF
section
variable {w w' : World} {B p : Nat} {st : TS} {y : MC}
theorem Mn.below (h : Mn w B p st y) (hb : Below w.heap.size w w') : Mn w' B p st y :=
  ⟨h.blk.call hb, h.base, h.rds.below hb, h.scs.below hb, fun k s l h1 h2 => (h.ird k s l h1 h2).below hb, fun k s l h1 h2 => (h.isc k s l h1 h2).below hb, h.ok⟩
/-- Which blocks the model may turn. -/
def MutM (p : Nat) (y : MC) (i : Nat) : Prop := i = p ∨ blkOf y.RA = some i ∨ blkOf y.SA = some i
def FootM (p : Nat) (y : MC) (i : Nat) : Prop := MutM p y i ∨ (∃ (k : Nat) (s : Sl), y.rs[k]? = some s ∧ blkOf s.A = some i) ∨ ∃ (k : Nat) (s : Sl), y.ss[k]? = some s ∧ blkOf s.A = some i
theorem Mn.rs_len (h : Mn w B p st y) : y.rs.length = st.rounds.length := by have := h.rds.len; simpa [svs] using this
theorem Mn.ss_len (h : Mn w B p st y) : y.ss.length = st.rounds.length := by have := h.scs.len; simpa [svs] using this
theorem Mn.onlyF {F : Nat → Prop} (h : Mn w B p st y) (ho : OnlyF F w w') (hF : ∀ i, FootM p y i → ¬ F i) : Mn w' B p st y :=
  ⟨h.blk.onlyF ho (hF _ (.inl (.inl rfl))), h.base, h.rds.onlyF ho (fun i hi => hF i (.inl (.inr (.inl hi)))), h.scs.onlyF ho (fun i hi => hF i (.inl (.inr (.inr hi)))),
    fun k s l h1 h2 => (h.ird k s l h1 h2).onlyF ho (fun i hi => hF i (.inr (.inl ⟨k, s, h1, hi⟩))), fun k s l h1 h2 => (h.isc k s l h1 h2).onlyF ho (fun i hi => hF i (.inr (.inr ⟨k, s, h1, hi⟩))), h.ok⟩
theorem Mn.foot (h : Mn w B p st y) : ∀ i, FootM p y i → B ≤ i ∧ i < w.heap.size := by
  rintro i ((rfl | hi | hi) | ⟨k, s, hk, hi⟩ | ⟨k, s, hk, hi⟩)
  · exact ⟨h.base, h.blk.lt⟩
  · exact h.rds.lt i hi
  · exact h.scs.lt i hi
  · have hl : k < st.rounds.length := by rw [← h.rs_len]; exact (List.getElem?_eq_some_iff.1 hk).1
    exact (h.ird k s _ hk (List.getElem?_eq_getElem hl)).lt i hi
  · have hl : k < st.scores.length := by rw [h.ok.len, ← h.ss_len]; exact (List.getElem?_eq_some_iff.1 hk).1
    exact (h.isc k s _ hk (List.getElem?_eq_getElem hl)).lt i hi
end
theorem metL_get {l : List D} {j : Nat} {a b : Int} (hj : j < l.length) (h : metD (dth l j) a b = true) : metL l a b = true := by
  unfold metL
  rw [List.any_eq_true]
  exact ⟨dth l j, List.mem_of_getElem? (dth_get hj), h⟩
theorem metL_none {l : List D} {a b : Int} (h : ∀ j, j < l.length → metD (dth l j) a b = false) : metL l a b = false := by
  unfold metL
  rw [List.any_eq_false]
  intro d hd
  obtain ⟨j, hj, he⟩ := List.getElem_of_mem hd
  have h1 := dth_get hj
  rw [List.getElem?_eq_getElem hj] at h1
  injection h1 with h1
  have := h j hj
  rw [← h1, he] at this
  simp [this]
theorem metS_get {rs : List (List D)} {k : Nat} {l : List D} {a b : Int} (hl : rs[k]? = some l) (h : metL l a b = true) : metS rs a b = true := by
  unfold metS
  rw [List.any_eq_true]
  exact ⟨l, List.mem_of_getElem? hl, h⟩
theorem metS_none {rs : List (List D)} {a b : Int} (h : ∀ k, k < rs.length → metL (rs.getD k []) a b = false) : metS rs a b = false := by
  unfold metS
  rw [List.any_eq_false]
  intro l hl
  obtain ⟨k, hk, he⟩ := List.getElem_of_mem hl
  have := h k hk
  rw [List.getD_eq_getElem?_getD, List.getElem?_eq_getElem hk] at this
  simp only [Option.getD_some] at this
  rw [he] at this
  simp [this]

set_option maxRecDepth 100000 in
set_option maxHeartbeats 1600000 in
theorem met_any (B p : Nat) (st : TS) (y : MC) (a b : Int) (w : World) (h : Mn w B p st y) : Calls Try.prog 43 #[.pointer (some ⟨p, 0, none⟩), .int .i64 a, .int .i64 b] w fun e w' => e = .returned (.bool (metS st.rounds a b)) ∧ Below w.heap.size w w' := by
  obtain ⟨RA, rc, rs, SA, sq, sts⟩ := y
  have HT : Hid (∀ W, Below w.heap.size w W → Mn W B p st ⟨RA, rc, rs, SA, sq, sts⟩) := Lib.hid fun W hb => h.below hb
  have HOK := Lib.hid h.ok
  have HRL : Hid (rs.length = st.rounds.length) := Lib.hid h.rs_len
  have hcnt := h.ok.cnt
  have hn := h.ok.n0
  clear h
  go_enter Try.func43, Try.ntmps43
  go_wp2
  go_loopw [7] (fun i W => ∃ k : Nat, k ≤ st.rounds.length ∧ i = .int .i64 k ∧ Hid (∀ q, q < k → metL (st.rounds.getD q []) a b = false) ∧ Below w.heap.size w W) (fun i _ => st.rounds.length - (intOf i).toNat)
  case atStart => exact ⟨0, Nat.zero_le _, rfl, Lib.hid (fun q h => absurd h (by omega)), Below.refl _ _⟩
  case round =>
    obtain ⟨k, hk, rfl, HE, hB⟩ := hrel
    generalize wr = wz at *
    have hz := hB.size
    have x1 : wz.cell? ⟨p, 1, none⟩ = some (.slice RA st.rounds.length rc) := ((HT.out _ hB).blk.at_ 1).trans rfl
    by_cases hlt : k < st.rounds.length
    · have hlt' : (k : Int) < st.rounds.length := by omega
      obtain ⟨l, hl⟩ : ∃ l, st.rounds[k]? = some l := ⟨_, List.getElem?_eq_getElem hlt⟩
      obtain ⟨s, hs⟩ : ∃ s, rs[k]? = some s := ⟨_, List.getElem?_eq_getElem (by rw [HRL.out]; exact hlt)⟩
      obtain ⟨g, hg, _, hglt, hc, _⟩ := (HT.out _ hB).rds.cell (j := k) (u := s.v) (by simp only [svs, List.getElem?_map]; rw [hs]; rfl)
      have HI : Hid (∀ W, Below w.heap.size w W → XOwns W B 33 2 s.A s.n s.c (dcells l)) := Lib.hid fun W hb => (HT.out _ hb).ird k s l hs hl
      have hsn : s.n = l.length := by have := (HI.out _ hB).len; rw [dcells_len] at this; omega
      have hrl := round_len (HOK.out.rnd l (List.mem_of_getElem? hl))
      have HL := Lib.hid hl
      have HS := Lib.hid hs
      obtain ⟨sA, sn, sc⟩ := s
      simp only [Sl.v] at hc hsn HI HS
      dsimp only at hg
      subst hsn hg
      clear hl hs
      go_wp2
      go_loopw [8] (fun i W => ∃ j : Nat, j ≤ l.length ∧ i = .int .i64 j ∧ Hid (∀ q, q < j → metD (dth l q) a b = false) ∧ Below w.heap.size w W) (fun i _ => l.length - (intOf i).toNat)
      case atStart => exact ⟨0, Nat.zero_le _, rfl, Lib.hid (fun q h => absurd h (by omega)), hB⟩
      case round =>
        obtain ⟨j, hj, rfl, HJ, hB2⟩ := hrel
        have hz2 := hB2.size
        have y1 : wr.cell? ⟨p, 1, none⟩ = some (.slice (some ⟨g, 0, none⟩) st.rounds.length rc) := ((HT.out _ hB2).blk.at_ 1).trans rfl
        have yc : wr.cell? ⟨g, k, none⟩ = some (.slice sA l.length sc) := XOwns.cellAt (HT.out _ hB2).rds (j := k) (u := Sl.v ⟨sA, l.length, sc⟩) (by simp only [svs, List.getElem?_map]; rw [HS.out]; rfl)
        clear x1 hc
        by_cases hlj : j < l.length
        · have hlj' : (j : Int) < l.length := by omega
          obtain ⟨ad, hsA, had, c0, c1⟩ := duel_at (HI.out _ hB2).reads hlj
          subst hsA
          have HGD := Lib.hid (metL_get (l := l) (j := j) (a := a) (b := b) hlj)
          have HGL := Lib.hid (metS_get (a := a) (b := b) HL.out)
          have HJJ : Hid (metD (dth l j) a b = false → ∀ q, q < j + 1 → metD (dth l q) a b = false) := Lib.hid (fun hd q hq => by
            rcases Nat.lt_or_ge q j with h | h
            · exact HJ.out q h
            · obtain rfl : q = j := by omega
              exact hd)
          generalize dth l j = d at *
          obtain ⟨da, db⟩ := d
          simp only at c0 c1
          by_cases hh : a = b
          · have P1 : Hid (a = b) := Lib.hid hh
            have e1 : (a == b) = true := by rw [beq_iff_eq]; exact hh
            clear hh
            by_cases hh : da = a
            · have P2 : Hid (da = a) := Lib.hid hh
              have e2 : (da == a) = true := by rw [beq_iff_eq]; exact hh
              clear hh
              by_cases hh : db = (-1)
              · have P3 : Hid (db = (-1)) := Lib.hid hh
                have e3 : (db == (-1)) = true := by rw [beq_iff_eq]; exact hh
                clear hh
                go_wp2
                go_ret
                exact ⟨by rw [HGL.out (HGD.out (decide_eq_true (by dsimp only; have q1 := P1.out; have q2 := P2.out; have q3 := P3.out; omega)))]; rfl, by (focus (repeat' (first | (with_reducible exact Below.refl _ _) | (with_reducible assumption) | (with_reducible refine Below.alloc ?_ ?_ _) | (with_reducible refine below_drewN ?_ _) | (with_reducible refine Below.drew ?_) | (with_reducible refine Below.setCell ?_ ?_ _) | omega | (simp; done) | (simp; omega))))⟩
              · have P3 : Hid (db ≠ (-1)) := Lib.hid hh
                have e3 : (db == (-1)) = false := by rw [beq_eq_false_iff_ne]; exact hh
                clear hh
                by_cases hh : db = b
                · have P4 : Hid (db = b) := Lib.hid hh
                  have e4 : (db == b) = true := by rw [beq_iff_eq]; exact hh
                  clear hh
                  go_wp2
                  go_ret
                  exact ⟨by rw [HGL.out (HGD.out (decide_eq_true (by dsimp only; have q1 := P1.out; have q2 := P2.out; have q3 := P3.out; have q4 := P4.out; omega)))]; rfl, by (focus (repeat' (first | (with_reducible exact Below.refl _ _) | (with_reducible assumption) | (with_reducible refine Below.alloc ?_ ?_ _) | (with_reducible refine below_drewN ?_ _) | (with_reducible refine Below.drew ?_) | (with_reducible refine Below.setCell ?_ ?_ _) | omega | (simp; done) | (simp; omega))))⟩
                · have P4 : Hid (db ≠ b) := Lib.hid hh
                  have e4 : (db == b) = false := by rw [beq_eq_false_iff_ne]; exact hh
                  clear hh
                  by_cases hh : da = b
                  · have P5 : Hid (da = b) := Lib.hid hh
                    have e5 : (da == b) = true := by rw [beq_iff_eq]; exact hh
                    clear hh
                    by_cases hh : db = a
                    · have P6 : Hid (db = a) := Lib.hid hh
                      have e6 : (db == a) = true := by rw [beq_iff_eq]; exact hh
                      clear hh
                      go_wp2
                      go_ret
                      exact ⟨by rw [HGL.out (HGD.out (decide_eq_true (by dsimp only; have q1 := P1.out; have q2 := P2.out; have q3 := P3.out; have q4 := P4.out; have q5 := P5.out; have q6 := P6.out; omega)))]; rfl, by (focus (repeat' (first | (with_reducible exact Below.refl _ _) | (with_reducible assumption) | (with_reducible refine Below.alloc ?_ ?_ _) | (with_reducible refine below_drewN ?_ _) | (with_reducible refine Below.drew ?_) | (with_reducible refine Below.setCell ?_ ?_ _) | omega | (simp; done) | (simp; omega))))⟩
                    · have P6 : Hid (db ≠ a) := Lib.hid hh
                      have e6 : (db == a) = false := by rw [beq_eq_false_iff_ne]; exact hh
                      clear hh
                      go_wp2
                      go_roundw
                      case rel => exact ⟨j + 1, by omega, by go_num, Lib.hid (HJJ.out (decide_eq_false (by dsimp only; have q1 := P1.out; have q2 := P2.out; have q3 := P3.out; have q4 := P4.out; have q5 := P5.out; have q6 := P6.out; omega))), by (focus (repeat' (first | (with_reducible exact Below.refl _ _) | (with_reducible assumption) | (with_reducible refine Below.alloc ?_ ?_ _) | (with_reducible refine below_drewN ?_ _) | (with_reducible refine Below.drew ?_) | (with_reducible refine Below.setCell ?_ ?_ _) | omega | (simp; done) | (simp; omega))))⟩
                      case measure => simp [intOf]; omega
                  · have P5 : Hid (da ≠ b) := Lib.hid hh
                    have e5 : (da == b) = false := by rw [beq_eq_false_iff_ne]; exact hh
                    clear hh
                    go_wp2
                    go_roundw
                    case rel => exact ⟨j + 1, by omega, by go_num, Lib.hid (HJJ.out (decide_eq_false (by dsimp only; have q1 := P1.out; have q2 := P2.out; have q3 := P3.out; have q4 := P4.out; have q5 := P5.out; omega))), by (focus (repeat' (first | (with_reducible exact Below.refl _ _) | (with_reducible assumption) | (with_reducible refine Below.alloc ?_ ?_ _) | (with_reducible refine below_drewN ?_ _) | (with_reducible refine Below.drew ?_) | (with_reducible refine Below.setCell ?_ ?_ _) | omega | (simp; done) | (simp; omega))))⟩
                    case measure => simp [intOf]; omega
            · have P2 : Hid (da ≠ a) := Lib.hid hh
              have e2 : (da == a) = false := by rw [beq_eq_false_iff_ne]; exact hh
              clear hh
              by_cases hh : da = b
              · have P5 : Hid (da = b) := Lib.hid hh
                have e5 : (da == b) = true := by rw [beq_iff_eq]; exact hh
                clear hh
                by_cases hh : db = a
                · have P6 : Hid (db = a) := Lib.hid hh
                  have e6 : (db == a) = true := by rw [beq_iff_eq]; exact hh
                  clear hh
                  go_wp2
                  go_ret
                  exact ⟨by rw [HGL.out (HGD.out (decide_eq_true (by dsimp only; have q1 := P1.out; have q2 := P2.out; have q5 := P5.out; have q6 := P6.out; omega)))]; rfl, by (focus (repeat' (first | (with_reducible exact Below.refl _ _) | (with_reducible assumption) | (with_reducible refine Below.alloc ?_ ?_ _) | (with_reducible refine below_drewN ?_ _) | (with_reducible refine Below.drew ?_) | (with_reducible refine Below.setCell ?_ ?_ _) | omega | (simp; done) | (simp; omega))))⟩
                · have P6 : Hid (db ≠ a) := Lib.hid hh
                  have e6 : (db == a) = false := by rw [beq_eq_false_iff_ne]; exact hh
                  clear hh
                  go_wp2
                  go_roundw
                  case rel => exact ⟨j + 1, by omega, by go_num, Lib.hid (HJJ.out (decide_eq_false (by dsimp only; have q1 := P1.out; have q2 := P2.out; have q5 := P5.out; have q6 := P6.out; omega))), by (focus (repeat' (first | (with_reducible exact Below.refl _ _) | (with_reducible assumption) | (with_reducible refine Below.alloc ?_ ?_ _) | (with_reducible refine below_drewN ?_ _) | (with_reducible refine Below.drew ?_) | (with_reducible refine Below.setCell ?_ ?_ _) | omega | (simp; done) | (simp; omega))))⟩
                  case measure => simp [intOf]; omega
              · have P5 : Hid (da ≠ b) := Lib.hid hh
                have e5 : (da == b) = false := by rw [beq_eq_false_iff_ne]; exact hh
                clear hh
                go_wp2
                go_roundw
                case rel => exact ⟨j + 1, by omega, by go_num, Lib.hid (HJJ.out (decide_eq_false (by dsimp only; have q1 := P1.out; have q2 := P2.out; have q5 := P5.out; omega))), by (focus (repeat' (first | (with_reducible exact Below.refl _ _) | (with_reducible assumption) | (with_reducible refine Below.alloc ?_ ?_ _) | (with_reducible refine below_drewN ?_ _) | (with_reducible refine Below.drew ?_) | (with_reducible refine Below.setCell ?_ ?_ _) | omega | (simp; done) | (simp; omega))))⟩
                case measure => simp [intOf]; omega
          · have P1 : Hid (a ≠ b) := Lib.hid hh
            have e1 : (a == b) = false := by rw [beq_eq_false_iff_ne]; exact hh
            clear hh
            by_cases hh : da = a
            · have P2 : Hid (da = a) := Lib.hid hh
              have e2 : (da == a) = true := by rw [beq_iff_eq]; exact hh
              clear hh
              by_cases hh : db = b
              · have P4 : Hid (db = b) := Lib.hid hh
                have e4 : (db == b) = true := by rw [beq_iff_eq]; exact hh
                clear hh
                go_wp2
                go_ret
                exact ⟨by rw [HGL.out (HGD.out (decide_eq_true (by dsimp only; have q1 := P1.out; have q2 := P2.out; have q4 := P4.out; omega)))]; rfl, by (focus (repeat' (first | (with_reducible exact Below.refl _ _) | (with_reducible assumption) | (with_reducible refine Below.alloc ?_ ?_ _) | (with_reducible refine below_drewN ?_ _) | (with_reducible refine Below.drew ?_) | (with_reducible refine Below.setCell ?_ ?_ _) | omega | (simp; done) | (simp; omega))))⟩
              · have P4 : Hid (db ≠ b) := Lib.hid hh
                have e4 : (db == b) = false := by rw [beq_eq_false_iff_ne]; exact hh
                clear hh
                by_cases hh : da = b
                · have P5 : Hid (da = b) := Lib.hid hh
                  have e5 : (da == b) = true := by rw [beq_iff_eq]; exact hh
                  clear hh
                  by_cases hh : db = a
                  · have P6 : Hid (db = a) := Lib.hid hh
                    have e6 : (db == a) = true := by rw [beq_iff_eq]; exact hh
                    clear hh
                    go_wp2
                    go_ret
                    exact ⟨by rw [HGL.out (HGD.out (decide_eq_true (by dsimp only; have q1 := P1.out; have q2 := P2.out; have q4 := P4.out; have q5 := P5.out; have q6 := P6.out; omega)))]; rfl, by (focus (repeat' (first | (with_reducible exact Below.refl _ _) | (with_reducible assumption) | (with_reducible refine Below.alloc ?_ ?_ _) | (with_reducible refine below_drewN ?_ _) | (with_reducible refine Below.drew ?_) | (with_reducible refine Below.setCell ?_ ?_ _) | omega | (simp; done) | (simp; omega))))⟩
                  · have P6 : Hid (db ≠ a) := Lib.hid hh
                    have e6 : (db == a) = false := by rw [beq_eq_false_iff_ne]; exact hh
                    clear hh
                    go_wp2
                    go_roundw
                    case rel => exact ⟨j + 1, by omega, by go_num, Lib.hid (HJJ.out (decide_eq_false (by dsimp only; have q1 := P1.out; have q2 := P2.out; have q4 := P4.out; have q5 := P5.out; have q6 := P6.out; omega))), by (focus (repeat' (first | (with_reducible exact Below.refl _ _) | (with_reducible assumption) | (with_reducible refine Below.alloc ?_ ?_ _) | (with_reducible refine below_drewN ?_ _) | (with_reducible refine Below.drew ?_) | (with_reducible refine Below.setCell ?_ ?_ _) | omega | (simp; done) | (simp; omega))))⟩
                    case measure => simp [intOf]; omega
                · have P5 : Hid (da ≠ b) := Lib.hid hh
                  have e5 : (da == b) = false := by rw [beq_eq_false_iff_ne]; exact hh
                  clear hh
                  go_wp2
                  go_roundw
                  case rel => exact ⟨j + 1, by omega, by go_num, Lib.hid (HJJ.out (decide_eq_false (by dsimp only; have q1 := P1.out; have q2 := P2.out; have q4 := P4.out; have q5 := P5.out; omega))), by (focus (repeat' (first | (with_reducible exact Below.refl _ _) | (with_reducible assumption) | (with_reducible refine Below.alloc ?_ ?_ _) | (with_reducible refine below_drewN ?_ _) | (with_reducible refine Below.drew ?_) | (with_reducible refine Below.setCell ?_ ?_ _) | omega | (simp; done) | (simp; omega))))⟩
                  case measure => simp [intOf]; omega
            · have P2 : Hid (da ≠ a) := Lib.hid hh
              have e2 : (da == a) = false := by rw [beq_eq_false_iff_ne]; exact hh
              clear hh
              by_cases hh : da = b
              · have P5 : Hid (da = b) := Lib.hid hh
                have e5 : (da == b) = true := by rw [beq_iff_eq]; exact hh
                clear hh
                by_cases hh : db = a
                · have P6 : Hid (db = a) := Lib.hid hh
                  have e6 : (db == a) = true := by rw [beq_iff_eq]; exact hh
                  clear hh
                  go_wp2
                  go_ret
                  exact ⟨by rw [HGL.out (HGD.out (decide_eq_true (by dsimp only; have q1 := P1.out; have q2 := P2.out; have q5 := P5.out; have q6 := P6.out; omega)))]; rfl, by (focus (repeat' (first | (with_reducible exact Below.refl _ _) | (with_reducible assumption) | (with_reducible refine Below.alloc ?_ ?_ _) | (with_reducible refine below_drewN ?_ _) | (with_reducible refine Below.drew ?_) | (with_reducible refine Below.setCell ?_ ?_ _) | omega | (simp; done) | (simp; omega))))⟩
                · have P6 : Hid (db ≠ a) := Lib.hid hh
                  have e6 : (db == a) = false := by rw [beq_eq_false_iff_ne]; exact hh
                  clear hh
                  go_wp2
                  go_roundw
                  case rel => exact ⟨j + 1, by omega, by go_num, Lib.hid (HJJ.out (decide_eq_false (by dsimp only; have q1 := P1.out; have q2 := P2.out; have q5 := P5.out; have q6 := P6.out; omega))), by (focus (repeat' (first | (with_reducible exact Below.refl _ _) | (with_reducible assumption) | (with_reducible refine Below.alloc ?_ ?_ _) | (with_reducible refine below_drewN ?_ _) | (with_reducible refine Below.drew ?_) | (with_reducible refine Below.setCell ?_ ?_ _) | omega | (simp; done) | (simp; omega))))⟩
                  case measure => simp [intOf]; omega
              · have P5 : Hid (da ≠ b) := Lib.hid hh
                have e5 : (da == b) = false := by rw [beq_eq_false_iff_ne]; exact hh
                clear hh
                go_wp2
                go_roundw
                case rel => exact ⟨j + 1, by omega, by go_num, Lib.hid (HJJ.out (decide_eq_false (by dsimp only; have q1 := P1.out; have q2 := P2.out; have q5 := P5.out; omega))), by (focus (repeat' (first | (with_reducible exact Below.refl _ _) | (with_reducible assumption) | (with_reducible refine Below.alloc ?_ ?_ _) | (with_reducible refine below_drewN ?_ _) | (with_reducible refine Below.drew ?_) | (with_reducible refine Below.setCell ?_ ?_ _) | omega | (simp; done) | (simp; omega))))⟩
                case measure => simp [intOf]; omega
        · obtain rfl : j = l.length := by omega
          go_wp2
          go_roundw
          case rel => exact ⟨k + 1, by omega, by go_num, Lib.hid (fun q hq => by
            rcases Nat.lt_or_ge q k with h | h
            · exact HE.out q h
            · obtain rfl : q = k := by omega
              rw [List.getD_eq_getElem?_getD, HL.out]
              exact metL_none HJ.out), hB2⟩
          case measure => simp [intOf]; omega
    · obtain rfl : k = st.rounds.length := by omega
      have HF := Lib.hid (metS_none (rs := st.rounds) (a := a) (b := b) HE.out)
      go_wp2
      go_ret
      exact ⟨by rw [HF.out]; rfl, hB⟩
end Go.Proofs.Ytngcmihaheiigaa
