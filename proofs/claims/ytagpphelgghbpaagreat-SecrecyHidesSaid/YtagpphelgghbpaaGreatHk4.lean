/-
  Texts: BMem, Sm, Fin.
-/
import Derived.Test.YtagpphelgghbpaaGreatHk1
import Derived.Test.YtagpphelgghbpaaGreatHk3
import Derived.IntWalk
/-
  Boards in memory.
-/
set_option linter.unusedSimpArgs false
set_option linter.unusedVariables false
namespace Go.Proofs.YtagpphelgghbpaaGreat
open Go.RowKit

def ics (l : List Int) : List Value := l.map (Value.int .i64)
theorem ics_one (l : List Int) : ∀ u ∈ ics l, u.oneCell' = true := by
  intro u hu
  obtain ⟨x, _, rfl⟩ := List.mem_map.1 hu
  rfl
def ith (xs : List Int) (k : Nat) : Int := xs.getD k 0
theorem ith_get {xs : List Int} {k : Nat} (h : k < xs.length) : xs[k]? = some (ith xs k) := by simp [ith, List.getD, List.getElem?_eq_getElem h]
theorem ith_mem {xs : List Int} {k : Nat} (h : k < xs.length) : ith xs k ∈ xs := List.mem_of_getElem? (ith_get h)
theorem ilen {w : World} {A : Option Addr} {n : Nat} {xs : List Int} (h : Reads w 1 A n (ics xs)) : xs.length = n := by have := h.1; simpa [ics] using this
theorem int_at {w : World} {A : Option Addr} {n : Nat} {xs : List Int} (h : Reads w 1 A n (ics xs)) {k : Nat} (hk : k < n) : ∃ ad, A = some ad ∧ ad.block < w.heap.size ∧ w.cell? (ad.add k) = some (.int .i64 (ith xs k)) := by
  obtain ⟨ad, e, hb, hc⟩ := h.2 (by omega)
  refine ⟨ad, e, hb, hc k _ ?_⟩
  rw [ics, List.getElem?_map, ith_get (by have := ilen h; omega)]
  rfl
theorem take_snoc {α : Type} [Inhabited α] {l : List α} {k : Nat} {x : α} (h : l[k]? = some x) : l.take (k + 1) = l.take k ++ [x] := by
  have hk : k < l.length := by
    rcases Nat.lt_or_ge k l.length with h' | h'
    · exact h'
    · rw [List.getElem?_eq_none h'] at h; cases h
  rw [List.take_succ_eq_append_getElem hk]
  rw [List.getElem?_eq_getElem hk] at h
  rw [Option.some.inj h]

/-! ### Cells -/
def Ob.cells (o : Ob) : List Value := [.int .i64 o.id, .int .i64 o.card, .int .i64 o.own, .int .i64 o.pow, .int .i64 o.tou, .int .i64 o.dam, .int .i64 o.cnt, .int .i64 o.pp, .int .i64 o.pt, .bool o.tap, .bool o.sick, .bool o.doom]
def ocs (l : List Ob) : List Value := l.flatMap Ob.cells
def Tg.cells (t : Tg) : List Value := [.int .i64 t.id, .int .i64 t.pl]
def tcs (l : List Tg) : List Value := l.flatMap Tg.cells
def Bk.cells (x : Bk) : List Value := [.int .i64 x.b, .int .i64 x.a]
def bcs (l : List Bk) : List Value := l.flatMap Bk.cells
/-- A slice's address and capacity. -/
structure Sl where
  A : Option Addr
  c : Nat
deriving Inhabited
def Sl.v (s : Sl) (n : Nat) : Value := .slice s.A n s.c
def It.cells (x : It) (t : Sl) : List Value := [.int .i64 x.pl, .int .i64 x.id, .int .i64 x.card, .int .i64 x.trg, t.v x.tgs.length]
def itcs (l : List (It × Sl)) : List Value := l.flatMap fun p => p.1.cells p.2
structure SeM where
  L : Sl
  H : Sl
  F : Sl
  G : Sl
deriving Inhabited
structure BdM where
  O : Sl
  m0 : SeM
  m1 : SeM
  S : Sl
  Q : Sl
  ST : List Sl
  QT : List Sl
  AT : Sl
  BK : Sl
deriving Inhabited
def Se.cells (s : Se) (m : SeM) : List Value := [.int .i64 s.life, .int .i64 s.p0, .int .i64 s.p1, .int .i64 s.p2, .int .i64 s.p3, m.L.v s.lib.length, m.H.v s.hand.length, m.F.v s.fld.length, m.G.v s.grv.length, .bool s.emp, .bool s.ply, .bool s.kpt, .int .i64 s.mul, .int .i64 s.act]
def Bd.cells (b : Bd) (m : BdM) : List Value := m.O.v b.objs.length :: (b.s0.cells m.m0 ++ b.s1.cells m.m1 ++ [m.S.v b.stk.length, m.Q.v b.que.length, m.AT.v b.att.length, m.BK.v b.blk.length, .int .i64 b.turn, .int .i64 b.actv, .int .i64 b.phs, .int .i64 b.hold, .int .i64 b.pas])

/-! ### Rows at a place -/
section
variable {α : Type} {enc : α → List Value} {k : Nat}
theorem flatMap_len (hk : ∀ x, (enc x).length = k) : ∀ l : List α, (l.flatMap enc).length = l.length * k
  | [] => by simp
  | x :: l => by rw [List.flatMap_cons, List.length_append, hk, flatMap_len hk l, List.length_cons, Nat.add_mul]; omega
theorem flatMap_at (hk : ∀ x, (enc x).length = k) : ∀ {l : List α} {i : Nat} {x : α}, l[i]? = some x → ∀ {j : Nat}, j < k → (l.flatMap enc)[i * k + j]? = (enc x)[j]?
  | [], i, x, h, _, _ => by simp at h
  | y :: l, 0, x, h, j, hj => by
    simp at h
    subst h
    rw [List.flatMap_cons, List.getElem?_append_left (by rw [hk]; omega)]
    simp
  | y :: l, i + 1, x, h, j, hj => by
    rw [List.flatMap_cons, List.getElem?_append_right (by rw [hk, Nat.add_mul]; omega), hk, show (i + 1) * k + j - k = i * k + j by rw [Nat.add_mul]; omega]
    exact flatMap_at hk (by simpa using h) hj
theorem rlen {w : World} {A : Option Addr} {n : Nat} {l : List α} (hk : ∀ x, (enc x).length = k) (hk0 : 0 < k) (h : Reads w k A n (l.flatMap enc)) : l.length = n := by
  have := h.1
  rw [flatMap_len hk] at this
  exact Nat.eq_of_mul_eq_mul_right hk0 this
/-- The cells of a row. -/
theorem row_cell {w : World} {A : Option Addr} {n : Nat} {l : List α} (hk : ∀ x, (enc x).length = k) (h : Reads w k A n (l.flatMap enc)) {i : Nat} {x : α} (hi : l[i]? = some x) (hin : i < n) : ∃ ad, A = some ad ∧ ad.block < w.heap.size ∧ ∀ j u, j < k → (enc x)[j]? = some u → w.cell? (ad.add (i * k + j)) = some u := by
  obtain ⟨ad, e, hb, hc⟩ := h.2 (by omega)
  exact ⟨ad, e, hb, fun j u hj hu => hc _ u (by rw [flatMap_at hk hi hj]; exact hu)⟩
end
theorem obj_at {w : World} {A : Option Addr} {n : Nat} {l : List Ob} (h : Reads w 12 A n (ocs l)) {i : Nat} {o : Ob} (hi : l[i]? = some o) (hin : i < n) : ∃ ad, A = some ad ∧ ad.block < w.heap.size ∧
    w.cell? (ad.add (i * 12)) = some (.int .i64 o.id) ∧ w.cell? ⟨(ad.add (i * 12)).block, (ad.add (i * 12)).off + 1, none⟩ = some (.int .i64 o.card) ∧ w.cell? ⟨(ad.add (i * 12)).block, (ad.add (i * 12)).off + 2, none⟩ = some (.int .i64 o.own) ∧
    w.cell? ⟨(ad.add (i * 12)).block, (ad.add (i * 12)).off + 3, none⟩ = some (.int .i64 o.pow) ∧ w.cell? ⟨(ad.add (i * 12)).block, (ad.add (i * 12)).off + 4, none⟩ = some (.int .i64 o.tou) ∧ w.cell? ⟨(ad.add (i * 12)).block, (ad.add (i * 12)).off + 5, none⟩ = some (.int .i64 o.dam) ∧
    w.cell? ⟨(ad.add (i * 12)).block, (ad.add (i * 12)).off + 6, none⟩ = some (.int .i64 o.cnt) ∧ w.cell? ⟨(ad.add (i * 12)).block, (ad.add (i * 12)).off + 7, none⟩ = some (.int .i64 o.pp) ∧ w.cell? ⟨(ad.add (i * 12)).block, (ad.add (i * 12)).off + 8, none⟩ = some (.int .i64 o.pt) ∧
    w.cell? ⟨(ad.add (i * 12)).block, (ad.add (i * 12)).off + 9, none⟩ = some (.bool o.tap) ∧ w.cell? ⟨(ad.add (i * 12)).block, (ad.add (i * 12)).off + 10, none⟩ = some (.bool o.sick) ∧ w.cell? ⟨(ad.add (i * 12)).block, (ad.add (i * 12)).off + 11, none⟩ = some (.bool o.doom) := by
  obtain ⟨ad, e, hb, hc⟩ := row_cell (enc := Ob.cells) (fun _ => rfl) h hi hin
  exact ⟨ad, e, hb, hc 0 _ (by decide) rfl, part_at 0 (hc 1 _ (by decide) rfl), part_at 1 (hc 2 _ (by decide) rfl), part_at 2 (hc 3 _ (by decide) rfl), part_at 3 (hc 4 _ (by decide) rfl), part_at 4 (hc 5 _ (by decide) rfl), part_at 5 (hc 6 _ (by decide) rfl), part_at 6 (hc 7 _ (by decide) rfl), part_at 7 (hc 8 _ (by decide) rfl), part_at 8 (hc 9 _ (by decide) rfl), part_at 9 (hc 10 _ (by decide) rfl), part_at 10 (hc 11 _ (by decide) rfl)⟩
theorem tgt_at {w : World} {A : Option Addr} {n : Nat} {l : List Tg} (h : Reads w 2 A n (tcs l)) {i : Nat} {o : Tg} (hi : l[i]? = some o) (hin : i < n) : ∃ ad, A = some ad ∧ ad.block < w.heap.size ∧
    w.cell? (ad.add (i * 2)) = some (.int .i64 o.id) ∧ w.cell? ⟨(ad.add (i * 2)).block, (ad.add (i * 2)).off + 1, none⟩ = some (.int .i64 o.pl) := by
  obtain ⟨ad, e, hb, hc⟩ := row_cell (enc := Tg.cells) (fun _ => rfl) h hi hin
  exact ⟨ad, e, hb, hc 0 _ (by decide) rfl, part_at 0 (hc 1 _ (by decide) rfl)⟩
theorem blk_at {w : World} {A : Option Addr} {n : Nat} {l : List Bk} (h : Reads w 2 A n (bcs l)) {i : Nat} {o : Bk} (hi : l[i]? = some o) (hin : i < n) : ∃ ad, A = some ad ∧ ad.block < w.heap.size ∧
    w.cell? (ad.add (i * 2)) = some (.int .i64 o.b) ∧ w.cell? ⟨(ad.add (i * 2)).block, (ad.add (i * 2)).off + 1, none⟩ = some (.int .i64 o.a) := by
  obtain ⟨ad, e, hb, hc⟩ := row_cell (enc := Bk.cells) (fun _ => rfl) h hi hin
  exact ⟨ad, e, hb, hc 0 _ (by decide) rfl, part_at 0 (hc 1 _ (by decide) rfl)⟩
theorem item_at {w : World} {A : Option Addr} {n : Nat} {l : List (It × Sl)} (h : Reads w 5 A n (itcs l)) {i : Nat} {x : It} {t : Sl} (hi : l[i]? = some (x, t)) (hin : i < n) : ∃ ad, A = some ad ∧ ad.block < w.heap.size ∧
    w.cell? (ad.add (i * 5)) = some (.int .i64 x.pl) ∧ w.cell? ⟨(ad.add (i * 5)).block, (ad.add (i * 5)).off + 1, none⟩ = some (.int .i64 x.id) ∧ w.cell? ⟨(ad.add (i * 5)).block, (ad.add (i * 5)).off + 2, none⟩ = some (.int .i64 x.card) ∧
    w.cell? ⟨(ad.add (i * 5)).block, (ad.add (i * 5)).off + 3, none⟩ = some (.int .i64 x.trg) ∧ w.cell? ⟨(ad.add (i * 5)).block, (ad.add (i * 5)).off + 4, none⟩ = some (.slice t.A x.tgs.length t.c) := by
  obtain ⟨ad, e, hb, hc⟩ := row_cell (enc := fun p : It × Sl => p.1.cells p.2) (fun _ => rfl) h hi hin
  exact ⟨ad, e, hb, hc 0 _ (by decide) rfl, part_at 0 (hc 1 _ (by decide) rfl), part_at 1 (hc 2 _ (by decide) rfl), part_at 2 (hc 3 _ (by decide) rfl), part_at 3 (hc 4 _ (by decide) rfl)⟩

/-! ### A board that reads -/
def Sl.ok (s : Sl) (n : Nat) : Prop := n ≤ s.c ∧ (s.A = none → s.c = 0) ∧ s.c ≤ 9223372036854775807
structure IsR (w : World) (s : Sl) (l : List It) (ts : List Sl) : Prop where
  len : ts.length = l.length
  row : Reads w 5 s.A l.length (itcs (l.zip ts))
  ok : s.ok l.length
  tg : ∀ (i : Nat) (x : It) (t : Sl), l[i]? = some x → ts[i]? = some t → Reads w 2 t.A x.tgs.length (tcs x.tgs) ∧ t.ok x.tgs.length
structure LsR (w : World) (s : Sl) (l : List Int) : Prop where
  row : Reads w 1 s.A l.length (ics l)
  ok : s.ok l.length
  wf : ∀ x ∈ l, wfI x
structure SeR (w : World) (s : Se) (m : SeM) : Prop where
  L : LsR w m.L s.lib
  H : LsR w m.H s.hand
  F : LsR w m.F s.fld
  G : LsR w m.G s.grv
def wfO (o : Ob) : Prop := wfI o.id ∧ wfI o.card ∧ wfI o.own
def wfX (x : It) : Prop := wfI x.pl ∧ wfI x.id ∧ wfI x.card ∧ wfI x.trg
structure BdR (w : World) (b : Bd) (m : BdM) : Prop where
  O : Reads w 12 m.O.A b.objs.length (ocs b.objs)
  Oo : m.O.ok b.objs.length
  Ow : ∀ o ∈ b.objs, wfO o
  s0 : SeR w b.s0 m.m0
  s1 : SeR w b.s1 m.m1
  S : IsR w m.S b.stk m.ST
  Sw : ∀ x ∈ b.stk, wfX x
  Q : IsR w m.Q b.que m.QT
  Qw : ∀ x ∈ b.que, wfX x
  AT : LsR w m.AT b.att
  BK : Reads w 2 m.BK.A b.blk.length (bcs b.blk)
  Bo : m.BK.ok b.blk.length
  Bw : ∀ x ∈ b.blk, wfI x.a ∧ wfI x.b
section
variable {w w' : World}
theorem IsR.below {s : Sl} {l : List It} {ts : List Sl} (h : IsR w s l ts) (hb : Below w.heap.size w w') : IsR w' s l ts := ⟨h.len, h.row.below hb, h.ok, fun i x t h1 h2 => ⟨(h.tg i x t h1 h2).1.below hb, (h.tg i x t h1 h2).2⟩⟩
theorem LsR.below {s : Sl} {l : List Int} (h : LsR w s l) (hb : Below w.heap.size w w') : LsR w' s l := ⟨h.row.below hb, h.ok, h.wf⟩
theorem SeR.below {s : Se} {m : SeM} (h : SeR w s m) (hb : Below w.heap.size w w') : SeR w' s m := ⟨h.L.below hb, h.H.below hb, h.F.below hb, h.G.below hb⟩
theorem BdR.below {b : Bd} {m : BdM} (h : BdR w b m) (hb : Below w.heap.size w w') : BdR w' b m :=
  ⟨h.O.below hb, h.Oo, h.Ow, h.s0.below hb, h.s1.below hb, h.S.below hb, h.Sw, h.Q.below hb, h.Qw, h.AT.below hb, h.BK.below hb, h.Bo, h.Bw⟩
theorem IsR.at_ {s : Sl} {l : List It} {ts : List Sl} (h : IsR w s l ts) {i : Nat} {x : It} (hi : l[i]? = some x) : ∃ t, (l.zip ts)[i]? = some (x, t) ∧ ts[i]? = some t ∧ Reads w 2 t.A x.tgs.length (tcs x.tgs) ∧ t.ok x.tgs.length := by
  have hl : i < l.length := by
    rcases Nat.lt_or_ge i l.length with h' | h'
    · exact h'
    · rw [List.getElem?_eq_none h'] at hi; cases hi
  have ht : ts[i]? = some (ts[i]'(by rw [h.len]; exact hl)) := List.getElem?_eq_getElem _
  exact ⟨_, by rw [List.getElem?_zip_eq_some]; exact ⟨hi, ht⟩, ht, h.tg i x _ hi ht⟩
end
end Go.Proofs.YtagpphelgghbpaaGreat

/-
  The small questions: within, mana, aimed, fine, and whether a list has one that is not.
-/
set_option linter.unusedSimpArgs false
set_option linter.unusedVariables false
namespace Go.Proofs.YtagpphelgghbpaaGreat
open Go.RowKit

theorem within_any (n a b : Int) (w : World) : Calls Tryz.prog 42 #[.int .i64 n, .int .i64 a, .int .i64 b] w fun e w' => e = .returned (.bool (inR n a b)) ∧ w = w' := by
  unfold inR
  by_cases h0 : a ≤ n
  · have h1 : decide (a ≤ n) = true := decide_eq_true h0
    rw [h1, Bool.true_and]
    go_enter Tryz.func42, Tryz.ntmps42
    go_wp2
    go_ret
    exact ⟨rfl, rfl⟩
  · have h1 : decide (a ≤ n) = false := decide_eq_false h0
    have h2 : (a ≤ n) = False := eq_false h0
    rw [h1, Bool.false_and]
    go_enter Tryz.func42, Tryz.ntmps42
    go_wp2
    go_ret
    exact ⟨rfl, rfl⟩
/-- A target is valid. -/
theorem aimed_any (t : Tg) (w : World) : Calls Tryz.prog 80 #[.agg #[.int .i64 t.id, .int .i64 t.pl]] w fun e w' => e = .returned (.bool (tgOk t)) ∧ Below w.heap.size w w' := by
  obtain ⟨i, p⟩ := t
  have hal : ∀ cs, Below w.heap.size w (w.alloc (.cells cs 124)) := fun cs => (Below.refl _ _).alloc (Nat.le_refl _) _
  have HAL := Lib.hid hal
  clear hal
  unfold tgOk
  simp only
  cases h1 : inR i 0 500 with
  | false =>
    have H1 := Lib.hid h1
    clear h1
    go_enter Tryz.func80, Tryz.ntmps80
    go_wp2_with (go_at_call 42; refine (within_any _ _ _ _).mono ?_; rw [H1.out]; rintro e w1 ⟨rfl, rfl⟩)
    go_ret
    exact ⟨rfl, HAL.out _⟩
  | true =>
    have H1 := Lib.hid h1
    clear h1
    cases h2 : inR p 0 1 with
    | false =>
      have H2 := Lib.hid h2
      clear h2
      go_enter Tryz.func80, Tryz.ntmps80
      go_wp2_with (go_at_call 42; refine (within_any _ _ _ _).mono ?_; (first | rw [H1.out] | rw [H2.out]); rintro e w1 ⟨rfl, rfl⟩)
      go_ret
      exact ⟨rfl, HAL.out _⟩
    | true =>
      have H2 := Lib.hid h2
      clear h2
      by_cases h3 : i = 0
      · have h3' : (i == 0) = true := by rw [beq_iff_eq]; exact h3
        have HD : Hid (decide (i = 0) = true) := Lib.hid (decide_eq_true h3)
        clear h3
        go_enter Tryz.func80, Tryz.ntmps80
        go_wp2_with (go_at_call 42; refine (within_any _ _ _ _).mono ?_; (first | rw [H1.out] | rw [H2.out]); rintro e w1 ⟨rfl, rfl⟩)
        go_ret
        exact ⟨by rw [HD.out]; rfl, HAL.out _⟩
      · have h3' : (i == 0) = false := by rw [beq_eq_false_iff_ne]; exact h3
        have HD : Hid (decide (i = 0) = false) := Lib.hid (decide_eq_false h3)
        clear h3
        go_enter Tryz.func80, Tryz.ntmps80
        go_wp2_with (go_at_call 42; refine (within_any _ _ _ _).mono ?_; (first | rw [H1.out] | rw [H2.out]); rintro e w1 ⟨rfl, rfl⟩)
        go_ret
        exact ⟨by rw [HD.out]; rfl, HAL.out _⟩
theorem naimed_any (t : Tg) (w : World) : Calls Tryz.prog 79 #[.agg #[.int .i64 t.id, .int .i64 t.pl]] w fun e w' => e = .returned (.bool (!tgOk t)) ∧ Below w.heap.size w w' := by
  have hal : ∀ cs, Below w.heap.size w (w.alloc (.cells cs 124)) := fun cs => (Below.refl _ _).alloc (Nat.le_refl _) _
  have HAL := Lib.hid hal
  clear hal
  have HT := Lib.hid (fun W => aimed_any t W)
  generalize tgOk t = d at *
  go_enter Tryz.func79, Tryz.ntmps79
  go_wp2_with fail
  refine (HT.out _).mono ?_
  rintro e w1 ⟨rfl, hb1⟩
  go_wp2
  go_ret
  exact ⟨rfl, below_call (HAL.out _) hb1 (HAL.out _).size⟩
end Go.Proofs.YtagpphelgghbpaaGreat

/-
  fine: an item is valid; and whether a list has an item that is not.
-/
set_option linter.unusedSimpArgs false
set_option linter.unusedVariables false
namespace Go.Proofs.YtagpphelgghbpaaGreat
open Go.RowKit

theorem get_of {α : Type} {l : List α} {k : Nat} (h : k < l.length) : ∃ x, l[k]? = some x := ⟨_, List.getElem?_eq_getElem h⟩
/-- What IndexFunc hands back: a place, or none. -/
def IdxEnd (d : Bool) (w : World) (e : Ending) (w' : World) : Prop := ∃ i : Int, e = .returned (.int .i64 i) ∧ decide (0 ≤ i) = d ∧ Below w.heap.size w w'
theorem all_of {α : Type} {l : List α} {p : α → Bool} {n : Nat} (hn : l.length = n) (h : ∀ q x, q < n → l[q]? = some x → p x = true) : l.all p = true := by
  rw [List.all_eq_true]
  intro x hx
  obtain ⟨q, hq, he⟩ := List.getElem_of_mem hx
  exact h q x (by omega) (by rw [List.getElem?_eq_getElem hq, he])
theorem none_of {α : Type} {l : List α} {p : α → Bool} {q : Nat} {x : α} (h : l[q]? = some x) (hp : p x = false) : l.all p = false := by
  rw [List.all_eq_false]
  exact ⟨x, List.mem_of_getElem? h, by rw [hp]; decide⟩
set_option maxHeartbeats 800000 in
theorem idxT_any (A : Option Addr) (len c : Nat) (l : List Tg) (w : World) (hx : Reads w 2 A len (tcs l)) (hlen : len ≤ 9223372036854775807) :
    Calls Tryz.prog 110 #[.slice A len c, .func (.func 79) #[] #[]] w (IdxEnd (!l.all tgOk) w) := by
  have HX := Lib.hid hx
  have HL := Lib.hid (rlen (enc := Tg.cells) (fun _ => rfl) (by decide) hx)
  clear hx
  go_enter Tryz.func110, Tryz.ntmps110
  go_wp2
  go_loopw [8] (fun i W => ∃ k : Nat, k ≤ len ∧ i = .int .i64 k ∧ Hid (∀ q x, q < k → l[q]? = some x → tgOk x = true) ∧ Below w.heap.size w W) (fun i _ => len - (intOf i).toNat)
  case atStart => exact ⟨0, Nat.zero_le _, rfl, Lib.hid (fun q x h => absurd h (by omega)), Below.refl _ _⟩
  case round =>
    obtain ⟨k, hk, rfl, HE, hB⟩ := hrel
    have hz := hB.size
    by_cases hlt : k < len
    · obtain ⟨x, hx⟩ := get_of (l := l) (k := k) (by rw [HL.out]; exact hlt)
      obtain ⟨ad, rfl, -, c0, c1⟩ := tgt_at (HX.out.below hB) hx hlt
      have hlt' : (k : Int) < len := by omega
      have HG := Lib.hid hx
      clear hx
      obtain ⟨xi, xp⟩ := x
      simp only at c0 c1
      have HN := Lib.hid (fun W => naimed_any ⟨xi, xp⟩ W)
      go_wp2_with fail
      refine (HN.out _).mono ?_
      rintro e w1 ⟨rfl, hb1⟩
      cases hok : tgOk ⟨xi, xp⟩ with
      | true =>
        have HEE : Hid (∀ q x, q < k + 1 → l[q]? = some x → tgOk x = true) := Lib.hid (fun q x hq hg => by
          rcases Nat.lt_or_ge q k with h | h
          · exact HE.out q x h hg
          · obtain rfl : q = k := by omega
            rw [HG.out] at hg
            rw [← Option.some.inj hg]
            exact hok)
        clear hok
        go_wp2
        go_roundw
        case rel => exact ⟨k + 1, hlt, by go_num, HEE, below_call hB hb1 hz⟩
        case measure => simp [intOf]; omega
      | false =>
        have HA := Lib.hid (none_of HG.out hok)
        clear hok
        go_wp2
        go_ret
        exact ⟨k, rfl, by rw [HA.out]; simp, below_call hB hb1 hz⟩
    · obtain rfl : k = len := by omega
      have HA := Lib.hid (all_of HL.out HE.out)
      go_wp2
      go_ret
      exact ⟨-1, rfl, by rw [HA.out]; rfl, hB⟩
theorem anyT_any (A : Option Addr) (len c : Nat) (l : List Tg) (w : World) (hx : Reads w 2 A len (tcs l)) (hlen : len ≤ 9223372036854775807) :
    Calls Tryz.prog 78 #[.slice A len c, .func (.func 79) #[] #[]] w fun e w' => e = .returned (.bool (!l.all tgOk)) ∧ Below w.heap.size w w' := by
  have HC := Lib.hid (idxT_any A len c l w hx hlen)
  clear hx
  go_enter Tryz.func78, Tryz.ntmps78
  go_wp2_with fail
  refine HC.out.mono ?_
  rintro e w1 ⟨i, rfl, hib, hb1⟩
  go_wp2
  go_ret
  exact ⟨rfl, hb1⟩
  -- fine
set_option maxRecDepth 100000 in
set_option maxHeartbeats 1600000 in
theorem fine_any (q : Bool) (x : It) (t : Sl) (w : World) (hx : Reads w 2 t.A x.tgs.length (tcs x.tgs)) (hc : x.tgs.length ≤ 9223372036854775807) :
    Calls Tryz.prog 46 #[.agg #[.int .i64 x.pl, .int .i64 x.id, .int .i64 x.card, .int .i64 x.trg, .slice t.A x.tgs.length t.c], .bool q] w fun e w' => e = .returned (.bool (itOk q x)) ∧ Below w.heap.size w w' := by
  have hal : ∀ cs, Below w.heap.size w (w.alloc (.cells cs 55)) := fun cs => (Below.refl _ _).alloc (Nat.le_refl _) _
  have HAL := Lib.hid hal
  have HAT : Hid (∀ W, Below w.heap.size w W → Calls Tryz.prog 78 #[.slice t.A x.tgs.length t.c, .func (.func 79) #[] #[]] W fun e w' => e = .returned (.bool (!x.tgs.all tgOk)) ∧ Below W.heap.size W w') := Lib.hid fun W hb => anyT_any t.A _ t.c x.tgs W (hx.below hb) hc
  clear hal hc
  obtain ⟨p, i, c, r, ts⟩ := x
  obtain ⟨tA, tc⟩ := t
  simp only at *
  obtain ⟨v, hv⟩ : ∃ v, itOk q ⟨p, i, c, r, ts⟩ = v := ⟨_, rfl⟩
  rw [hv]
  unfold itOk at hv
  simp only at hv
  obtain ⟨n, hn⟩ : ∃ n, ts.length = n := ⟨_, rfl⟩
  obtain ⟨d, hd⟩ : ∃ d, ts.all tgOk = d := ⟨_, rfl⟩
  rw [hn] at hv hx HAT ⊢
  rw [hd] at hv HAT
  clear hn hd
  obtain ⟨b1, h1⟩ : ∃ b, inR p 0 1 = b := ⟨_, rfl⟩
  obtain ⟨b2, h2⟩ : ∃ b, inR i 1 500 = b := ⟨_, rfl⟩
  obtain ⟨b3, h3⟩ : ∃ b, inR c 0 399 = b := ⟨_, rfl⟩
  obtain ⟨b4, h4⟩ : ∃ b, inR r (-1) 1 = b := ⟨_, rfl⟩
  rw [h1, h2, h3, h4] at hv
  have H1 := Lib.hid h1
  have H2 := Lib.hid h2
  have H3 := Lib.hid h3
  have H4 := Lib.hid h4
  clear h1 h2 h3 h4
  have hcs : b1 = false ∨ (b1 = true ∧ b2 = false) ∨ (b1 = true ∧ b2 = true ∧ b3 = false) ∨ (b1 = true ∧ b2 = true ∧ b3 = true ∧ b4 = false) ∨ (b1 = true ∧ b2 = true ∧ b3 = true ∧ b4 = true) := by
    cases b1 <;> cases b2 <;> cases b3 <;> cases b4 <;> simp
  rcases hcs with rfl | ⟨rfl, rfl⟩ | ⟨rfl, rfl, rfl⟩ | ⟨rfl, rfl, rfl, rfl⟩ | ⟨rfl, rfl, rfl, rfl⟩
  · have HD : Hid (v = false) := Lib.hid (by rw [← hv]; simp)
    clear hv
    clear hx
    go_enter Tryz.func46, Tryz.ntmps46
    go_wp2_with (first
      | (go_at_call 42; refine (within_any _ _ _ _).mono ?_; (first | rw [H1.out] | rw [H2.out] | rw [H3.out] | rw [H4.out]); rintro e w1 ⟨rfl, rfl⟩)
      | fail)
    go_ret
    exact ⟨by rw [HD.out]; rfl, HAL.out _⟩
  · have HD : Hid (v = false) := Lib.hid (by rw [← hv]; simp)
    clear hv
    clear hx
    go_enter Tryz.func46, Tryz.ntmps46
    go_wp2_with (first
      | (go_at_call 42; refine (within_any _ _ _ _).mono ?_; (first | rw [H1.out] | rw [H2.out] | rw [H3.out] | rw [H4.out]); rintro e w1 ⟨rfl, rfl⟩)
      | fail)
    go_ret
    exact ⟨by rw [HD.out]; rfl, HAL.out _⟩
  · have HD : Hid (v = false) := Lib.hid (by rw [← hv]; simp)
    clear hv
    clear hx
    go_enter Tryz.func46, Tryz.ntmps46
    go_wp2_with (first
      | (go_at_call 42; refine (within_any _ _ _ _).mono ?_; (first | rw [H1.out] | rw [H2.out] | rw [H3.out] | rw [H4.out]); rintro e w1 ⟨rfl, rfl⟩)
      | fail)
    go_ret
    exact ⟨by rw [HD.out]; rfl, HAL.out _⟩
  · have HD : Hid (v = false) := Lib.hid (by rw [← hv]; simp)
    clear hv
    clear hx
    go_enter Tryz.func46, Tryz.ntmps46
    go_wp2_with (first
      | (go_at_call 42; refine (within_any _ _ _ _).mono ?_; (first | rw [H1.out] | rw [H2.out] | rw [H3.out] | rw [H4.out]); rintro e w1 ⟨rfl, rfl⟩)
      | fail)
    go_ret
    exact ⟨by rw [HD.out]; rfl, HAL.out _⟩
  · simp only [Bool.true_and] at hv
    by_cases g1 : 4 < n
    · have g1' : (4 : Int) < n := by omega
      have HD : Hid (v = false) := Lib.hid (by rw [← hv, decide_eq_false (show ¬ n ≤ 4 by omega)]; rfl)
      clear hv g1
      clear hx
      go_enter Tryz.func46, Tryz.ntmps46
      go_wp2_with (first
        | (go_at_call 42; refine (within_any _ _ _ _).mono ?_; (first | rw [H1.out] | rw [H2.out] | rw [H3.out] | rw [H4.out]); rintro e w1 ⟨rfl, rfl⟩)
        | fail)
      go_ret
      exact ⟨by rw [HD.out]; rfl, HAL.out _⟩
    · have g1' : decide ((4 : Int) < n) = false := decide_eq_false (by omega)
      rw [decide_eq_true (show n ≤ 4 by omega), Bool.true_and] at hv
      by_cases g2 : 0 ≤ r
      · have g2' : decide (0 ≤ r) = true := decide_eq_true g2
        have g2n : decide (r < 0) = false := decide_eq_false (by omega)
        by_cases g3 : 0 < n
        · have g3' : (0 : Int) < n := by omega
          have HD : Hid (v = false) := Lib.hid (by rw [← hv, g2', decide_eq_true g3]; rfl)
          clear hv g1 g2' g2n g3
          clear hx
          go_enter Tryz.func46, Tryz.ntmps46
          go_wp2_with (first
            | (go_at_call 42; refine (within_any _ _ _ _).mono ?_; (first | rw [H1.out] | rw [H2.out] | rw [H3.out] | rw [H4.out]); rintro e w1 ⟨rfl, rfl⟩)
            | fail)
          go_ret
          exact ⟨by rw [HD.out]; rfl, HAL.out _⟩
        · have HD : Hid (v = d) := Lib.hid (by rw [← hv, g2n, decide_eq_false g3]; simp)
          obtain rfl : n = 0 := by omega
          clear hv g1 g2' g3 g1'
          cases q
          · clear hx
            go_enter Tryz.func46, Tryz.ntmps46
            go_wp2_with (first
              | (go_at_call 42; refine (within_any _ _ _ _).mono ?_; (first | rw [H1.out] | rw [H2.out] | rw [H3.out] | rw [H4.out]); rintro e w1 ⟨rfl, rfl⟩)
              | (go_at_call 78; refine (HAT.out _ (HAL.out _)).mono ?_; rintro e w1 ⟨rfl, hb1⟩)
              | fail)
            go_ret
            exact ⟨by rw [HD.out]; simp, below_call (HAL.out _) hb1 (HAL.out _).size⟩
          · clear hx
            go_enter Tryz.func46, Tryz.ntmps46
            go_wp2_with (first
              | (go_at_call 42; refine (within_any _ _ _ _).mono ?_; (first | rw [H1.out] | rw [H2.out] | rw [H3.out] | rw [H4.out]); rintro e w1 ⟨rfl, rfl⟩)
              | (go_at_call 78; refine (HAT.out _ (HAL.out _)).mono ?_; rintro e w1 ⟨rfl, hb1⟩)
              | fail)
            go_ret
            exact ⟨by rw [HD.out]; simp, below_call (HAL.out _) hb1 (HAL.out _).size⟩
      · have g2' : decide (0 ≤ r) = false := decide_eq_false g2
        have g2n : r < 0 := by omega
        cases q
        · have HD : Hid (v = d) := Lib.hid (by rw [← hv, g2']; simp)
          clear hv g1 g2
          clear hx
          go_enter Tryz.func46, Tryz.ntmps46
          go_wp2_with (first
            | (go_at_call 42; refine (within_any _ _ _ _).mono ?_; (first | rw [H1.out] | rw [H2.out] | rw [H3.out] | rw [H4.out]); rintro e w1 ⟨rfl, rfl⟩)
            | (go_at_call 78; refine (HAT.out _ (HAL.out _)).mono ?_; rintro e w1 ⟨rfl, hb1⟩)
            | fail)
          go_ret
          exact ⟨by rw [HD.out]; simp, below_call (HAL.out _) hb1 (HAL.out _).size⟩
        · have HD : Hid (v = false) := Lib.hid (by rw [← hv, g2', decide_eq_true g2n]; simp)
          clear hv g1 g2
          clear hx
          go_enter Tryz.func46, Tryz.ntmps46
          go_wp2_with (first
            | (go_at_call 42; refine (within_any _ _ _ _).mono ?_; (first | rw [H1.out] | rw [H2.out] | rw [H3.out] | rw [H4.out]); rintro e w1 ⟨rfl, rfl⟩)
            | fail)
          go_ret
          exact ⟨by rw [HD.out]; rfl, HAL.out _⟩
end Go.Proofs.YtagpphelgghbpaaGreat
