/-
  A replay in memory; New, Len, Key, last.
-/
import Derived.Test.YtpbbemmjodegkaaGreatDoorNums
import Derived.Test.YtpbbemmjodegkaaGreatDoorKept
import Derived.Test.YtpbbemmjodegkaaGreatDoorSched
import Derived.Test.YtpbbemmjodegkaaGreatDoorLater
import Derived.Test.YtpbbemmjodegkaaGreatDoorXOwn
set_option linter.unusedSimpArgs false
set_option linter.unusedVariables false
namespace Go.Proofs.YtpbbemmjodegkaaGreatDoor
open Go.RowKit

def mcells (l : List MoveV) : List Value := l.flatMap MoveV.cells
theorem mcells_len (l : List MoveV) : (mcells l).length = l.length * 6 := by
  induction l with
  | nil => rfl
  | cons m l ih => simp only [mcells, List.flatMap_cons, List.length_append, List.length_cons] at ih ⊢; rw [ih]; simp [MoveV.cells]; omega
theorem mcells_snoc (l : List MoveV) (m : MoveV) : mcells (l ++ [m]) = mcells l ++ m.cells := by simp [mcells]
theorem mcells_at {l : List MoveV} {k : Nat} {m : MoveV} (h : l[k]? = some m) {j : Nat} (hj : j < 6) : (mcells l)[k * 6 + j]? = m.cells[j]? := by
  induction l generalizing k with
  | nil => simp at h
  | cons a l ih =>
    have hl : (MoveV.cells a).length = 6 := rfl
    cases k with
    | zero =>
      simp at h
      subst h
      simp only [mcells, List.flatMap_cons]
      rw [List.getElem?_append_left (by omega)]
      simp
    | succ k =>
      simp only [mcells, List.flatMap_cons]
      rw [List.getElem?_append_right (by omega), hl, show (k + 1) * 6 + j - 6 = k * 6 + j by omega]
      exact ih (by simpa using h)

/-- Where the parts of a replay lie. -/
structure RpC where
  A : Option Addr
  n : Nat
  c : Nat
  E : Option Addr
  ne : Nat
  ce : Nat
  M : Option Addr
  nm : Nat
  cm : Nat
/-- Block p is a replay in state q; all of it lies from block B on. -/
structure Rp (w : World) (B p : Nat) (q : St) (x : RpC) : Prop where
  blk : Blk w p 86 #[.int .u32 q.key, .slice x.A x.n x.c, .slice x.E x.ne x.ce, .slice x.M x.nm x.cm]
  base : B ≤ p
  data : XOwns w B 5 1 x.A x.n x.c (bys q.data)
  ends : XOwns w B 3 1 x.E x.ne x.ce (q.ends.map (Value.int .i64))
  mv : XOwns w B 48 6 x.M x.nm x.cm (mcells q.mv)
  ok : q.ok
section
variable {w w' : World} {B p : Nat} {q : St} {x : RpC}
theorem Rp.below (h : Rp w B p q x) (hb : Below w.heap.size w w') : Rp w' B p q x := ⟨h.blk.call hb, h.base, h.data.below hb, h.ends.below hb, h.mv.below hb, h.ok⟩
theorem Rp.n_eq (h : Rp w B p q x) : x.n = q.data.length := by have := h.data.len; simpa [bys] using this.symm
theorem Rp.nm_eq (h : Rp w B p q x) : x.nm = q.mv.length := by have := h.mv.len; rw [mcells_len] at this; omega
theorem Rp.ne_eq (h : Rp w B p q x) : x.ne = q.mv.length := by have := h.ends.len; rw [List.length_map, h.ok.endl] at this; omega
theorem Rp.bown (h : Rp w B p q x) : BOwns w B 5 x.A x.n x.c q.data := h.data.b h.ok.bytes
end

set_option maxHeartbeats 400000 in
theorem new_any (key : Int) (w : World) (hk : 0 ≤ key ∧ key ≤ 4294967295) : Calls Tryz.prog 6 #[.int .u32 key] w fun e w' => e = .returned (.pointer (some ⟨w.heap.size, 0, none⟩)) ∧ Rp w' w.heap.size w.heap.size (st0 key) ⟨none, 0, 0, none, 0, 0, none, 0, 0⟩ ∧ Below w.heap.size w w' := by
  have HK := Lib.hid hk
  clear hk
  go_enter Tryz.func6, Tryz.ntmps6
  go_wp2
  go_ret
  exact ⟨rfl, ⟨Blk.mk_ _ _ _ _ rfl, Nat.le_refl _, ⟨World.ownsRow_nil _ _ _ _, fun _ => rfl⟩, ⟨World.ownsRow_nil _ _ _ _, fun _ => rfl⟩, ⟨World.ownsRow_nil _ _ _ _, fun _ => rfl⟩, st0_ok HK.out⟩, by (focus (repeat' (first | (with_reducible exact Below.refl _ _) | (with_reducible assumption) | (with_reducible refine Below.alloc ?_ ?_ _) | (with_reducible refine below_drewN ?_ _) | (with_reducible refine Below.drew ?_) | (with_reducible refine Below.setCell ?_ ?_ _) | omega | (simp; done) | (simp; omega))))⟩

set_option maxHeartbeats 400000 in
theorem len_any (B p : Nat) (q : St) (x : RpC) (w : World) (h : Rp w B p q x) : Calls Tryz.prog 16 #[.pointer (some ⟨p, 0, none⟩)] w fun e w' => e = .returned (.int .i64 q.mv.length) ∧ w = w' := by
  have x3 := (h.blk.at_ 3).trans rfl
  have HN := Lib.hid h.nm_eq
  clear h
  go_enter Tryz.func16, Tryz.ntmps16
  go_wp2
  go_ret
  exact ⟨by rw [← HN.out]; rfl, rfl⟩
set_option maxHeartbeats 400000 in
theorem key_any (B p : Nat) (q : St) (x : RpC) (w : World) (h : Rp w B p q x) : Calls Tryz.prog 17 #[.pointer (some ⟨p, 0, none⟩)] w fun e w' => e = .returned (.int .u32 q.key) ∧ w = w' := by
  have x0 := (h.blk.at_ 0).trans rfl
  clear h
  go_enter Tryz.func17, Tryz.ntmps17
  go_wp2
  go_ret
  exact ⟨rfl, rfl⟩

set_option maxHeartbeats 800000 in
theorem last_any (B p : Nat) (q : St) (x : RpC) (w : World) (h : Rp w B p q x) : Calls Tryz.prog 26 #[.pointer (some ⟨p, 0, none⟩)] w fun e w' => e = .returned (.int .u64 q.last) ∧ Below w.heap.size w w' := by
  have x3 := (h.blk.at_ 3).trans rfl
  have hn := h.nm_eq
  rcases Nat.eq_zero_or_pos q.mv.length with h0 | h0
  · have hl := Lib.hid (h.ok.nil_ h0).2.2
    rw [h0] at hn
    rw [hn] at x3
    clear h hn h0
    go_enter Tryz.func26, Tryz.ntmps26
    go_wp2
    go_ret
    exact ⟨by rw [hl.out]; rfl, Below.refl _ _⟩
  · obtain ⟨l, m, hl, hm⟩ := (h.ok.cons_ h0).2
    obtain ⟨g, c, hv, _, _⟩ := h.mv.1.form (by omega)
    have hlk : q.mv.length = l.length + 1 := by rw [hl]; simp
    have hc : w.cell? ⟨g, l.length * 6 + 5, none⟩ = some (.int .u64 m.at_) := by
      obtain ⟨ad, e, _, hcell⟩ := h.mv.reads.2 (by omega)
      injection hv with hv
      rw [hv] at e
      injection e with e
      subst e
      have := hcell (l.length * 6 + 5) (.int .u64 m.at_) (by rw [mcells_at (k := l.length) (m := m) (by rw [hl]; simp) (by omega)]; rfl)
      simpa [Addr.add] using this
    injection hv with hv
    rw [hv, hn, hlk] at x3
    have HM := Lib.hid hm
    have hcnt := h.ok.cnt
    generalize hk : l.length = k at *
    clear h hn hl hm hk hv h0
    have hkb : k ≤ 4096 := by omega
    clear hcnt
    go_enter Tryz.func26, Tryz.ntmps26
    go_wp2
    go_quiet (fail)
    go_wp2
    go_ret
    exact ⟨by rw [← HM.out]; rfl, by (focus (repeat' (first | (with_reducible exact Below.refl _ _) | (with_reducible assumption) | (with_reducible refine Below.alloc ?_ ?_ _) | (with_reducible refine below_drewN ?_ _) | (with_reducible refine Below.drew ?_) | (with_reducible refine Below.setCell ?_ ?_ _) | omega | (simp; done) | (simp; omega))))⟩
end Go.Proofs.YtpbbemmjodegkaaGreatDoor
