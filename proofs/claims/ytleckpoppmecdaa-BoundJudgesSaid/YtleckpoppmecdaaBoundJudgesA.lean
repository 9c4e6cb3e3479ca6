/-
  Words for BoundJudges: the box of the configuration, a thing that is being made.
-/
import Derived.Test.YtleckpoppmecdaaKnown
import Derived.Test.YtleckpoppmecdaaOpen
import Derived.Test.YtleckpoppmecdaaRJudge
import Derived.Test.YtleckpoppmecdaaRowB
import Derived.Deep.RegionHeld3
import Derived.Deep.RegionLaw
import Derived.Deep.QuietTactic
import Derived.BigQuiet
import Derived.BigRegion
import Derived.Deep.CutBlock
import Derived.Deep.DeepCutAuto
import Derived.ProofKit
import Derived.OpenShut
import Derived.ShutString
import Derived.ChangeOld
import Derived.Below
import Derived.Lib.SmallJoins
set_option linter.unusedSimpArgs false
set_option linter.unusedVariables false
namespace Go.Proofs.Ytleckpoppmecdaa.boundJudges
open Go.Joins Go.ChangeShapes Go.WideShapes Go.ChangeAt Go.RowKit
open Go.ChangeMaps (open_string shut_string)

theorem small_of (c : Cfg) (b : Bool) (h : smallB c = b) (w : World) :
    Calls Try.prog 6 #[.agg #[.int .i64 c.l, .int .i64 c.m, .int .i64 c.a, .int .i64 c.o, .int .i64 c.t, .int .i64 c.c, .int .u64 c.rope, .int .u64 c.bank, .int .u64 c.bonus, .int .u64 c.most, .int .i64 c.str, .int .u64 c.gr, .string c.s0, .string c.s1, .int .i64 c.mi, .int .i64 c.ke]] w fun e w' => e = .returned (.bool b) ∧ Below w.heap.size w w' := h ▸ small_any c w
theorem allowed_of (c : Cfg) (b : Bool) (h : okB c = b) (w : World) :
    Calls Try.prog 8 #[.agg #[.int .i64 c.l, .int .i64 c.m, .int .i64 c.a, .int .i64 c.o, .int .i64 c.t, .int .i64 c.c, .int .u64 c.rope, .int .u64 c.bank, .int .u64 c.bonus, .int .u64 c.most, .int .i64 c.str, .int .u64 c.gr, .string c.s0, .string c.s1, .int .i64 c.mi, .int .i64 c.ke]] w fun e w' => e = .returned (.bool b) ∧ Below w.heap.size w w' := h ▸ allowed_any c w

def zc : Array Value := #[.int .i64 0, .int .i64 0, .int .i64 0, .slice none 0 0, .int .i64 0, .int .i64 0, .slice none 0 0, .slice none 0 0, .int .i64 0, .int .u64 0]
def zcAt (o : Nat) : Option Value := zc[o]?
theorem make_u8 (m : Nat) (hm : m ≤ 65535) (x : Int) (hx : x = (m : Int)) (W : World) :
    (Instr.makeSlice 43 (.int .i64 x) (.int .i64 x)).run Try.prog W = .ok (.slice (some ⟨W.heap.size, 0, none⟩) m m) (W.alloc (.cells (madeCells #[.int .u8 0] m) 5)) := by
  subst hx
  obtain ⟨i0, hi, hz0, hz1, hz2⟩ := info_parts Try.info5
  have hr := run_make (P := Try.prog) W 43 5 i0 _ Try.underlying43 hi hz0 .i64 .i64 (m : Int) (m : Int) (by omega) (by omega) (by rw [hz2]; omega) (by omega)
  simp only [Int.toNat_natCast, hz1, Nat.mul_one] at hr
  exact hr
theorem keep_two {W X w6 : World} {B : Nat} (h : Below W.heap.size W X) (h6 : Below B X w6) (b : Nat) (hb : b < W.heap.size) (hB : b < B) : ∀ o, w6.cell? ⟨b, o, none⟩ = W.cell? ⟨b, o, none⟩ :=
  fun o => (h6.cell (p := ⟨b, o, none⟩) hB).trans (h.cell (p := ⟨b, o, none⟩) hb)
theorem keepf_two {W X w6 : World} {B : Nat} (h : Below W.heap.size W X) (h6 : Below B X w6) (b : Nat) (hb : b < W.heap.size) (hB : b < B) : ∀ o, w6.frozen? ⟨b, o, none⟩ = W.frozen? ⟨b, o, none⟩ :=
  fun o => (h6.frozen (p := ⟨b, o, none⟩) hB).trans (h.frozen (p := ⟨b, o, none⟩) hb)

/-- A thing that is being made: all of it but its moves. -/
def St (w0 wt : World) (sA : Option Addr) (sc p : Nat) (ls : List Nat) (W : World) : Prop :=
  Below w0.heap.size w0 W ∧ wt.heap.size ≤ W.heap.size ∧ SRow W wt.heap.size (.slice sA p sc) p ls ∧ (∀ o, o ≠ 7 → W.cell? ⟨w0.heap.size, o, none⟩ = if o = 6 then some (.slice sA p sc) else zcAt o) ∧ (∀ o, W.frozen? ⟨w0.heap.size, o, none⟩ = false) ∧ (W.cell? ⟨w0.heap.size, 7, none⟩).isSome = true
theorem St.below {w0 wt : World} {sA : Option Addr} {sc p : Nat} {ls : List Nat} {W W' : World} (h : St w0 wt sA sc p ls W) (hb : Below W.heap.size W W') (hz : w0.heap.size < wt.heap.size) : St w0 wt sA sc p ls W' := by
  obtain ⟨h1, h2, h3, h4, h5, h6⟩ := h
  have k := keep_at hb w0.heap.size (by omega)
  have kf := keepf_at hb w0.heap.size (by omega)
  exact ⟨h1.trans (hb.mono (by omega)), by have := hb.size; omega, h3.below hb, fun o ho => (k o).trans (h4 o ho), fun o => (kf o).trans (h5 o), by rw [k]; exact h6⟩
theorem St.drew {w0 wt : World} {sA : Option Addr} {sc p : Nat} {ls : List Nat} {W : World} (h : St w0 wt sA sc p ls W) : St w0 wt sA sc p ls W.drew :=
  ⟨h.1.drew, h.2.1, (let ⟨xs, h1, h2⟩ := h.2.2.1; ⟨xs, h1.drew, h2⟩), h.2.2.2.1, h.2.2.2.2.1, h.2.2.2.2.2⟩
theorem St.set7 {w0 wt : World} {sA : Option Addr} {sc p : Nat} {ls : List Nat} {W : World} (h : St w0 wt sA sc p ls W) (v : Value) (hz : w0.heap.size < wt.heap.size) : St w0 wt sA sc p ls (W.setCell ⟨w0.heap.size, 7, none⟩ v) := by
  obtain ⟨h1, h2, h3, h4, h5, h6⟩ := h
  refine ⟨h1.setCell (Nat.le_refl _) _, by simpa using h2, h3.set (by simpa using hz) _, fun o ho => ?_, fun o => ?_, ?_⟩
  · rw [World.cell?_setCell_other (h := (by intro h; injection h with _ h2; exact ho h2.symm))]
    exact h4 o ho
  · rw [World.frozen?_setCell]; exact h5 o
  · rw [World.cell?_setCell_same' _ _ _ h6]; rfl
theorem St.cells {w0 wt : World} {sA : Option Addr} {sc p : Nat} {ls : List Nat} {W : World} (h : St w0 wt sA sc p ls W) :
    W.cell? ⟨w0.heap.size, 0, none⟩ = some (.int .i64 0) ∧ W.cell? ⟨w0.heap.size, 1, none⟩ = some (.int .i64 0) ∧ W.cell? ⟨w0.heap.size, 2, none⟩ = some (.int .i64 0) ∧ W.cell? ⟨w0.heap.size, 3, none⟩ = some (.slice none 0 0) ∧
    W.cell? ⟨w0.heap.size, 4, none⟩ = some (.int .i64 0) ∧ W.cell? ⟨w0.heap.size, 5, none⟩ = some (.int .i64 0) ∧ W.cell? ⟨w0.heap.size, 6, none⟩ = some (.slice sA p sc) ∧ W.cell? ⟨w0.heap.size, 8, none⟩ = some (.int .i64 0) ∧ W.cell? ⟨w0.heap.size, 9, none⟩ = some (.int .u64 0) := by
  have h4 := h.2.2.2.1
  exact ⟨(h4 0 (by decide)).trans rfl, (h4 1 (by decide)).trans rfl, (h4 2 (by decide)).trans rfl, (h4 3 (by decide)).trans rfl, (h4 4 (by decide)).trans rfl, (h4 5 (by decide)).trans rfl, (h4 6 (by decide)).trans rfl, (h4 8 (by decide)).trans rfl, (h4 9 (by decide)).trans rfl⟩
theorem _root_.Go.Proofs.Ytleckpoppmecdaa.LRow.own_lt {w : World} {base : Nat} {v : Value} {j : Nat} {ds : List DidR} (h : LRow w base v j ds) : ∀ k, v.ownBlock = some k → k < w.heap.size :=
  let ⟨_, h1, _⟩ := h
  fun k hk => (h1.lt k hk).2
theorem did_lit (W : World) (d : DidR) : DidAt (W.alloc (.cells #[.int .i64 0, .int .i64 0, .int .i64 0, .slice none 0 0, .int .i64 0, .int .i64 0, .slice d.sA d.sn d.sc, .slice d.mA d.mn d.mc, .int .i64 0, .int .u64 0] 49)) W.heap.size 0 d := by
  unfold DidAt
  simp only [cell_new]
  exact ⟨rfl, rfl, rfl, rfl, rfl, rfl, rfl, rfl, rfl, rfl⟩
/-- All that the last append of a round wants to know. -/
theorem st_new {w0 wt : World} {sA : Option Addr} {sc p : Nat} {ls : List Nat} {W : World} (h : St w0 wt sA sc p ls W) (hq : ls.sum ≤ 65535 * p ∧ p ≤ 31) (v : Value) (hl : ∀ k, v.ownBlock = some k → k < w0.heap.size) (hz : w0.heap.size < wt.heap.size) (mA : Option Addr) (mn mc : Nat) :
    (SentAt W ⟨sA, p, sc, mA, mn, mc, ls⟩ ∧ ls.sum ≤ 4000000000000000000 ∧ p ≤ 4000000000000000000) ∧ ∀ ad, sA = some ad → v.ownBlock ≠ some ad.block ∧ ad.block < W.heap.size := by
  refine ⟨⟨h.2.2.1.sent mA mn mc, by omega, by omega⟩, fun ad e => ?_⟩
  obtain ⟨h1, h2⟩ := h.2.2.1.at_base ad e
  exact ⟨fun he => by have := hl _ he; omega, h2⟩

theorem make_moves (q : Nat) (hq : q ≤ 200000) : ∃ ob : Obj, ∀ W : World, (Instr.makeSlice 47 (.int .i64 (q : Int)) (.int .i64 (q : Int))).run Try.prog W = .ok (.slice (some ⟨W.heap.size, 0, none⟩) q q) (W.alloc ob) := by
  obtain ⟨i0, z, hi, hz, hby⟩ : ∃ i z, Try.prog.info? 98 = some i ∧ i.zero = some z ∧ i.bytes ≤ 100000 := by
    cases h : Try.prog.info? 98 with
    | none => exact absurd h (by have : (Try.prog.info? 98).isSome = true := by kernel_rfl
                                 intro h; rw [h] at this; cases this)
    | some i =>
      have h1 : (Try.prog.info? 98).any (fun i => i.zero.isSome && decide (i.bytes ≤ 100000)) = true := by kernel_rfl
      rw [h] at h1
      simp at h1
      obtain ⟨z, hz⟩ := Option.isSome_iff_exists.1 h1.1
      exact ⟨i, z, rfl, hz, h1.2⟩
  refine ⟨.cells (madeCells z.cells (q * i0.size)) 98, fun W => ?_⟩
  have hr := run_make (P := Try.prog) W 47 98 i0 z Try.underlying47 hi hz .i64 .i64 (q : Int) (q : Int) (by omega) (by omega) (by
    have h1 : (i0.bytes : Int) * (q : Int) ≤ 100000 * 200000 := Int.mul_le_mul (by omega) (by omega) (by omega) (by omega)
    omega) (by omega)
  simp only [Int.toNat_natCast] at hr
  exact hr

/-- The box of the configuration. -/
def BoxAt (c : Cfg) (w W : World) : Prop := W.heap[w.heap.size]? = some (.cells #[.int .i64 c.l, .int .i64 c.m, .int .i64 c.a, .int .i64 c.o, .int .i64 c.t, .int .i64 c.c, .int .u64 c.rope, .int .u64 c.bank, .int .u64 c.bonus, .int .u64 c.most, .int .i64 c.str, .int .u64 c.gr, .string c.s0, .string c.s1, .int .i64 c.mi, .int .i64 c.ke] 32 (0, 0)) ∧ w.heap.size + 1 ≤ W.heap.size ∧ Below w.heap.size w W
theorem BoxAt.size {c : Cfg} {w W : World} (h : BoxAt c w W) : w.heap.size + 1 ≤ W.heap.size := h.2.1
theorem BoxAt.bel {c : Cfg} {w W : World} (h : BoxAt c w W) : Below w.heap.size w W := h.2.2
theorem BoxAt.belowB {c : Cfg} {w W W' : World} (h : BoxAt c w W) (hb : Below (w.heap.size + 1) W W') : BoxAt c w W' :=
  ⟨(hb.block w.heap.size (Nat.lt_succ_self _)).trans h.1, Nat.le_trans h.2.1 hb.size, h.2.2.trans (hb.mono (Nat.le_succ _))⟩
theorem BoxAt.below {c : Cfg} {w W W' : World} (h : BoxAt c w W) (hb : Below W.heap.size W W') : BoxAt c w W' := h.belowB (hb.mono h.size)
theorem BoxAt.start (c : Cfg) (w : World) : BoxAt c w (w.alloc (.cells #[.int .i64 c.l, .int .i64 c.m, .int .i64 c.a, .int .i64 c.o, .int .i64 c.t, .int .i64 c.c, .int .u64 c.rope, .int .u64 c.bank, .int .u64 c.bonus, .int .u64 c.most, .int .i64 c.str, .int .u64 c.gr, .string c.s0, .string c.s1, .int .i64 c.mi, .int .i64 c.ke] 32)) := by
  refine ⟨?_, by simp, by (focus (repeat' (first | (with_reducible exact Below.refl _ _) | (with_reducible assumption) | (with_reducible refine Below.alloc ?_ ?_ _) | (with_reducible refine below_drewN ?_ _) | (with_reducible refine Below.drew ?_) | (with_reducible refine Below.setCell ?_ ?_ _) | omega | (simp; done) | (simp; omega))))⟩
  show (w.heap.push _)[w.heap.size]? = _
  simp
theorem BoxAt.drew {c : Cfg} {w W : World} (h : BoxAt c w W) : BoxAt c w W.drew := ⟨h.1, h.2.1, h.2.2.drew⟩
theorem load_box {c : Cfg} {w W : World} (hbx : BoxAt c w W) {ops : Array Oper} {rest : List Oper} {o : Oper} {a : Act} {Q : Exit → Act → World → Prop} (hw : Region.wanted o (yielded ops a.tmps) = true) (x : Operand) (ho : o.op = .load 32 x)
    (hx : a.eval x = .pointer (some ⟨w.heap.size, 0, none⟩)) (h : wpList Try.prog ops Q rest (a.put o.dst (.agg #[.int .i64 c.l, .int .i64 c.m, .int .i64 c.a, .int .i64 c.o, .int .i64 c.t, .int .i64 c.c, .int .u64 c.rope, .int .u64 c.bank, .int .u64 c.bonus, .int .u64 c.most, .int .i64 c.str, .int .u64 c.gr, .string c.s0, .string c.s1, .int .i64 c.mi, .int .i64 c.ke])) W) : wpList Try.prog ops Q (o :: rest) a W := by
  unfold wpList
  rw [if_pos hw]
  exact Or.inl (wp_load_row 32 x ho w.heap.size hx 32 _ (0, 0) _ hbx.1 Try.underlying32 rfl (by kernel_rfl) h)
theorem BoxAt.cells {c : Cfg} {w W : World} (h : BoxAt c w W) : W.cell? ⟨w.heap.size, 0, none⟩ = some (.int .i64 c.l) ∧ W.cell? ⟨w.heap.size, 1, none⟩ = some (.int .i64 c.m) ∧ W.cell? ⟨w.heap.size, 2, none⟩ = some (.int .i64 c.a) ∧ W.cell? ⟨w.heap.size, 3, none⟩ = some (.int .i64 c.o) ∧ W.cell? ⟨w.heap.size, 4, none⟩ = some (.int .i64 c.t) ∧ W.cell? ⟨w.heap.size, 5, none⟩ = some (.int .i64 c.c) ∧ W.cell? ⟨w.heap.size, 6, none⟩ = some (.int .u64 c.rope) ∧ W.cell? ⟨w.heap.size, 7, none⟩ = some (.int .u64 c.bank) ∧ W.cell? ⟨w.heap.size, 8, none⟩ = some (.int .u64 c.bonus) ∧ W.cell? ⟨w.heap.size, 9, none⟩ = some (.int .u64 c.most) ∧ W.cell? ⟨w.heap.size, 10, none⟩ = some (.int .i64 c.str) ∧ W.cell? ⟨w.heap.size, 11, none⟩ = some (.int .u64 c.gr) ∧ W.cell? ⟨w.heap.size, 12, none⟩ = some (.string c.s0) ∧ W.cell? ⟨w.heap.size, 13, none⟩ = some (.string c.s1) ∧ W.cell? ⟨w.heap.size, 14, none⟩ = some (.int .i64 c.mi) ∧ W.cell? ⟨w.heap.size, 15, none⟩ = some (.int .i64 c.ke) ∧ w.heap.size + 1 ≤ W.heap.size ∧ Below w.heap.size w W := by
  have hc := fun j => cell_of_row W w.heap.size j _ _ _ h.1
  exact ⟨(hc 0).trans rfl, (hc 1).trans rfl, (hc 2).trans rfl, (hc 3).trans rfl, (hc 4).trans rfl, (hc 5).trans rfl, (hc 6).trans rfl, (hc 7).trans rfl, (hc 8).trans rfl, (hc 9).trans rfl, (hc 10).trans rfl, (hc 11).trans rfl, (hc 12).trans rfl, (hc 13).trans rfl, (hc 14).trans rfl, (hc 15).trans rfl, h.2.1, h.2.2⟩

/-- A list of small numbers. -/
def IReads (w : World) (A : Option Addr) (n : Nat) (xs : List Int) : Prop := Reads w 1 A n (xs.map (Value.int .i8))
theorem IReads.below {w w' : World} {A : Option Addr} {n : Nat} {xs : List Int} (h : IReads w A n xs) (hb : Below w.heap.size w w') : IReads w' A n xs := Reads.below h hb
theorem IReads.at_ {w : World} {A : Option Addr} {n : Nat} {xs : List Int} (h : IReads w A n xs) {k : Nat} (hk : k < n) :
    ∃ ad : Addr, A = some ad ∧ ad.block < w.heap.size ∧ w.cell? (ad.add k) = some (.int .i8 (nth xs k)) := by
  obtain ⟨ad, u, e, hb, hx, hc⟩ := Reads.at_ h hk
  have hl : xs.length = n := by have := h.1; simpa using this
  have hu : u = .int .i8 (nth xs k) := by
    rw [List.getElem?_map, List.getElem?_eq_getElem (by omega)] at hx
    simp only [Option.map_some, Option.some.injEq] at hx
    rw [← hx]
    simp [nth, List.getD, List.getElem?_eq_getElem (show k < xs.length by omega)]
  subst hu
  exact ⟨ad, e, hb, hc⟩

end Go.Proofs.Ytleckpoppmecdaa.boundJudges
