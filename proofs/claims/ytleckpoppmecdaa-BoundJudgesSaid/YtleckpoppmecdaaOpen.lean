/-
  The arguments of the statements, opened: a configuration.
-/
import Derived.Test.YtleckpoppmecdaaSmall
import Derived.Test.YtleckpoppmecdaaMem
import Derived.ProofKit
import Derived.OpenShut
import Derived.Lib.SmallJoins
namespace Go.Proofs.Ytleckpoppmecdaa
open Go.Joins Go.ChangeShapes Go.WideShapes Go.ChangeAt Go.RowKit

section
variable {H : Type} {enc : TypeId × Value → H} {W : World} {base : Nat} {spare : Nat → Bool} {held : Bool}

theorem c3 : Try.prog.cellsOf 3 = 1 := by kernel_rfl
theorem c25 : Try.prog.cellsOf 25 = 1 := by kernel_rfl
theorem c9 : Try.prog.cellsOf 9 = 1 := by kernel_rfl
theorem c23 : Try.prog.cellsOf 23 = 6 := by kernel_rfl
theorem c27 : Try.prog.cellsOf 27 = 4 := by kernel_rfl
theorem c29 : Try.prog.cellsOf 29 = 2 := by kernel_rfl
theorem c30 : Try.prog.cellsOf 30 = 2 := by kernel_rfl
theorem c32 : Try.prog.cellsOf 32 = 16 := by kernel_rfl

theorem one_int {t : TypeId} {k : IntKind} {n : Nat} {v : Value} {o : Option (DataW H × List MemPlace)} (ht : Try.prog.underlying t = some (.int k)) (ho : ∃ y, o = some y) (h : DataW.trod enc Try.prog W base spare held n t [v] = o) :
    ∃ x, v = .int k x ∧ (Lit.int k x).wf = true := by
  obtain ⟨y, rfl⟩ := ho
  obtain ⟨x, e, _, w⟩ := DataW.trod_int ht h
  simp at e
  exact ⟨x, e, w⟩
theorem get_ex {α : Type} {xs : List α} {n i : Nat} (h : xs.length = n) (hi : i < n) : ∃ y, xs[i]? = some y := ⟨xs[i]'(by omega), List.getElem?_eq_getElem (by omega)⟩

theorem open_cfg {r : Reach} {b0 : Nat} {v : Value} {d : DataW H} {p : List MemPlace} (hv : Value.okWide Try.prog W r b0 32 v) (h : DataW.Trod enc Try.prog W base spare held 32 v d p) :
    ∃ c : Cfg, v = .agg #[.int .i64 c.l, .int .i64 c.m, .int .i64 c.a, .int .i64 c.o, .int .i64 c.t, .int .i64 c.c, .int .u64 c.rope, .int .u64 c.bank, .int .u64 c.bonus, .int .u64 c.most, .int .i64 c.str, .int .u64 c.gr, .string c.s0, .string c.s1, .int .i64 c.mi, .int .i64 c.ke] ∧ (0 ≤ c.bank ∧ 0 ≤ c.bonus) := by
  obtain ⟨cs, rfl, hsz⟩ := okWide_struct Try.underlying32 hv
  obtain ⟨l⟩ := cs
  match l, hsz.trans c32 with
  | [v0, v1, v2, v3, v4, v5, v6, v7, v8, v9, v10, v11, v12, v13, v14, v15], _ =>
    obtain ⟨fuel, hf⟩ := h
    obtain ⟨xs, n, _, hx, _, hlen, hg⟩ := DataW.trod_struct Try.underlying32 hf
    have g0 := hg 0 _ rfl
    have g1 := hg 1 _ rfl
    have g2 := hg 2 _ rfl
    have g3 := hg 3 _ rfl
    have g4 := hg 4 _ rfl
    have g5 := hg 5 _ rfl
    obtain ⟨y0, e0⟩ := get_ex hlen (show 0 < 6 by omega)
    obtain ⟨y1, e1⟩ := get_ex hlen (show 1 < 6 by omega)
    obtain ⟨y2, e2⟩ := get_ex hlen (show 2 < 6 by omega)
    obtain ⟨y3, e3⟩ := get_ex hlen (show 3 < 6 by omega)
    obtain ⟨x14, rfl, w14⟩ := one_int Try.underlying3 (get_ex hlen (show 4 < 6 by omega)) g4
    obtain ⟨x15, rfl, w15⟩ := one_int Try.underlying3 (get_ex hlen (show 5 < 6 by omega)) g5
    obtain ⟨xa, na, _, _, _, hla, ha⟩ := DataW.trod_struct Try.underlying23 (g0.trans e0)
    obtain ⟨xb, nb, _, _, _, hlb, hb⟩ := DataW.trod_struct Try.underlying27 (g1.trans e1)
    obtain ⟨xc, nc, _, _, _, hlc, hc⟩ := DataW.trod_struct Try.underlying29 (g2.trans e2)
    obtain ⟨xd, nd, _, _, _, hld, hd⟩ := DataW.trod_array Try.underlying30 (g3.trans e3)
    have a0 := ha 0 _ rfl
    have a1 := ha 1 _ rfl
    have a2 := ha 2 _ rfl
    have a3 := ha 3 _ rfl
    have a4 := ha 4 _ rfl
    have a5 := ha 5 _ rfl
    have b0 := hb 0 _ rfl
    have b1 := hb 1 _ rfl
    have b2 := hb 2 _ rfl
    have b3 := hb 3 _ rfl
    have d0 := hc 0 _ rfl
    have d1 := hc 1 _ rfl
    have s0 : DataW.trod enc Try.prog W base spare held nd 9 [v12] = xd[0]? := hd 0 (by omega)
    have s1 : DataW.trod enc Try.prog W base spare held nd 9 [v13] = xd[1]? := hd 1 (by omega)
    obtain ⟨z0, rfl, _⟩ := one_int Try.underlying3 (get_ex hla (show 0 < 6 by omega)) a0
    obtain ⟨z1, rfl, _⟩ := one_int Try.underlying3 (get_ex hla (show 1 < 6 by omega)) a1
    obtain ⟨z2, rfl, _⟩ := one_int Try.underlying3 (get_ex hla (show 2 < 6 by omega)) a2
    obtain ⟨z3, rfl, _⟩ := one_int Try.underlying3 (get_ex hla (show 3 < 6 by omega)) a3
    obtain ⟨z4, rfl, _⟩ := one_int Try.underlying3 (get_ex hla (show 4 < 6 by omega)) a4
    obtain ⟨z5, rfl, _⟩ := one_int Try.underlying3 (get_ex hla (show 5 < 6 by omega)) a5
    obtain ⟨z6, rfl, _⟩ := one_int Try.underlying25 (get_ex hlb (show 0 < 4 by omega)) b0
    obtain ⟨z7, rfl, w7⟩ := one_int Try.underlying25 (get_ex hlb (show 1 < 4 by omega)) b1
    obtain ⟨z8, rfl, w8⟩ := one_int Try.underlying25 (get_ex hlb (show 2 < 4 by omega)) b2
    obtain ⟨z9, rfl, _⟩ := one_int Try.underlying25 (get_ex hlb (show 3 < 4 by omega)) b3
    obtain ⟨z10, rfl, _⟩ := one_int Try.underlying3 (get_ex hlc (show 0 < 2 by omega)) d0
    obtain ⟨z11, rfl, _⟩ := one_int Try.underlying25 (get_ex hlc (show 1 < 2 by omega)) d1
    obtain ⟨q0, f0⟩ := get_ex hld (show 0 < 2 by omega)
    obtain ⟨q1, f1⟩ := get_ex hld (show 1 < 2 by omega)
    obtain ⟨t0, p0, _, _⟩ := DataW.trod_string Try.underlying9 (s0.trans f0)
    obtain ⟨t1, p1, _, _⟩ := DataW.trod_string Try.underlying9 (s1.trans f1)
    simp at p0 p1
    subst p0 p1
    refine ⟨⟨z0, z1, z2, z3, z4, z5, z6, z7, z8, z9, z10, z11, t0, t1, x14, x15⟩, rfl, ?_, ?_⟩
    · simp [Lit.wf, IntKind.min, IntKind.max, IntKind.signed, IntKind.bits] at w7
      exact w7.1
    · simp [Lit.wf, IntKind.min, IntKind.max, IntKind.signed, IntKind.bits] at w8
      exact w8.1
end
end Go.Proofs.Ytleckpoppmecdaa
