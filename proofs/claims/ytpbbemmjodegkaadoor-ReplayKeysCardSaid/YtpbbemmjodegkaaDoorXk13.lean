/-
  Texts: Mps.
-/
import Derived.Test.YtpbbemmjodegkaaDoorXk2
import Derived.Maps.OwnSet
import Derived.StringKeys
set_option linter.unusedSimpArgs false
set_option linter.unusedVariables false
namespace Go.Proofs.YtpbbemmjodegkaaDoor
open Go.RowKit

def lS (x : ByteArray) : Lit := .string x.data.toList
theorem keyS : Go.Maps.Keyed Tryd.prog 9 := Go.Maps.string_keyed Tryd.underlying9
theorem keyOfS {x : ByteArray} (h : x.size ≤ maxLen) : keyOf Tryd.prog 9 (.string x) = some (lS x) := Go.WideMaps.keyOf_string_mk Tryd.underlying9 h
theorem isKeyS (x : ByteArray) : WideAt.IsKeyLit (lS x) := trivial
theorem lS_ne {x y : ByteArray} (h : x ≠ y) : lS x ≠ lS y := fun e => h (by
  unfold lS at e
  injection e with e
  exact ByteArray.ext (Array.ext' e))
theorem zeroI (w : World) : (zeroValue 3).run Tryd.prog w = .ok (.int .i64 0) w := by kernel_rfl
theorem lit_wf {x : Int} (h : -9223372036854775808 ≤ x ∧ x ≤ 9223372036854775807) : (Lit.int .i64 x).wf = true := by
  simp [Lit.wf, IntKind.min, IntKind.max, IntKind.signed, IntKind.bits]
  omega

structure MapT (w : World) (g n : Nat) (f : ByteArray → Bool) : Prop where
  ex : ∃ D : DataW Unit, w.ownsMap Tryd.prog 9 (plainElem Tryd.prog 3) g n D ∧ Maps.size D = n ∧ ∀ x : ByteArray, x.size ≤ maxLen → Maps.has D (lS x) = f x
section
variable {w w' : World} {g n : Nat} {f : ByteArray → Bool}
theorem MapT.make (w : World) : MapT (w.alloc (.map #[] 0)) w.heap.size 0 (fun _ => false) := ⟨.map [], World.ownsMap_made _ _ _ _, rfl, fun x _ => rfl⟩
theorem MapT.lt (h : MapT w g n f) : g < w.heap.size := by
  obtain ⟨D, h, -⟩ := h.ex
  exact h.lt
theorem MapT.below (h : MapT w g n f) (hb : Below w.heap.size w w') : MapT w' g n f := by
  obtain ⟨D, h1, h2, h3⟩ := h.ex
  have hl := h1.lt
  obtain ⟨es, clock, h1, F, hs, hD⟩ := h1
  exact ⟨D, ⟨es, clock, (hb.block g hl).trans h1, F, hs, hD⟩, h2, h3⟩
theorem MapT.kept {row : Option Nat} (h : MapT w g n f) (hg : w.grownBy w' row) (hne : some g ≠ row) : MapT w' g n f := by
  obtain ⟨D, h1, h2, h3⟩ := h.ex
  exact ⟨D, h1.kept hg hne, h2, h3⟩
theorem own_tightS {m : Nat} {D : DataW Unit} {R : Value → Option (DataW Unit × List MemPlace)} (h : w.ownsMap Tryd.prog 9 R g m D) : w.ownsMap Tryd.prog 9 R g (Maps.size D) D := by
  obtain ⟨es, clock, hb, F, hs, hD⟩ := h
  refine ⟨es, clock, hb, F, ?_, hD⟩
  rw [hD]
  simp [Maps.size, length_sorted]
theorem MapT.put (h : MapT w g n f) {x : ByteArray} (hx : x.size ≤ maxLen) {v : Int} (hv : -9223372036854775808 ≤ v ∧ v ≤ 9223372036854775807) (hn : n < maxLen) :
    ∃ w', (Instr.mapUpdate 76 (.map (some g)) (.string x) (.int .i64 v)).run Tryd.prog w = .ok () w' ∧ (∃ n', n' ≤ n + 1 ∧ MapT w' g n' (fun y => decide (y = x) || f y)) ∧ w.grownBy w' (some g) := by
  obtain ⟨D, h1, h2, h3⟩ := h.ex
  obtain ⟨w', hrun, hown, hgr⟩ := h1.update keyS Tryd.underlying76 hn (keyOfS hx) (plainElem_int Tryd.underlying3 (lit_wf hv))
  have hT := h1.tidy keyS
  have hM := h1.isMap
  have hsz := Maps.size_put (k := lS x) hT (.lit (.int .i64 v))
  refine ⟨w', hrun, ⟨_, ?_, D.put (lS x) (.lit (.int .i64 v)), own_tightS hown, rfl, fun y hy => ?_⟩, hgr⟩
  · rw [hsz, h2]
    split <;> omega
  · by_cases e : y = x
    · subst e
      rw [Maps.has_put_same hM (isKeyS y) _]
      simp
    · rw [Maps.has_put_other (lS_ne e) _, h3 y hy]
      simp [e]
theorem MapT.look (h : MapT w g n f) {x : ByteArray} (hx : x.size ≤ maxLen) :
    ∃ v, (Instr.lookup 76 (.map (some g)) (.string x) true).run Tryd.prog w = .ok (.tuple #[v, .bool (f x)]) w := by
  obtain ⟨D, h1, h2, h3⟩ := h.ex
  obtain ⟨v, ps, hrun, hv⟩ := h1.look_ok keyS Tryd.underlying76 (zeroI w) (plainElem_int Tryd.underlying3 (lit_wf (x := 0) (by decide))) (keyOfS hx)
  rw [h3 x hx] at hrun
  exact ⟨v, hrun⟩
end
end Go.Proofs.YtpbbemmjodegkaaDoor
