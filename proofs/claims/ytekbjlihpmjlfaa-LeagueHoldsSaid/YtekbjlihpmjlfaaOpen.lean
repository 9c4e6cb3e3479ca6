/-
  The arguments of the statements, opened: a slice of bytes.
-/
import Derived.Test.YtekbjlihpmjlfaaMem
import Derived.ProofKit
import Derived.OpenShut
import Derived.Lib.SmallJoins
namespace Go.Proofs.Ytekbjlihpmjlfaa
open Go.Joins Go.ChangeShapes Go.WideShapes Go.ChangeAt Go.RowKit

section
variable {H : Type} {enc : TypeId × Value → H} {W : World} {base : Nat} {spare : Nat → Bool} {held : Bool}

theorem wf_byte {x : Int} (h : (Lit.int .u8 x).wf = true) : 0 ≤ x ∧ x ≤ 255 := by
  simpa [Lit.wf, IntKind.min, IntKind.max, IntKind.signed, IntKind.bits] using h

theorem cell_lt {w : World} {a : Addr} {v : Value} (h : w.cell? a = some v) : a.block < w.heap.size := by
  rcases Nat.lt_or_ge a.block w.heap.size with h' | h'
  · exact h'
  · simp [World.cell?, Array.getElem?_eq_none h'] at h

theorem open_bytes_cells {fuel : Nat} {cs : List Value} {x : DataW H × List MemPlace} (hf : DataW.trod enc Try.prog W base spare held fuel 53 cs = some x) :
    ∃ (a : Option Addr) (len cap : Nat) (xs : List Int), cs = [.slice a len cap] ∧ BReads W a len xs ∧ len ≤ cap ∧ (a = none → cap = 0) ∧ cap ≤ maxLen := by
  rcases open_ints Try.underlying53 Try.underlying5 (by kernel_rfl) hf with ⟨hcs, _⟩ | ⟨b, l, c, zs, hcs, _, hl, hm, hz, hx, hcell, hwz⟩
  · exact ⟨none, 0, 0, [], hcs, ⟨Reads.none_, fun _ h => by cases h⟩, Nat.le_refl _, fun _ => rfl, Nat.zero_le _⟩
  · have hzl : l ≤ zs.length := by rw [hz]; split <;> omega
    have hlen : (zs.take l).length = l := by rw [List.length_take]; omega
    refine ⟨some b, l, c, zs.take l, hcs, ⟨⟨by simp only [bys, List.length_map]; omega, fun hl0 => ⟨b, rfl, ?_, fun j u hu => ?_⟩⟩, fun y hy => wf_byte (hwz y (List.mem_of_mem_take hy))⟩, hl, (fun h => by cases h), hm⟩
    · have := cell_lt (hcell 0 (by omega))
      rwa [block_of_add] at this
    · have hjl : j < l := by
        rcases Nat.lt_or_ge j (bys (zs.take l)).length with h | h
        · simp only [bys, List.length_map] at h; omega
        · rw [List.getElem?_eq_none h] at hu; cases hu
      rw [hcell j (by omega)]
      rw [bys, List.getElem?_map, List.getElem?_take_of_lt hjl, List.getElem?_eq_getElem (show j < zs.length by omega)] at hu
      simp only [Option.map_some] at hu
      rw [← hu]
      simp [List.getD, List.getElem?_eq_getElem (show j < zs.length by omega)]

theorem open_bytes {a : Option Addr} {len cap : Nat} {d : DataW H} {p : List MemPlace} (h : DataW.Trod enc Try.prog W base spare held 53 (.slice a len cap) d p) :
    ∃ xs : List Int, BReads W a len xs ∧ len ≤ cap ∧ (a = none → cap = 0) ∧ cap ≤ maxLen := by
  obtain ⟨fuel, hf⟩ := h
  obtain ⟨a', l', c', xs, hcs, h1, h2, h3, h4⟩ := open_bytes_cells hf
  simp [Value.cells] at hcs
  obtain ⟨rfl, rfl, rfl⟩ := hcs
  exact ⟨xs, h1, h2, h3, h4⟩

end
end Go.Proofs.Ytekbjlihpmjlfaa
