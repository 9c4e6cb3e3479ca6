/-
  The library's sort over a slice of the call's own.
-/
import Derived.Test.YtekbjlihpmjlfaaCmp
import Derived.Test.YtekbjlihpmjlfaaRowR
set_option linter.unusedSimpArgs false
set_option linter.unusedVariables false
set_option linter.unusedSectionVars false
namespace Go.Proofs.Ytekbjlihpmjlfaa
open Go.Shelf Go.Lib Go.Sort Go.RowKit

section
variable {α : Type} [Inhabited α] {enc : α → List Value} {k : Nat}
theorem flatMap_len (hk : ∀ x, (enc x).length = k) : ∀ l : List α, (l.flatMap enc).length = l.length * k
  | [] => by simp
  | x :: l => by rw [List.flatMap_cons, List.length_append, hk, flatMap_len hk l, List.length_cons, Nat.add_mul, Nat.one_mul]; omega
theorem flatMap_at (hk : ∀ x, (enc x).length = k) {l : List α} {i : Nat} {x : α} (h : l[i]? = some x) {j : Nat} (hj : j < k) : (l.flatMap enc)[i * k + j]? = (enc x)[j]? := by
  have := flatten_at (size := k) (l.map enc) (fun r hr => by obtain ⟨q, _, rfl⟩ := List.mem_map.1 hr; exact hk q) i (enc x) (by rw [List.getElem?_map, h]; rfl) j hj
  rwa [← List.flatMap_def] at this
theorem flatK_list (hk : ∀ x, (enc x).length = k) (hk0 : 0 < k) (l : List α) : (flatK enc k l.toArray).toList = l.flatMap enc := by
  refine List.ext_getElem? fun t => ?_
  rcases Nat.lt_or_ge t (l.length * k) with ht | ht
  · have hi : t / k < l.length := Nat.div_lt_of_lt_mul (by rw [Nat.mul_comm]; exact ht)
    have hj := Nat.mod_lt t hk0
    have e : t / k * k + t % k = t := by rw [Nat.mul_comm]; exact Nat.div_add_mod t k
    have h2 := flatMap_at hk (List.getElem?_eq_getElem hi) hj
    rw [e] at h2
    rw [h2]
    simp only [flatK, Array.toList_map, Array.toList_range, List.getElem?_map, List.size_toArray]
    rw [List.getElem?_range ht]
    simp only [Option.map_some]
    rw [show l.toArray[t / k]! = l[t / k] by rw [getElem!_pos _ _ (by simpa using hi)]; simp]
    have hl := hk l[t / k]
    rw [getElem!_pos _ _ (by rw [hl]; exact hj), List.getElem?_eq_getElem (by rw [hl]; exact hj)]
  · rw [List.getElem?_eq_none (by rw [Array.length_toList, size_flatK]; simpa using ht), List.getElem?_eq_none (by rw [flatMap_len hk]; exact ht)]
theorem holds_own (hk : ∀ x, (enc x).length = k) (hk0 : 0 < k) {w : World} {B g n c : Nat} {e : TypeId} {l : List α} (h : XOwns w B e k (some ⟨g, 0, none⟩) n c (l.flatMap enc)) : HoldsK enc k w g 0 l.toArray := by
  intro j hj
  have hf := flatK_list hk hk0 l
  have hg : (l.flatMap enc)[j]? = some ((flatK enc k l.toArray)[j]!) := by rw [← hf, Array.getElem?_toList, getElem!_pos _ j hj]; simp [hj]
  obtain ⟨g', hg', _, _, h1, h2⟩ := h.cell hg
  injection hg' with hg'
  injection hg' with hg'
  subst hg'
  rw [Nat.zero_add]
  exact ⟨h1, h2⟩
theorem grownBy_sort {w : World} {g m : Nat} {os : Array Obj} (d : Array α) : w.grownBy (sortWorldK enc k w g 0 m d os) (some g) := by
  refine ⟨rfl, rfl, rfl, by simp [sortWorldK, putRowK], fun j hj hne => ?_⟩
  unfold sortWorldK putRowK
  rw [heap_grow_old _ _ (by simpa using hj)]
  have : g ≠ j := fun e => hne (by rw [e])
  simp [putRow, mapBlock, Sort.ahead, Array.getElem?_modify, this]
theorem own_sort (hk : ∀ x, (enc x).length = k) (hk0 : 0 < k) {w : World} {B g n c m : Nat} {e : TypeId} {os : Array Obj} {l l' : List α} (h : XOwns w B e k (some ⟨g, 0, none⟩) n c (l.flatMap enc)) (hl : l'.length = n) (hn : 0 < n) : XOwns (sortWorldK enc k w g 0 m l'.toArray os) B e k (some ⟨g, 0, none⟩) n c (l'.flatMap enc) := by
  refine ⟨⟨by rw [flatMap_len hk, hl], ?_⟩, h.2⟩
  rcases h.1.2 with ⟨h0, _⟩ | ⟨g', c', cur, h1, h2, h3, h4, h5, h6, h7⟩
  · cases h0
  · injection h1 with h1 h1a h1b
    injection h1 with h1
    injection h1 with h1
    subst h1 h1b
    refine .inr ⟨g, c, putCells id 0 (flatK enc k l'.toArray) cur, rfl, h2, ?_, h4, h5, by simp [putCells, h6], ?_⟩
    · have hg : g < w.heap.size := (Array.getElem?_eq_some_iff.1 h3).1
      unfold sortWorldK putRowK
      rw [heap_grow_old _ _ (by simpa using hg)]
      simp [putRow, mapBlock, Sort.ahead, Array.getElem?_modify, h3, onCells]
    · have hf := flatK_list hk hk0 l'
      have hsz : (flatK enc k l'.toArray).size = n * k := by rw [size_flatK]; simp [hl]
      have hnc : n * k ≤ cur.size := by rw [h6]; exact Nat.mul_le_mul_right k h4
      rw [← hf]
      refine List.ext_getElem? fun j => ?_
      rcases Nat.lt_or_ge j (n * k) with hj | hj
      · rw [List.getElem?_take_of_lt hj, Array.getElem?_toList, Array.getElem?_toList]
        have hj2 : j < (flatK enc k l'.toArray).size := by omega
        simp only [putCells, Array.getElem?_mapIdx, Array.getElem?_eq_getElem (show j < cur.size by omega), Option.map_some, Nat.sub_zero, Nat.zero_le, true_and, Nat.zero_add, id]
        rw [if_pos hj2, Array.getElem?_eq_getElem hj2, getElem!_pos _ j hj2]
      · rw [List.getElem?_take_eq_none (by omega), Array.getElem?_toList, Array.getElem?_eq_none (by omega)]
end
theorem Try.agg33 (w : World) : (isAgg 33).run Try.prog w = .ok true w := Try.isAgg33 w
set_option maxHeartbeats 1000000 in
theorem sortrows_any (B g n c : Nat) (l : List Rw) (w : World) (h : XOwns w B 33 6 (some ⟨g, 0, none⟩) n c (rcells l)) (hl : l.length = n) (hn : 0 < n ∧ n ≤ 1000) :
    Calls Try.prog 25 #[.slice (some ⟨g, 0, none⟩) n c, .func (.func 26) #[] #[]] w fun e w' => e = .returned (.tuple #[]) ∧ ∃ l' : List Rw, PermIn 0 l.toArray.size l.toArray l'.toArray ∧ SortedIn (ltOf cmpR) 0 l.toArray.size l'.toArray ∧ XOwns w' B 33 6 (some ⟨g, 0, none⟩) n c (rcells l') ∧ w.grownBy w' (some g) := by
  have eg : ∀ args w, (callFunc 26 args).run Try.prog w = .ok (.enter 26 args) w := enters_of Try.func26 (by kernel_rfl) rfl
  have hcon := AnyQ.slices_SortFunc sortRow 6 Try.isAgg33 Try.sizeOf33 Rw.cells (fun _ => rfl) (fun x v hv => by simp [Rw.cells] at hv; rcases hv with rfl | rfl | rfl | rfl | rfl | rfl <;> rfl) cmpR cmpR_swo 26 #[] g 0 c l.toArray w eg (row_lays g 0 l.toArray.size w) (holds_own (enc := Rw.cells) (fun _ => rfl) (by decide) h) (h.lt g rfl).2 (by simp; omega)
  change Calls Try.prog 25 _ _ _ at hcon
  rw [show l.toArray.size = n by simpa using hl] at hcon
  refine hcon.mono fun e w' ⟨he, d', m, os, hp, hs, hw⟩ => ⟨he, d'.toList, ?_⟩
  subst hw
  have hd : d'.toList.length = n := by rw [Array.length_toList, hp.1]; simpa using hl
  rw [show l.toArray.size = n by simpa using hl]
  have := own_sort (enc := Rw.cells) (m := m) (os := os) (fun _ => rfl) (by decide) h hd hn.1
  exact ⟨by simpa using hp, by simpa using hs, by simpa [rcells] using this, by simpa using grownBy_sort (enc := Rw.cells) (k := 6) (w := w) (g := g) (m := m) (os := os) d'⟩
set_option maxHeartbeats 1000000 in
theorem sortduels_any (B g n c : Nat) (l : List D) (w : World) (h : XOwns w B 57 2 (some ⟨g, 0, none⟩) n c (dcells l)) (hl : l.length = n) (hn : 0 < n ∧ n ≤ 1000) :
    Calls Try.prog 32 #[.slice (some ⟨g, 0, none⟩) n c, .func (.func 33) #[] #[]] w fun e w' => e = .returned (.tuple #[]) ∧ ∃ l' : List D, PermIn 0 l.toArray.size l.toArray l'.toArray ∧ SortedIn (ltOf cmpD) 0 l.toArray.size l'.toArray ∧ XOwns w' B 57 2 (some ⟨g, 0, none⟩) n c (dcells l') ∧ w.grownBy w' (some g) := by
  have eg : ∀ args w, (callFunc 33 args).run Try.prog w = .ok (.enter 33 args) w := enters_of Try.func33 (by kernel_rfl) rfl
  have hcon := AnyQ.slices_SortFunc sortDuel 2 Try.isAgg57 Try.sizeOf57 D.cells (fun _ => rfl) (fun x v hv => by simp [D.cells] at hv; rcases hv with rfl | rfl <;> rfl) cmpD cmpD_swo 33 #[] g 0 c l.toArray w eg (duel_lays g 0 l.toArray.size w) (holds_own (enc := D.cells) (fun _ => rfl) (by decide) h) (h.lt g rfl).2 (by simp; omega)
  change Calls Try.prog 32 _ _ _ at hcon
  rw [show l.toArray.size = n by simpa using hl] at hcon
  refine hcon.mono fun e w' ⟨he, d', m, os, hp, hs, hw⟩ => ⟨he, d'.toList, ?_⟩
  subst hw
  have hd : d'.toList.length = n := by rw [Array.length_toList, hp.1]; simpa using hl
  rw [show l.toArray.size = n by simpa using hl]
  have := own_sort (enc := D.cells) (m := m) (os := os) (fun _ => rfl) (by decide) h hd hn.1
  exact ⟨by simpa using hp, by simpa using hs, by simpa [dcells] using this, by simpa using grownBy_sort (enc := D.cells) (k := 2) (w := w) (g := g) (m := m) (os := os) d'⟩
end Go.Proofs.Ytekbjlihpmjlfaa
