/-
  An argument that is a slice of structs, opened: rows of cells, all of one width.
-/
import Derived.Test.YtpbbemmjodegkaaGreatDoorRowR
import Derived.ProofKit
import Derived.OpenShut
import Derived.Lib.SmallJoins
import Derived.Deep.Slices
import Derived.Deep.Fields
set_option linter.unusedSimpArgs false
set_option linter.unusedVariables false
namespace Go.Proofs.YtpbbemmjodegkaaGreatDoor
open Go.Joins Go.ChangeShapes Go.WideShapes Go.ChangeAt Go.RowKit Go.Deep

theorem rows_of {α : Type} {P : Nat → α → Prop} : ∀ n : Nat, (∀ i, i < n → ∃ o, P i o) → ∃ cs : List α, cs.length = n ∧ ∀ i o, cs[i]? = some o → P i o := by
  intro n
  induction n with
  | zero => intro _; exact ⟨[], rfl, fun i o h => by simp at h⟩
  | succ n ih =>
    intro h
    obtain ⟨cs, h1, h2⟩ := ih (fun i hi => h i (by omega))
    obtain ⟨o, ho⟩ := h n (by omega)
    refine ⟨cs ++ [o], by simp [h1], fun i o' hi => ?_⟩
    rcases Nat.lt_or_ge i n with hlt | hge
    · rw [List.getElem?_append_left (by omega)] at hi
      exact h2 i o' hi
    · rw [List.getElem?_append_right (by omega)] at hi
      obtain rfl : i = n := by
        rcases Nat.lt_or_ge (i - cs.length) 1 with h' | h'
        · omega
        · rw [List.getElem?_eq_none (by simpa using h')] at hi; cases hi
      rw [h1, Nat.sub_self] at hi
      injection hi with hi
      exact hi ▸ ho

theorem lt_of_cell {w : World} {a : Addr} {v : Value} (h : w.cell? a = some v) : a.block < w.heap.size := by
  rcases Nat.lt_or_ge a.block w.heap.size with h' | h'
  · exact h'
  · simp [World.cell?, Array.getElem?_eq_none h'] at h

section
variable {H : Type} {enc : TypeId × Value → H} {W : World} {base : Nat} {spare : Nat → Bool} {held : Bool}

/-- The cells of a struct of one-cell fields. -/
theorem row_cells {P : Program} {fuel : Nat} {e : TypeId} {fs : Array Field} {cs : List Value} {x : DataW H × List MemPlace} (he : P.underlying e = some (.struct fs)) (hone : oneCellFields P fs = true) (hC : P.cellsOf e = fs.size)
    (h : DataW.trod enc P W base spare held fuel e cs = some x) : cs.length = fs.size ∧ ∀ (j : Nat) (f : Field), fs[j]? = some f → ∃ (v : Value) (y : DataW H × List MemPlace) (n : Nat), cs[j]? = some v ∧ DataW.trod enc P W base spare held n f.type [v] = some y := by
  obtain ⟨ys, n, _, _, hlen, hyl, hf⟩ := DataW.trod_struct he h
  refine ⟨hlen.trans hC, fun j f hj => ?_⟩
  have hjl : j < fs.size := (Array.getElem?_eq_some_iff.1 hj).1
  have hcl : j < cs.length := by omega
  obtain ⟨ho, hk⟩ := hone_of hone j f hj
  have h1 := hf j f hj
  rw [ho, hk, List.drop_eq_getElem_cons hcl] at h1
  refine ⟨cs[j], ys[j]'(by omega), n, List.getElem?_eq_getElem hcl, ?_⟩
  rw [List.getElem?_eq_getElem (by omega)] at h1
  exact h1

/-- One field of a struct, whatever its width: the cells that it has. -/
theorem field_cells {P : Program} {fuel : Nat} {e : TypeId} {fs : Array Field} {cs : List Value} {x : DataW H × List MemPlace} (he : P.underlying e = some (.struct fs))
    (h : DataW.trod enc P W base spare held fuel e cs = some x) : cs.length = P.cellsOf e ∧ ∀ (j o k : Nat) (t : TypeId), (∃ f, fs[j]? = some f ∧ f.offset = o ∧ f.type = t) → P.cellsOf t = k → ∃ (y : DataW H × List MemPlace) (n : Nat), DataW.trod enc P W base spare held n t ((cs.drop o).take k) = some y := by
  obtain ⟨ys, n, _, _, hlen, hyl, hf⟩ := DataW.trod_struct he h
  refine ⟨hlen, fun j o k t ⟨f, hj, ho, ht⟩ hk => ?_⟩
  subst ho ht hk
  have hjl : j < fs.size := (Array.getElem?_eq_some_iff.1 hj).1
  have h1 := hf j f hj
  rw [List.getElem?_eq_getElem (by omega)] at h1
  exact ⟨_, n, h1⟩

/-- A slice whose elements are read by 'dec'. -/
theorem open_rows {P : Program} {t e : TypeId} {k : Nat} {α : Type} (cells : α → List Value) (Good : α → Prop) (ht : P.underlying t = some (.slice e)) (hk : P.cellsOf e = k) (hk0 : 0 < k) (hl : ∀ r, (cells r).length = k)
    (dec : ∀ fuel cs (x : DataW H × List MemPlace), DataW.trod enc P W base spare held fuel e cs = some x → ∃ r : α, cs = cells r ∧ Good r)
    {fuel : Nat} {cs : List Value} {x : DataW H × List MemPlace} (h : DataW.trod enc P W base spare held fuel t cs = some x) :
    ∃ (a : Option Addr) (len cap : Nat) (l : List α), cs = [.slice a len cap] ∧ RowR W k a len (l.map cells) ∧ (∀ r ∈ l, Good r) ∧ len ≤ cap ∧ (a = none → cap = 0) ∧ cap ≤ maxLen := by
  rcases open_slice ht h with ⟨hcs, _⟩ | ⟨b, l, c, m, n, D, Pl, hcs, _, hlc, hm, hmm, _, hi⟩
  · exact ⟨none, 0, 0, [], hcs, RowR.nil _ _, (fun _ h => by cases h), Nat.le_refl _, fun _ => rfl, Nat.zero_le _⟩
  · have hlm : l ≤ m := by rw [hmm]; split <;> omega
    have hall : ∀ i, i < l → ∃ r : α, (∀ j u, (cells r)[j]? = some u → W.cell? (b.add (i * k + j)) = some u) ∧ Good r := by
      intro i hil
      obtain ⟨cs', hc, htr⟩ := hi i (by omega)
      rw [hk] at hc
      obtain ⟨r, hr, hg⟩ := dec _ _ _ htr
      obtain ⟨_, hcl, hat⟩ := World.cells?_some hc
      refine ⟨r, fun j u hu => ?_, hg⟩
      have hjk : j < k := by
        rcases Nat.lt_or_ge j k with h' | h'
        · exact h'
        · rw [List.getElem?_eq_none (by rw [hl]; exact h')] at hu; cases hu
      have := hat j hjk
      rw [add_of_add] at this
      rw [this, hr]
      exact hu
    obtain ⟨rs, h1, h2⟩ := rows_of l hall
    refine ⟨some b, l, c, rs, hcs, ⟨⟨?_, fun hn => ⟨b, rfl, ?_, fun j u hu => ?_⟩⟩, ?_, by rw [List.length_map, h1]⟩, fun r hr => ?_, hlc, (fun h => by cases h), hm⟩
    · rw [List.length_flatten, List.map_map]
      have : (rs.map (List.length ∘ cells)) = List.replicate rs.length k := by
        rw [List.eq_replicate_iff]
        refine ⟨by simp, fun q hq => ?_⟩
        obtain ⟨r, _, rfl⟩ := List.mem_map.1 hq
        exact hl r
      rw [this, List.sum_replicate_nat, h1]
    · have h0 : rs[0]? = some (rs[0]'(by omega)) := List.getElem?_eq_getElem (by omega)
      have hc0 : (cells (rs[0]'(by omega)))[0]? = some ((cells (rs[0]'(by omega)))[0]'(by rw [hl]; exact hk0)) := List.getElem?_eq_getElem _
      have := (h2 0 _ h0).1 0 _ hc0
      have := lt_of_cell this
      rwa [block_of_add] at this
    · have hsum : ((rs.map cells).flatten).length = l * k := by
        rw [List.length_flatten, List.map_map]
        have : (rs.map (List.length ∘ cells)) = List.replicate rs.length k := by
          rw [List.eq_replicate_iff]
          refine ⟨by simp, fun q hq => ?_⟩
          obtain ⟨r, _, rfl⟩ := List.mem_map.1 hq
          exact hl r
        rw [this, List.sum_replicate_nat, h1]
      have hj : j < l * k := by
        rcases Nat.lt_or_ge j (l * k) with h' | h'
        · exact h'
        · rw [List.getElem?_eq_none (by rw [hsum]; exact h')] at hu; cases hu
      have hjk : j / k < l := Nat.div_lt_of_lt_mul (by rw [Nat.mul_comm]; exact hj)
      have hg : rs[j / k]? = some (rs[j / k]'(by omega)) := List.getElem?_eq_getElem (by omega)
      have hx := flatten_at (size := k) (rs.map cells) (fun r hr => by obtain ⟨q, _, rfl⟩ := List.mem_map.1 hr; exact hl q) (j / k) _ (by rw [List.getElem?_map, hg]; rfl) (j % k) (Nat.mod_lt _ hk0)
      have hjj : j / k * k + j % k = j := by rw [Nat.mul_comm]; exact Nat.div_add_mod j k
      rw [hjj, hu] at hx
      have := (h2 _ _ hg).1 (j % k) u hx.symm
      rwa [hjj] at this
    · intro r hr
      obtain ⟨q, _, rfl⟩ := List.mem_map.1 hr
      exact hl q
    · obtain ⟨i, hi1, hi2⟩ := List.getElem_of_mem hr
      exact (h2 i r (by rw [List.getElem?_eq_getElem hi1, hi2])).2
end
end Go.Proofs.YtpbbemmjodegkaaGreatDoor
