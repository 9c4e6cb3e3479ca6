/-
  Texts: Top, OpenRows.
-/
import Derived.Test.YtagpphelgghbpaaTk36
import Derived.Test.YtagpphelgghbpaaTk3
import Derived.ProofKit
import Derived.OpenShut
import Derived.Lib.SmallJoins
import Derived.Deep.Slices
import Derived.Deep.Fields
/-
  zeitnottop.TopPublic: the walk.
-/
set_option linter.unusedSimpArgs false
set_option linter.unusedVariables false
namespace Go.Proofs.Ytagpphelgghbpaa
open Go.RowKit

set_option maxRecDepth 100000 in
set_option maxHeartbeats 6400000 in
theorem top_any (b : Bd) (m : BdM) (w : World) (hR : BdR w b m) (hz : b.plc.length < 9223372036854775807) : Calls Try.prog 3 #[.agg (b.cells m).toArray] w fun e w' => e = .returned (.bool true) ∧ Below w.heap.size w w' := by
  obtain ⟨w1, hw1⟩ : ∃ w1, w.alloc (.cells (b.cells m).toArray 33) = w1 := ⟨_, rfl⟩
  have hb1 : Below w.heap.size w w1 := by rw [← hw1]; exact (Below.refl _ _).alloc (Nat.le_refl _) _
  have hx1 : Blk w1 w.heap.size 33 (b.cells m).toArray := by rw [← hw1]; exact Blk.mk_ w _ _ _ rfl
  have HB1 := Lib.hid hb1
  have HX1 := Lib.hid hx1
  have HR1 := Lib.hid (hR.below hb1)
  have HZ := Lib.hid hz
  obtain ⟨⟨OA, Oc⟩, hO⟩ : ∃ s, m.O = s := ⟨_, rfl⟩
  obtain ⟨no, hno⟩ : ∃ n, b.objs.length = n := ⟨_, rfl⟩
  have c0 : w1.cell? ⟨w.heap.size, 0, none⟩ = some (.slice OA no Oc) := (hx1.at_ 0).trans (by show some (m.O.v b.objs.length) = _; rw [hO, hno]; rfl)
  have HLD := Lib.hid (board_load hx1)
  obtain ⟨cs, hcs⟩ : ∃ cs, (b.cells m).toArray = cs := ⟨_, rfl⟩
  have HVL : Hid (Calls Try.prog 4 #[.agg cs] w1 (BoolEnd b.Valid w1)) := Lib.hid (by rw [← hcs]; exact valid_any b m w1 HR1.out hz)
  have HPU : Hid (b.Valid → ∀ W, Below w1.heap.size w1 W → Calls Try.prog 6 #[.agg cs] W fun e w' => e = .returned (.bool true) ∧ Below W.heap.size W w') := Lib.hid (fun hv W hb => by rw [← hcs]; exact public_any b m W (HR1.out.below hb) hz hv)
  have HLA : Hid (∀ W, Below w1.heap.size w1 W → (Instr.loadAt 33 (.pointer (some ⟨w.heap.size, 0, none⟩))).run Try.prog W = .ok (.agg cs) W) := Lib.hid (fun W hb => by rw [← hcs]; exact board_load (HX1.out.call hb))
  rw [hcs] at hw1 ⊢
  clear hR hz hb1 hx1 hO hno hcs
  by_cases h100 : (100 : Int) < no
  · go_enter Try.func3, Try.ntmps3
    go_wp2_with (first
      | (go_at_call 5; refine (hand_any w1).mono ?_; rintro e w9 ⟨rfl, hb9⟩; have HE := Lib.hid (below_call HB1.out hb9 HB1.out.size); clear hb9)
      | fail)
    go_ret
    exact ⟨rfl, HE.out⟩
  · by_cases hv : b.Valid
    · have HV := Lib.hid hv
      have HVY : Hid (Calls Try.prog 4 #[.agg cs] w1 fun e w' => e = .returned (.bool true) ∧ Below w1.heap.size w1 w') := Lib.hid (HVL.out.mono fun e w' h => h.yes hv)
      clear hv
      go_enter Try.func3, Try.ntmps3
      go_wp2_with (first
        | (refine wpList_load_by (HLA.out w1 (Below.refl _ _)) rfl rfl rfl ?_; simp only [Act.put, List.setIfInBounds_toArray, List.set_cons_succ, List.set_cons_zero])
        | (go_at_call 4; refine HVY.out.mono ?_; rintro e w2 ⟨rfl, hb2⟩; have HB2 := Lib.hid hb2; have HBW2 := Lib.hid (below_call HB1.out hb2 HB1.out.size); clear hb2)
        | (refine wpList_load_by (HLA.out w2 HB2.out) rfl rfl rfl ?_; simp only [Act.put, List.setIfInBounds_toArray, List.set_cons_succ, List.set_cons_zero])
        | (go_at_call 6; refine (HPU.out HV.out w2 HB2.out).mono ?_; rintro e w3 ⟨rfl, hb3⟩; have HB3 := Lib.hid (below_call HBW2.out hb3 HBW2.out.size); clear hb3)
        | (go_at_call 5; refine (hand_any w3).mono ?_; rintro e w9 ⟨rfl, hb9⟩; have HE := Lib.hid (below_call HB3.out hb9 HB3.out.size); clear hb9)
        | fail)
      go_ret
      exact ⟨rfl, HE.out⟩
    · have HVN : Hid (Calls Try.prog 4 #[.agg cs] w1 fun e w' => e = .returned (.bool false) ∧ Below w1.heap.size w1 w') := Lib.hid (HVL.out.mono fun e w' h => by
        obtain ⟨v, rfl, hvv, hb⟩ := h
        cases v
        · exact ⟨rfl, hb⟩
        · exact absurd (hvv.1 rfl) hv)
      clear hv
      go_enter Try.func3, Try.ntmps3
      go_wp2_with (first
        | (refine wpList_load_by (HLA.out w1 (Below.refl _ _)) rfl rfl rfl ?_; simp only [Act.put, List.setIfInBounds_toArray, List.set_cons_succ, List.set_cons_zero])
        | (go_at_call 4; refine HVN.out.mono ?_; rintro e w2 ⟨rfl, hb2⟩; have HBW2 := Lib.hid (below_call HB1.out hb2 HB1.out.size); clear hb2)
        | (go_at_call 5; refine (hand_any w2).mono ?_; rintro e w9 ⟨rfl, hb9⟩; have HE := Lib.hid (below_call HBW2.out hb9 HBW2.out.size); clear hb9)
        | fail)
      go_ret
      exact ⟨rfl, HE.out⟩
end Go.Proofs.Ytagpphelgghbpaa

/-
  An argument that is a slice of structs, opened: rows of cells, all of one width.
-/
set_option linter.unusedSimpArgs false
set_option linter.unusedVariables false
namespace Go.Proofs.Ytagpphelgghbpaa
open Go.Joins Go.ChangeShapes Go.WideShapes Go.ChangeAt Go.RowKit Go.Deep

theorem rows_of {α : Type} {P : Nat → α → Prop} : ∀ n : Nat, (∀ i, i < n → ∃ o, P i o) → ∃ cs : List α, cs.length = n ∧ ∀ i o, cs[i]? = some o → P i o := by
  intro n
  induction n with
  | zero => intro _; exact ⟨[], rfl, fun i o h => by simp at h⟩
  | succ n ih =>
    intro h
    obtain ⟨cs, h1, h2⟩ := ih (fun i hi => h i (by omega))
    obtain ⟨o, ho⟩ := h n (by omega)
    refine ⟨cs ++ [o], by simp [h1], fun i o' hi => ?_⟩
    rcases Nat.lt_or_ge i n with hlt | hge
    · rw [List.getElem?_append_left (by omega)] at hi
      exact h2 i o' hi
    · rw [List.getElem?_append_right (by omega)] at hi
      obtain rfl : i = n := by
        rcases Nat.lt_or_ge (i - cs.length) 1 with h' | h'
        · omega
        · rw [List.getElem?_eq_none (by simpa using h')] at hi; cases hi
      rw [h1, Nat.sub_self] at hi
      injection hi with hi
      exact hi ▸ ho

theorem lt_of_cell {w : World} {a : Addr} {v : Value} (h : w.cell? a = some v) : a.block < w.heap.size := by
  rcases Nat.lt_or_ge a.block w.heap.size with h' | h'
  · exact h'
  · simp [World.cell?, Array.getElem?_eq_none h'] at h

section
variable {H : Type} {enc : TypeId × Value → H} {W : World} {base : Nat} {spare : Nat → Bool} {held : Bool}

/-- The cells of a struct of one-cell fields. -/
theorem row_cells {P : Program} {fuel : Nat} {e : TypeId} {fs : Array Field} {cs : List Value} {x : DataW H × List MemPlace} (he : P.underlying e = some (.struct fs)) (hone : oneCellFields P fs = true) (hC : P.cellsOf e = fs.size)
    (h : DataW.trod enc P W base spare held fuel e cs = some x) : cs.length = fs.size ∧ ∀ (j : Nat) (f : Field), fs[j]? = some f → ∃ (v : Value) (y : DataW H × List MemPlace) (n : Nat), cs[j]? = some v ∧ DataW.trod enc P W base spare held n f.type [v] = some y := by
  obtain ⟨ys, n, _, _, hlen, hyl, hf⟩ := DataW.trod_struct he h
  refine ⟨hlen.trans hC, fun j f hj => ?_⟩
  have hjl : j < fs.size := (Array.getElem?_eq_some_iff.1 hj).1
  have hcl : j < cs.length := by omega
  obtain ⟨ho, hk⟩ := hone_of hone j f hj
  have h1 := hf j f hj
  rw [ho, hk, List.drop_eq_getElem_cons hcl] at h1
  refine ⟨cs[j], ys[j]'(by omega), n, List.getElem?_eq_getElem hcl, ?_⟩
  rw [List.getElem?_eq_getElem (by omega)] at h1
  exact h1

/-- One field of a struct, whatever its width: the cells that it has. -/
theorem field_cells {P : Program} {fuel : Nat} {e : TypeId} {fs : Array Field} {cs : List Value} {x : DataW H × List MemPlace} (he : P.underlying e = some (.struct fs))
    (h : DataW.trod enc P W base spare held fuel e cs = some x) : cs.length = P.cellsOf e ∧ ∀ (j o k : Nat) (t : TypeId), (∃ f, fs[j]? = some f ∧ f.offset = o ∧ f.type = t) → P.cellsOf t = k → ∃ (y : DataW H × List MemPlace) (n : Nat), DataW.trod enc P W base spare held n t ((cs.drop o).take k) = some y := by
  obtain ⟨ys, n, _, _, hlen, hyl, hf⟩ := DataW.trod_struct he h
  refine ⟨hlen, fun j o k t ⟨f, hj, ho, ht⟩ hk => ?_⟩
  subst ho ht hk
  have hjl : j < fs.size := (Array.getElem?_eq_some_iff.1 hj).1
  have h1 := hf j f hj
  rw [List.getElem?_eq_getElem (by omega)] at h1
  exact ⟨_, n, h1⟩

/-- A slice whose elements are read by 'dec'. -/
theorem open_rows {P : Program} {t e : TypeId} {k : Nat} {α : Type} (cells : α → List Value) (Good : α → Prop) (ht : P.underlying t = some (.slice e)) (hk : P.cellsOf e = k) (hk0 : 0 < k) (hl : ∀ r, (cells r).length = k)
    (dec : ∀ fuel cs (x : DataW H × List MemPlace), DataW.trod enc P W base spare held fuel e cs = some x → ∃ r : α, cs = cells r ∧ Good r)
    {fuel : Nat} {cs : List Value} {x : DataW H × List MemPlace} (h : DataW.trod enc P W base spare held fuel t cs = some x) :
    ∃ (a : Option Addr) (len cap : Nat) (l : List α), cs = [.slice a len cap] ∧ RowR W k a len (l.map cells) ∧ (∀ r ∈ l, Good r) ∧ len ≤ cap ∧ (a = none → cap = 0) ∧ cap ≤ maxLen := by
  rcases open_slice ht h with ⟨hcs, _⟩ | ⟨b, l, c, m, n, D, Pl, hcs, _, hlc, hm, hmm, _, hi⟩
  · exact ⟨none, 0, 0, [], hcs, RowR.nil _ _, (fun _ h => by cases h), Nat.le_refl _, fun _ => rfl, Nat.zero_le _⟩
  · have hlm : l ≤ m := by rw [hmm]; split <;> omega
    have hall : ∀ i, i < l → ∃ r : α, (∀ j u, (cells r)[j]? = some u → W.cell? (b.add (i * k + j)) = some u) ∧ Good r := by
      intro i hil
      obtain ⟨cs', hc, htr⟩ := hi i (by omega)
      rw [hk] at hc
      obtain ⟨r, hr, hg⟩ := dec _ _ _ htr
      obtain ⟨_, hcl, hat⟩ := World.cells?_some hc
      refine ⟨r, fun j u hu => ?_, hg⟩
      have hjk : j < k := by
        rcases Nat.lt_or_ge j k with h' | h'
        · exact h'
        · rw [List.getElem?_eq_none (by rw [hl]; exact h')] at hu; cases hu
      have := hat j hjk
      rw [add_of_add] at this
      rw [this, hr]
      exact hu
    obtain ⟨rs, h1, h2⟩ := rows_of l hall
    refine ⟨some b, l, c, rs, hcs, ⟨⟨?_, fun hn => ⟨b, rfl, ?_, fun j u hu => ?_⟩⟩, ?_, by rw [List.length_map, h1]⟩, fun r hr => ?_, hlc, (fun h => by cases h), hm⟩
    · rw [List.length_flatten, List.map_map]
      have : (rs.map (List.length ∘ cells)) = List.replicate rs.length k := by
        rw [List.eq_replicate_iff]
        refine ⟨by simp, fun q hq => ?_⟩
        obtain ⟨r, _, rfl⟩ := List.mem_map.1 hq
        exact hl r
      rw [this, List.sum_replicate_nat, h1]
    · have h0 : rs[0]? = some (rs[0]'(by omega)) := List.getElem?_eq_getElem (by omega)
      have hc0 : (cells (rs[0]'(by omega)))[0]? = some ((cells (rs[0]'(by omega)))[0]'(by rw [hl]; exact hk0)) := List.getElem?_eq_getElem _
      have := (h2 0 _ h0).1 0 _ hc0
      have := lt_of_cell this
      rwa [block_of_add] at this
    · have hsum : ((rs.map cells).flatten).length = l * k := by
        rw [List.length_flatten, List.map_map]
        have : (rs.map (List.length ∘ cells)) = List.replicate rs.length k := by
          rw [List.eq_replicate_iff]
          refine ⟨by simp, fun q hq => ?_⟩
          obtain ⟨r, _, rfl⟩ := List.mem_map.1 hq
          exact hl r
        rw [this, List.sum_replicate_nat, h1]
      have hj : j < l * k := by
        rcases Nat.lt_or_ge j (l * k) with h' | h'
        · exact h'
        · rw [List.getElem?_eq_none (by rw [hsum]; exact h')] at hu; cases hu
      have hjk : j / k < l := Nat.div_lt_of_lt_mul (by rw [Nat.mul_comm]; exact hj)
      have hg : rs[j / k]? = some (rs[j / k]'(by omega)) := List.getElem?_eq_getElem (by omega)
      have hx := flatten_at (size := k) (rs.map cells) (fun r hr => by obtain ⟨q, _, rfl⟩ := List.mem_map.1 hr; exact hl q) (j / k) _ (by rw [List.getElem?_map, hg]; rfl) (j % k) (Nat.mod_lt _ hk0)
      have hjj : j / k * k + j % k = j := by rw [Nat.mul_comm]; exact Nat.div_add_mod j k
      rw [hjj, hu] at hx
      have := (h2 _ _ hg).1 (j % k) u hx.symm
      rwa [hjj] at this
    · intro r hr
      obtain ⟨q, _, rfl⟩ := List.mem_map.1 hr
      exact hl q
    · obtain ⟨i, hi1, hi2⟩ := List.getElem_of_mem hr
      exact (h2 i r (by rw [List.getElem?_eq_getElem hi1, hi2])).2
end
end Go.Proofs.Ytagpphelgghbpaa
