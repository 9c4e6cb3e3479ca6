/-
  Texts: Shf, Shp, Mxq, Lay.
-/
import Derived.Test.YtagpphelgghbpaaGreatHk24
import Derived.Test.YtagpphelgghbpaaGreatHk29
import Derived.Test.YtagpphelgghbpaaGreatHk14
import Derived.Shelf.SortM.Plain
import Derived.Shelf.SortM.SortNone
import Derived.Test.YtagpphelgghbpaaGreatHk2
/-
  draws.Shuffle: plain, two elements change places.
-/
set_option linter.unusedSimpArgs false
set_option linter.unusedVariables false
namespace Go.Proofs.YtagpphelgghbpaaGreat
open Go.RowKit

def swp (l : List Int) (i j : Nat) : List Int := (l.set i (ith l j)).set j (ith l i)
theorem swp_len (l : List Int) (i j : Nat) : (swp l i j).length = l.length := by simp [swp]
theorem ics_set (l : List Int) (i : Nat) (x : Int) : ics (l.set i x) = (ics l).set i (.int .i64 x) := by simp [ics, List.map_set]
theorem XOwns.drew_ {W : World} {B e s n c : Nat} {A : Option Addr} {xs : List Value} (h : XOwns W B e s A n c xs) : XOwns W.drew B e s A n c xs := h
theorem only_trans_ {a b c : World} {row : Option Nat} (h : a.grownBy b row) (k : b.grownBy c row) : a.grownBy c row := ⟨k.os.trans h.os, k.tape.trans h.tape, k.output.trans h.output, Nat.le_trans h.size k.size, fun j hj hne => (k.block j (Nat.lt_of_lt_of_le hj h.size) hne).trans (h.block j hj hne)⟩
set_option maxRecDepth 100000 in
set_option maxHeartbeats 3200000 in
theorem sh_swap (W : World) (B g n c : Nat) (l : List Int) (i j : Nat) (hX : XOwns W B 3 1 (some ⟨g, 0, none⟩) n c (ics l)) (hi : i < n) (hj : j < n) (hn : n ≤ 65536) (Q : Exit → Act → World → Prop) (t0 t1 t2 t3 t4 t5 t6 t7 t11 t12 t13 t14 t15 t16 t17 t18 t19 t20 t21 t22 t23 t24 t25 t26 t27 t28 t29 t30 t31 t32 t33 t34 t35 t36 t37 t38 t39 t40 t41 t42 t43 t44 t45 t46 t47 t48 t49 t50 : Value)
    (hQ : ∀ d v c a w, Q (.panic c) (Act.put a d v) w → Q (.panic c) a w)
    (hK : ∀ (u36 u37 u38 u39 u40 u41 u42 u43 u44 u45 u46 u47 u48 u49 : Value)  (W9 : World), XOwns W9 B 3 1 (some ⟨g, 0, none⟩) n c (ics (swp l i j)) ∧ W.grownBy W9 (some g) → Q .normal ⟨#[t0, t1, t2, t3, t4, t5, t6, t7, .slice (some ⟨g, 0, none⟩) n c, .int .i64 i, .int .i64 j, t11, t12, t13, t14, t15, t16, t17, t18, t19, t20, t21, t22, t23, t24, t25, t26, t27, t28, t29, t30, t31, t32, t33, t34, t35, u36, u37, u38, u39, u40, u41, u42, u43, u44, u45, u46, u47, u48, u49, t50], []⟩ W9) :
    Code.wp Tryz.prog (regOf Tryz.f29 12) Q ⟨#[t0, t1, t2, t3, t4, t5, t6, t7, .slice (some ⟨g, 0, none⟩) n c, .int .i64 i, .int .i64 j, t11, t12, t13, t14, t15, t16, t17, t18, t19, t20, t21, t22, t23, t24, t25, t26, t27, t28, t29, t30, t31, t32, t33, t34, t35, t36, t37, t38, t39, t40, t41, t42, t43, t44, t45, t46, t47, t48, t49, t50], []⟩ W := by
  have HKK := Lib.hid hK
  clear hK
  conv => arg 2; whnf
  have hll : l.length = n := ilen hX.reads
  have hgl := (hX.lt g rfl).2
  have hi' : (i : Int) < n := by omega
  have hj' : (j : Int) < n := by omega
  obtain ⟨a, ha⟩ : ∃ a, ith l i = a := ⟨_, rfl⟩
  obtain ⟨b, hb⟩ : ∃ b, ith l j = b := ⟨_, rfl⟩
  have hcell : ∀ (W' : World) (k : Nat), XOwns W' B 3 1 (some ⟨g, 0, none⟩) n c (ics l) → k < n → W'.cell? ⟨g, k, none⟩ = some (.int .i64 (ith l k)) ∧ W'.frozen? ⟨g, k, none⟩ = false := fun W' k h hk => by
    obtain ⟨g', e, _, _, h1, h2⟩ := h.cell (j := k) (u := .int .i64 (ith l k)) (by rw [ics, List.getElem?_map, ith_get (by omega)]; rfl)
    injection e with e
    injection e with e
    subst e
    exact ⟨h1, h2⟩
  have HX := Lib.hid hX
  have HQ := Lib.hid hQ
  have HI := Lib.hid (And.intro hi hj)
  have HAB := Lib.hid (And.intro ha hb)
  have HLL := Lib.hid hll
  have HCELL := Lib.hid hcell
  have hne_ : Nonempty (In (fun W' => XOwns W' B 3 1 (some ⟨g, 0, none⟩) n c (ics l))) := ⟨⟨W, hX⟩⟩
  have xi : ∀ s : In (fun W' => XOwns W' B 3 1 (some ⟨g, 0, none⟩) n c (ics l)), s.W.cell? ⟨g, i, none⟩ = some (.int .i64 a) := fun s => by rw [← ha]; exact (hcell _ _ s.h hi).1
  have xj : ∀ s : In (fun W' => XOwns W' B 3 1 (some ⟨g, 0, none⟩) n c (ics l)), s.W.cell? ⟨g, j, none⟩ = some (.int .i64 b) := fun s => by rw [← hb]; exact (hcell _ _ s.h hj).1
  clear hX hQ hi hj ha hb hll hcell
  have hneT : Nonempty (In (fun _ => True)) := ⟨⟨W, trivial⟩⟩
  refine wp_region_late2 (Ph (fun w' => ∃ s : In (fun W' => XOwns W' B 3 1 (some ⟨g, 0, none⟩) n c (ics l)), w' = s.W) (fun w' => ∃ s : In (fun _ => True), w' = s.W)) (fun w' => ∃ s : In (fun _ => True), w' = s.W) (fun w => ⟨⟨w, trivial⟩, rfl⟩) [13,15] [0,1,2,3,4,5,6,8,9,10] [7,11,12] (.one 13 [14] (.one 15 [] .done)) (by kernel_rfl) (by kernel_rfl) HQ.out ⟨⟨_, HX.out.drew_⟩, rfl⟩ ?_
  refine quiet_as (C' := (fun w' => ∃ s : In (fun _ => True), w' = s.W)) rfl ?_
  simp only [opsAt, List.getElem?_toArray, List.getElem?_cons_succ, List.getElem?_cons_zero]
  repeat (go_big_quiet_step (fail))
  refine wpQuiet_nil ?_
  refine quiet_as (C' := (fun w' => ∃ s : In (fun W' => XOwns W' B 3 1 (some ⟨g, 0, none⟩) n c (ics l)), w' = s.W)) rfl ?_
  try simp only [opsAt, List.getElem?_toArray, List.getElem?_cons_succ, List.getElem?_cons_zero]
  repeat (go_big_quiet_step (fail))
  refine wpQuiet_nil ?_
  obtain ⟨W_d, hwd⟩ : ∃ v, W.drew = v := ⟨_, rfl⟩
  have HBW_1 : Hid (Below W.heap.size W W_d) := Lib.hid (by rw [← hwd]; exact (Below.refl _ _).drew)
  have HBR_1 : Hid (Below W.heap.size W W_d) := Lib.hid (by rw [← hwd]; exact (Below.refl _ _).drew)
  have FX_1 := Lib.hid ((HX.out).below (show Below W.heap.size W W_d by rw [← hwd]; exact (Below.refl _ _).drew))
  rw [hwd]
  clear hwd
  refine eff_as (C' := (fun w' => ∃ s : In (fun _ => True), w' = s.W)) rfl ?_
  (refine eff_lit rfl rfl (fun K hK => ?_))
  have hx9 := FX_1.out
  have hq9 : (ics l)[i]? = some (.int .i64 a) := by rw [ics, List.getElem?_map, ith_get (by rw [HLL.out]; exact HI.out.1), HAB.out.1]; rfl
  obtain ⟨g9, e9, -, l9, q9, f9⟩ := hx9.cell hq9
  injection e9 with e9
  injection e9 with e9
  subst e9
  go_big_op
  obtain ⟨W_2, hv9⟩ : ∃ v, W_d.setCell ⟨g, i, none⟩ (.int .i64 b) = v := ⟨_, rfl⟩
  have hg9 : W_d.grownBy W_2 (some g) := by rw [← hv9]; exact only_setCell (only_refl _ _) (.inl rfl) _
  have hs9 := hx9.setX (i) (.int .i64 b)
  rw [hv9] at hs9
  rw [hv9]
  clear q9 f9 l9 hv9 hx9 hq9
  have FX_3 := Lib.hid hs9
  have GR_3 := Lib.hid (only_trans_ (grownBy_below_ HBR_1.out) hg9)
  clear hs9 hg9
  refine hK _ _ ⟨⟨_, trivial⟩, rfl⟩ ?_
  clear hK K
  try simp only [opsAt, List.getElem?_toArray, List.getElem?_cons_succ, List.getElem?_cons_zero]
  try simp only [Act.put]
  repeat (go_big_quiet_step (fail))
  refine wpQuiet_nil ?_
  refine eff_as (C' := (fun w' => ∃ s : In (fun _ => True), w' = s.W)) rfl ?_
  (refine eff_lit rfl rfl (fun K hK => ?_))
  have hx9 := FX_3.out
  have hq9 : ∃ u, ((ics l).set i (.int .i64 b))[j]? = some u := ⟨_, List.getElem?_eq_getElem (by simp [ics, HLL.out]; exact HI.out.2)⟩
  obtain ⟨u9, hq9⟩ := hq9
  obtain ⟨g9, e9, -, l9, q9, f9⟩ := hx9.cell hq9
  injection e9 with e9
  injection e9 with e9
  subst e9
  go_big_op
  obtain ⟨W_4, hv9⟩ : ∃ v, W_2.setCell ⟨g, j, none⟩ (.int .i64 a) = v := ⟨_, rfl⟩
  have hg9 : W_2.grownBy W_4 (some g) := by rw [← hv9]; exact only_setCell (only_refl _ _) (.inl rfl) _
  have hs9 := hx9.setX (j) (.int .i64 a)
  rw [hv9] at hs9
  rw [hv9]
  clear q9 f9 l9 hv9 hx9 hq9
  have FX_5 := Lib.hid hs9
  have GR_5 := Lib.hid (only_trans_ GR_3.out hg9)
  clear hs9 hg9
  refine hK _ _ ⟨⟨_, trivial⟩, rfl⟩ ?_
  clear hK K
  try simp only [opsAt, List.getElem?_toArray, List.getElem?_cons_succ, List.getElem?_cons_zero]
  refine wpQuiet_nil ?_
  refine effs_done ?_
  have h9 := FX_5.out
  rw [← ics_set, ← ics_set] at h9
  exact HKK.out _ _ _ _ _ _ _ _ _ _ _ _ _ _ _ ⟨by unfold swp; rw [HAB.out.1, HAB.out.2]; exact h9, GR_5.out⟩

end Go.Proofs.YtagpphelgghbpaaGreat

/-
  draws.Shuffle: plain: the whole order.
-/
set_option linter.unusedSimpArgs false
set_option linter.unusedVariables false
namespace Go.Proofs.YtagpphelgghbpaaGreat
open Go.RowKit

theorem ith_eq {l : List Int} {k : Nat} (h : k < l.length) : ith l k = l[k] := by simp [ith, List.getD, List.getElem?_eq_getElem h]
theorem swp_count (l : List Int) (i j : Nat) (hi : i < l.length) (hj : j < l.length) (a : Int) : (swp l i j).count a = l.count a := by
  unfold swp
  rw [List.count_set (by simpa using hj), List.count_set hi, ith_eq hi, ith_eq hj, List.getElem_set]
  have pos : ∀ (k : Nat) (hk : k < l.length), l[k] = a → 0 < l.count a := fun k hk e => List.count_pos_iff.2 (e ▸ List.getElem_mem hk)
  have pi := pos i hi
  have pj := pos j hj
  by_cases h1 : l[i] = a <;> by_cases h2 : l[j] = a <;> by_cases h3 : i = j <;> simp [h1, h2, h3] <;> first | (have := pi h1; omega) | (have := pj h2; omega) | (subst h3; simp_all) | omega
theorem swp_perm (l : List Int) (i j : Nat) (hi : i < l.length) (hj : j < l.length) : (swp l i j).Perm l := List.perm_iff_count.2 (swp_count l i j hi hj)
/-- The swaps from the i-th element down to the second. -/
def shufL (us : List Int) : Nat → Nat → List Int → List Int
  | 0, _, l => l
  | i + 1, used, l => shufL us i (used + 1) (swp l (i + 1) (ith us used % ((i : Int) + 2)).toNat)
def shuf (us : List Int) (used : Nat) (l : List Int) : List Int := shufL us (l.length - 1) used l
theorem shufL_len (us : List Int) : ∀ (i used : Nat) (l : List Int), (shufL us i used l).length = l.length
  | 0, _, _ => rfl
  | i + 1, used, l => by rw [shufL, shufL_len us i, swp_len]
theorem shufL_perm (us : List Int) : ∀ (i used : Nat) (l : List Int), i < l.length ∨ i = 0 → (shufL us i used l).Perm l
  | 0, _, _, _ => List.Perm.refl _
  | i + 1, used, l, h => by
    rw [shufL]
    have hi : i + 1 < l.length := by omega
    have h0 : 0 ≤ ith us used % ((i : Int) + 2) := Int.emod_nonneg _ (by omega)
    have h1 : ith us used % ((i : Int) + 2) < (i : Int) + 2 := Int.emod_lt_of_pos _ (by omega)
    exact (shufL_perm us i (used + 1) _ (.inl (by rw [swp_len]; omega))).trans (swp_perm l _ _ hi (by omega))
theorem shuf_perm (us : List Int) (used : Nat) (l : List Int) : (shuf us used l).Perm l := shufL_perm us _ used l (by omega)
theorem shuf_len (us : List Int) (used : Nat) (l : List Int) : (shuf us used l).length = l.length := shufL_len us _ used l
end Go.Proofs.YtagpphelgghbpaaGreat

/-
  secrecy.Mix: plain: whose cards are mixed, and what is put in their places.
-/
set_option linter.unusedSimpArgs false
set_option linter.unusedVariables false
namespace Go.Proofs.YtagpphelgghbpaaGreat
open Go.RowKit

/-- An object whose card is mixed. -/
def mine (own : Int) (H : Int → Bool) (o : Ob) : Bool := decide (o.own = own) && (decide (0 ≤ o.card) && H o.id)
def cds (own : Int) (H : Int → Bool) (l : List Ob) : List Int := (l.filter (mine own H)).map Ob.card
def putC (own : Int) (H : Int → Bool) : List Ob → List Int → List Ob
  | [], _ => []
  | o :: l, cs => if mine own H o then { o with card := cs.headD 0 } :: putC own H l cs.tail else o :: putC own H l cs
theorem putC_len (own : Int) (H : Int → Bool) : ∀ (l : List Ob) (cs : List Int), (putC own H l cs).length = l.length
  | [], _ => rfl
  | o :: l, cs => by rw [putC]; split <;> simp [putC_len own H l]
theorem cds_cons (own : Int) (H : Int → Bool) (o : Ob) (l : List Ob) : cds own H (o :: l) = if mine own H o then o.card :: cds own H l else cds own H l := by
  unfold cds
  rw [List.filter_cons]
  split <;> simp
/-- What is put in: only cards of objects that are mine, by cards of the list. -/
theorem putC_at (own : Int) (H : Int → Bool) : ∀ (l : List Ob) (cs : List Int), cs.length = (cds own H l).length → ∀ (i : Nat) (o : Ob), l[i]? = some o → (mine own H o = false ∧ (putC own H l cs)[i]? = some o) ∨ (mine own H o = true ∧ ∃ c ∈ cs, (putC own H l cs)[i]? = some { o with card := c })
  | [], _, _, i, o, h => by simp at h
  | p :: l, cs, hl, i, o, h => by
    rw [putC]
    rw [cds_cons] at hl
    cases hm : mine own H p with
    | true =>
      rw [hm, if_pos rfl] at hl
      rw [if_pos rfl]
      cases cs with
      | nil => simp at hl
      | cons c cs =>
        cases i with
        | zero =>
          simp at h
          subst h
          exact .inr ⟨hm, c, by simp, by simp⟩
        | succ i =>
          rcases putC_at own H l cs (by simpa using hl) i o (by simpa using h) with h1 | ⟨h1, d, h2, h3⟩
          · exact .inl (by simpa using h1)
          · exact .inr ⟨h1, d, List.mem_cons_of_mem _ h2, by simpa using h3⟩
    | false =>
      rw [hm, if_neg (by decide)] at hl
      rw [if_neg (by decide)]
      cases i with
      | zero =>
        simp at h
        subst h
        exact .inl ⟨hm, by simp⟩
      | succ i =>
        rcases putC_at own H l cs hl i o (by simpa using h) with h1 | ⟨h1, d, h2, h3⟩
        · exact .inl (by simpa using h1)
        · exact .inr ⟨h1, d, h2, by simpa using h3⟩
theorem putC_id (own : Int) (H : Int → Bool) : ∀ (l : List Ob) (cs : List Int), (putC own H l cs).map Ob.id = l.map Ob.id
  | [], _ => rfl
  | o :: l, cs => by rw [putC]; split <;> simp [putC_id own H l]
theorem putC_inc (own : Int) (H : Int → Bool) : ∀ (l : List Ob) (cs : List Int), incB (putC own H l cs) = incB l := by
  have hh : ∀ l : List Ob, incB l = incB (l.map fun o => { (default : Ob) with id := o.id }) := by
    intro l
    induction l with
    | nil => rfl
    | cons x l ih => cases l with
      | nil => rfl
      | cons y l => simp only [List.map_cons, incB] at ih ⊢; rw [ih]
  intro l cs
  rw [hh, hh l]
  congr 1
  have h := congrArg (List.map fun i => { (default : Ob) with id := i }) (putC_id own H l cs)
  simpa [List.map_map, Function.comp_def] using h
theorem obI_putC (own : Int) (H : Int → Bool) {i : Int} (hi : H i = false) (l : List Ob) (cs : List Int) : obI (putC own H l cs) i = obI l i := by
  have hf : ∀ (l : List Ob) (cs : List Int), ((putC own H l cs).find? fun o => decide (o.id = i)) = l.find? fun o => decide (o.id = i) := by
    intro l
    induction l with
    | nil => intro cs; rfl
    | cons o l ih =>
      intro cs
      rw [putC]
      split
      · rename_i hm
        have hne : ¬ o.id = i := fun e => by simp [mine, e, hi] at hm
        rw [List.find?_cons, List.find?_cons]
        simp [hne, ih]
      · rw [List.find?_cons, List.find?_cons, ih]
  unfold obI
  rw [hf]
/-- The cards of an owner's objects are the same, up to order. -/
theorem putC_own (own : Int) (H : Int → Bool) (q : Int) : ∀ (l : List Ob) (cs : List Int), cs.length = (cds own H l).length → ∀ a, (((putC own H l cs).filter fun o => decide (o.own = q)).map Ob.card).count a + (if q = own then (cds own H l).count a else 0) = ((l.filter fun o => decide (o.own = q)).map Ob.card).count a + (if q = own then cs.count a else 0)
  | [], cs, hl, a => by
    have : cs = [] := by cases cs with | nil => rfl | cons c cs => simp [cds] at hl
    subst this
    simp [putC, cds]
  | o :: l, cs, hl, a => by
    rw [putC]
    rw [cds_cons] at hl ⊢
    cases hm : mine own H o with
    | true =>
      rw [hm, if_pos rfl] at hl
      rw [if_pos rfl, if_pos rfl]
      have ho : o.own = own := by
        unfold mine at hm
        simp at hm
        exact hm.1
      cases cs with
      | nil => simp at hl
      | cons c cs =>
        have ih := putC_own own H q l cs (by simpa using hl) a
        simp only [List.headD_cons, List.tail_cons, List.filter_cons]
        by_cases hq : q = own
        · rw [if_pos hq, if_pos hq] at ih ⊢
          have : decide (o.own = q) = true := by simp [ho, hq]
          simp only [this, if_true, List.map_cons, List.count_cons]
          omega
        · rw [if_neg hq, if_neg hq] at ih ⊢
          have : decide (o.own = q) = false := by simp [ho]; exact fun e => hq e.symm
          simp only [this]
          simpa using ih
    | false =>
      rw [hm, if_neg (by decide)] at hl
      simp only [Bool.false_eq_true, if_false]
      have ih := putC_own own H q l cs hl a
      simp only [List.filter_cons]
      split
      · simp only [List.map_cons, List.count_cons]
        omega
      · exact ih
/-- The same two lists, place by place, at one owner: as often. -/
theorem putC_own_at (own : Int) (H : Int → Bool) : ∀ (l : List Ob) (cs : List Int) (i : Nat) (o : Ob), l[i]? = some o → ∃ c, (putC own H l cs)[i]? = some { o with card := c }
  | [], _, i, o, h => by simp at h
  | p :: l, cs, i, o, h => by
    rw [putC]
    cases i with
    | zero =>
      simp at h
      subst h
      split
      · exact ⟨cs.headD 0, by simp⟩
      · exact ⟨p.card, by simp⟩
    | succ i =>
      split
      · exact (putC_own_at own H l _ i o (by simpa using h)).imp fun c h => by simpa using h
      · exact (putC_own_at own H l _ i o (by simpa using h)).imp fun c h => by simpa using h
/-- The mixed objects: none if the draws are used up. -/
def mixO (H : Int → Bool) (us : List Int) (l : List Ob) : Option (List Ob) :=
  if us.length + 1 < (cds 0 H l).length then none
  else
    if us.length - ((cds 0 H l).length - 1) + 1 < (cds 1 H (putC 0 H l (shuf us 0 (cds 0 H l)))).length then none
    else some (putC 1 H (putC 0 H l (shuf us 0 (cds 0 H l))) (shuf us ((cds 0 H l).length - 1) (cds 1 H (putC 0 H l (shuf us 0 (cds 0 H l))))))
end Go.Proofs.YtagpphelgghbpaaGreat

/-
  slices.Sort at this seat: the library contract laid.
-/
set_option linter.unusedSimpArgs false
set_option linter.unusedVariables false
namespace Go.Proofs.YtagpphelgghbpaaGreat
open Go.Shelf
def laysSort_ren : Go.Shelf.Ren := ⟨fun | 5 => 58 | 8 => 95 | 7 => 94 | 19 => 123 | 20 => 124 | 10 => 114 | 11 => 115 | 12 => 116 | 13 => 117 | 14 => 118 | 15 => 119 | 16 => 120 | 17 => 121 | 18 => 122 | 30 => 130 | 31 => 131 | 32 => 132 | 33 => 133 | 34 => 134 | 35 => 135 | 40 => 136 | n => n, fun | 23 => 25 | 25 => 3 | 3 => 3 | 32 => 152 | 22 => 25 | 0 => 0 | 44 => 181 | 46 => 59 | 4 => 4 | 36 => 175 | 35 => 174 | 41 => 139 | 5 => 5 | 9 => 9 | 53 => 189 | 57 => 193 | 63 => 196 | 64 => 197 | n => n, fun | n => n⟩
theorem laysSort : Go.Proofs.SlLaysM.n5 Tryz.prog laysSort_ren := {
  mixed := by kernel_rfl,
  f5 := ⟨Tryz.f58.name, by decide, Tryz.func58.trans (congrArg some (by kernel_rfl))⟩,
  f7 := ⟨Tryz.f94.name, by decide, Tryz.func94.trans (congrArg some (by kernel_rfl))⟩,
  f8 := Tryz.func95.trans (congrArg some (by kernel_rfl)),
  f10 := ⟨Tryz.f114.name, by decide, Tryz.func114.trans (congrArg some (by kernel_rfl))⟩,
  f11 := ⟨Tryz.f115.name, by decide, Tryz.func115.trans (congrArg some (by kernel_rfl))⟩,
  f12 := ⟨Tryz.f116.name, by decide, Tryz.func116.trans (congrArg some (by kernel_rfl))⟩,
  f13 := ⟨Tryz.f117.name, by decide, Tryz.func117.trans (congrArg some (by kernel_rfl))⟩,
  f14 := ⟨Tryz.f118.name, by decide, Tryz.func118.trans (congrArg some (by kernel_rfl))⟩,
  f15 := ⟨Tryz.f119.name, by decide, Tryz.func119.trans (congrArg some (by kernel_rfl))⟩,
  f16 := ⟨Tryz.f120.name, by decide, Tryz.func120.trans (congrArg some (by kernel_rfl))⟩,
  f17 := ⟨Tryz.f121.name, by decide, Tryz.func121.trans (congrArg some (by kernel_rfl))⟩,
  f18 := ⟨Tryz.f122.name, by decide, Tryz.func122.trans (congrArg some (by kernel_rfl))⟩,
  f19 := Tryz.func123.trans (congrArg some (by kernel_rfl)),
  f20 := Tryz.func124.trans (congrArg some (by kernel_rfl)),
  f30 := ⟨Tryz.f130.name, by decide, Tryz.func130.trans (congrArg some (by kernel_rfl))⟩,
  f31 := Tryz.func131.trans (congrArg some (by kernel_rfl)),
  f32 := Tryz.func132.trans (congrArg some (by kernel_rfl)),
  f33 := ⟨Tryz.f133.name, by decide, Tryz.func133.trans (congrArg some (by kernel_rfl))⟩,
  f34 := ⟨Tryz.f134.name, by decide, Tryz.func134.trans (congrArg some (by kernel_rfl))⟩,
  f35 := ⟨Tryz.f135.name, by decide, Tryz.func135.trans (congrArg some (by kernel_rfl))⟩,
  f40 := ⟨Tryz.f136.name, by decide, Tryz.func136.trans (congrArg some (by kernel_rfl))⟩,
  t0 := Tryz.underlying0,
  a0 := Tryz.isAgg0,
  z0 := Tryz.sizeOf0,
  v0 := Tryz.zeroValue0,
  t3 := Tryz.underlying3,
  a3 := Tryz.isAgg3,
  z3 := Tryz.sizeOf3,
  v3 := Tryz.zeroValue3,
  t4 := Tryz.underlying4,
  a4 := Tryz.isAgg4,
  z4 := Tryz.sizeOf4,
  v4 := Tryz.zeroValue4,
  t5 := Tryz.underlying5,
  a5 := Tryz.isAgg5,
  z5 := Tryz.sizeOf5,
  v5 := Tryz.zeroValue5,
  t9 := Tryz.underlying9,
  a9 := Tryz.isAgg9,
  z9 := Tryz.sizeOf9,
  v9 := Tryz.zeroValue9,
  t22 := Tryz.underlying25,
  a22 := Tryz.isAgg25,
  z22 := Tryz.sizeOf25,
  v22 := Tryz.zeroValue25,
  t23 := Tryz.underlying25,
  a23 := Tryz.isAgg25,
  z23 := Tryz.sizeOf25,
  v23 := Tryz.zeroValue25,
  t25 := Tryz.underlying3,
  a25 := Tryz.isAgg3,
  z25 := Tryz.sizeOf3,
  v25 := Tryz.zeroValue3,
  t32 := Tryz.underlying152,
  a32 := Tryz.isAgg152,
  z32 := Tryz.sizeOf152,
  v32 := Tryz.zeroValue152,
  t35 := Tryz.underlying174,
  a35 := Tryz.isAgg174,
  z35 := Tryz.sizeOf174,
  v35 := Tryz.zeroValue174,
  t36 := Tryz.underlying175,
  a36 := Tryz.isAgg175,
  z36 := Tryz.sizeOf175,
  v36 := Tryz.zeroValue175,
  t41 := Tryz.underlying139,
  a41 := Tryz.isAgg139,
  z41 := Tryz.sizeOf139,
  v41 := Tryz.zeroValue139,
  t44 := Tryz.underlying181,
  a44 := Tryz.isAgg181,
  z44 := Tryz.sizeOf181,
  v44 := Tryz.zeroValue181,
  t46 := Tryz.underlying59,
  a46 := Tryz.isAgg59,
  z46 := Tryz.sizeOf59,
  v46 := Tryz.zeroValue59,
  t53 := Tryz.underlying189,
  a53 := Tryz.isAgg189,
  z53 := Tryz.sizeOf189,
  v53 := Tryz.zeroValue189,
  t57 := Tryz.underlying193,
  a57 := Tryz.isAgg193,
  z57 := Tryz.sizeOf193,
  v57 := Tryz.zeroValue193,
  t63 := Tryz.underlying196,
  a63 := Tryz.isAgg196,
  z63 := Tryz.sizeOf196,
  v63 := Tryz.zeroValue196,
  t64 := Tryz.underlying197,
  a64 := Tryz.isAgg197,
  z64 := Tryz.sizeOf197,
  v64 := Tryz.zeroValue197 }
end Go.Proofs.YtagpphelgghbpaaGreat
