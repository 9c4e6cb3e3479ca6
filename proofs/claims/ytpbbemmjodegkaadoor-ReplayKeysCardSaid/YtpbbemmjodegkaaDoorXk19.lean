/-
  Texts: OpenRows, Kq, Kr.
-/
import Derived.Test.YtpbbemmjodegkaaDoorXk1
import Derived.ProofKit
import Derived.OpenShut
import Derived.Lib.SmallJoins
import Derived.Deep.Slices
import Derived.Deep.Fields
import Derived.Test.YtpbbemmjodegkaaDoorXk2
import Derived.Test.YtpbbemmjodegkaaDoorXk16
import Derived.ChangeArms
import Derived.Test.YtpbbemmjodegkaaDoorXk18
set_option linter.unusedSimpArgs false
set_option linter.unusedVariables false
namespace Go.Proofs.YtpbbemmjodegkaaDoor
open Go.Joins Go.ChangeShapes Go.WideShapes Go.ChangeAt Go.RowKit Go.Deep

theorem rows_of {α : Type} {P : Nat → α → Prop} : ∀ n : Nat, (∀ i, i < n → ∃ o, P i o) → ∃ cs : List α, cs.length = n ∧ ∀ i o, cs[i]? = some o → P i o := by
  intro n
  induction n with
  | zero => intro _; exact ⟨[], rfl, fun i o h => by simp at h⟩
  | succ n ih =>
    intro h
    obtain ⟨cs, h1, h2⟩ := ih (fun i hi => h i (by omega))
    obtain ⟨o, ho⟩ := h n (by omega)
    refine ⟨cs ++ [o], by simp [h1], fun i o' hi => ?_⟩
    rcases Nat.lt_or_ge i n with hlt | hge
    · rw [List.getElem?_append_left (by omega)] at hi
      exact h2 i o' hi
    · rw [List.getElem?_append_right (by omega)] at hi
      obtain rfl : i = n := by
        rcases Nat.lt_or_ge (i - cs.length) 1 with h' | h'
        · omega
        · rw [List.getElem?_eq_none (by simpa using h')] at hi; cases hi
      rw [h1, Nat.sub_self] at hi
      injection hi with hi
      exact hi ▸ ho

theorem lt_of_cell {w : World} {a : Addr} {v : Value} (h : w.cell? a = some v) : a.block < w.heap.size := by
  rcases Nat.lt_or_ge a.block w.heap.size with h' | h'
  · exact h'
  · simp [World.cell?, Array.getElem?_eq_none h'] at h

section
variable {H : Type} {enc : TypeId × Value → H} {W : World} {base : Nat} {spare : Nat → Bool} {held : Bool}

theorem row_cells {P : Program} {fuel : Nat} {e : TypeId} {fs : Array Field} {cs : List Value} {x : DataW H × List MemPlace} (he : P.underlying e = some (.struct fs)) (hone : oneCellFields P fs = true) (hC : P.cellsOf e = fs.size)
    (h : DataW.trod enc P W base spare held fuel e cs = some x) : cs.length = fs.size ∧ ∀ (j : Nat) (f : Field), fs[j]? = some f → ∃ (v : Value) (y : DataW H × List MemPlace) (n : Nat), cs[j]? = some v ∧ DataW.trod enc P W base spare held n f.type [v] = some y := by
  obtain ⟨ys, n, _, _, hlen, hyl, hf⟩ := DataW.trod_struct he h
  refine ⟨hlen.trans hC, fun j f hj => ?_⟩
  have hjl : j < fs.size := (Array.getElem?_eq_some_iff.1 hj).1
  have hcl : j < cs.length := by omega
  obtain ⟨ho, hk⟩ := hone_of hone j f hj
  have h1 := hf j f hj
  rw [ho, hk, List.drop_eq_getElem_cons hcl] at h1
  refine ⟨cs[j], ys[j]'(by omega), n, List.getElem?_eq_getElem hcl, ?_⟩
  rw [List.getElem?_eq_getElem (by omega)] at h1
  exact h1

theorem field_cells {P : Program} {fuel : Nat} {e : TypeId} {fs : Array Field} {cs : List Value} {x : DataW H × List MemPlace} (he : P.underlying e = some (.struct fs))
    (h : DataW.trod enc P W base spare held fuel e cs = some x) : cs.length = P.cellsOf e ∧ ∀ (j o k : Nat) (t : TypeId), (∃ f, fs[j]? = some f ∧ f.offset = o ∧ f.type = t) → P.cellsOf t = k → ∃ (y : DataW H × List MemPlace) (n : Nat), DataW.trod enc P W base spare held n t ((cs.drop o).take k) = some y := by
  obtain ⟨ys, n, _, _, hlen, hyl, hf⟩ := DataW.trod_struct he h
  refine ⟨hlen, fun j o k t ⟨f, hj, ho, ht⟩ hk => ?_⟩
  subst ho ht hk
  have hjl : j < fs.size := (Array.getElem?_eq_some_iff.1 hj).1
  have h1 := hf j f hj
  rw [List.getElem?_eq_getElem (by omega)] at h1
  exact ⟨_, n, h1⟩

theorem open_rows {P : Program} {t e : TypeId} {k : Nat} {α : Type} (cells : α → List Value) (Good : α → Prop) (ht : P.underlying t = some (.slice e)) (hk : P.cellsOf e = k) (hk0 : 0 < k) (hl : ∀ r, (cells r).length = k)
    (dec : ∀ fuel cs (x : DataW H × List MemPlace), DataW.trod enc P W base spare held fuel e cs = some x → ∃ r : α, cs = cells r ∧ Good r)
    {fuel : Nat} {cs : List Value} {x : DataW H × List MemPlace} (h : DataW.trod enc P W base spare held fuel t cs = some x) :
    ∃ (a : Option Addr) (len cap : Nat) (l : List α), cs = [.slice a len cap] ∧ RowR W k a len (l.map cells) ∧ (∀ r ∈ l, Good r) ∧ len ≤ cap ∧ (a = none → cap = 0) ∧ cap ≤ maxLen := by
  rcases open_slice ht h with ⟨hcs, _⟩ | ⟨b, l, c, m, n, D, Pl, hcs, _, hlc, hm, hmm, _, hi⟩
  · exact ⟨none, 0, 0, [], hcs, RowR.nil _ _, (fun _ h => by cases h), Nat.le_refl _, fun _ => rfl, Nat.zero_le _⟩
  · have hlm : l ≤ m := by rw [hmm]; split <;> omega
    have hall : ∀ i, i < l → ∃ r : α, (∀ j u, (cells r)[j]? = some u → W.cell? (b.add (i * k + j)) = some u) ∧ Good r := by
      intro i hil
      obtain ⟨cs', hc, htr⟩ := hi i (by omega)
      rw [hk] at hc
      obtain ⟨r, hr, hg⟩ := dec _ _ _ htr
      obtain ⟨_, hcl, hat⟩ := World.cells?_some hc
      refine ⟨r, fun j u hu => ?_, hg⟩
      have hjk : j < k := by
        rcases Nat.lt_or_ge j k with h' | h'
        · exact h'
        · rw [List.getElem?_eq_none (by rw [hl]; exact h')] at hu; cases hu
      have := hat j hjk
      rw [add_of_add] at this
      rw [this, hr]
      exact hu
    obtain ⟨rs, h1, h2⟩ := rows_of l hall
    refine ⟨some b, l, c, rs, hcs, ⟨⟨?_, fun hn => ⟨b, rfl, ?_, fun j u hu => ?_⟩⟩, ?_, by rw [List.length_map, h1]⟩, fun r hr => ?_, hlc, (fun h => by cases h), hm⟩
    · rw [List.length_flatten, List.map_map]
      have : (rs.map (List.length ∘ cells)) = List.replicate rs.length k := by
        rw [List.eq_replicate_iff]
        refine ⟨by simp, fun q hq => ?_⟩
        obtain ⟨r, _, rfl⟩ := List.mem_map.1 hq
        exact hl r
      rw [this, List.sum_replicate_nat, h1]
    · have h0 : rs[0]? = some (rs[0]'(by omega)) := List.getElem?_eq_getElem (by omega)
      have hc0 : (cells (rs[0]'(by omega)))[0]? = some ((cells (rs[0]'(by omega)))[0]'(by rw [hl]; exact hk0)) := List.getElem?_eq_getElem _
      have := (h2 0 _ h0).1 0 _ hc0
      have := lt_of_cell this
      rwa [block_of_add] at this
    · have hsum : ((rs.map cells).flatten).length = l * k := by
        rw [List.length_flatten, List.map_map]
        have : (rs.map (List.length ∘ cells)) = List.replicate rs.length k := by
          rw [List.eq_replicate_iff]
          refine ⟨by simp, fun q hq => ?_⟩
          obtain ⟨r, _, rfl⟩ := List.mem_map.1 hq
          exact hl r
        rw [this, List.sum_replicate_nat, h1]
      have hj : j < l * k := by
        rcases Nat.lt_or_ge j (l * k) with h' | h'
        · exact h'
        · rw [List.getElem?_eq_none (by rw [hsum]; exact h')] at hu; cases hu
      have hjk : j / k < l := Nat.div_lt_of_lt_mul (by rw [Nat.mul_comm]; exact hj)
      have hg : rs[j / k]? = some (rs[j / k]'(by omega)) := List.getElem?_eq_getElem (by omega)
      have hx := flatten_at (size := k) (rs.map cells) (fun r hr => by obtain ⟨q, _, rfl⟩ := List.mem_map.1 hr; exact hl q) (j / k) _ (by rw [List.getElem?_map, hg]; rfl) (j % k) (Nat.mod_lt _ hk0)
      have hjj : j / k * k + j % k = j := by rw [Nat.mul_comm]; exact Nat.div_add_mod j k
      rw [hjj, hu] at hx
      have := (h2 _ _ hg).1 (j % k) u hx.symm
      rwa [hjj] at this
    · intro r hr
      obtain ⟨q, _, rfl⟩ := List.mem_map.1 hr
      exact hl q
    · obtain ⟨i, hi1, hi2⟩ := List.getElem_of_mem hr
      exact (h2 i r (by rw [List.getElem?_eq_getElem hi1, hi2])).2
end
end Go.Proofs.YtpbbemmjodegkaaDoor

set_option linter.unusedSimpArgs false
set_option linter.unusedVariables false
namespace Go.Proofs.YtpbbemmjodegkaaDoor
open Go.Joins Go.ChangeShapes Go.WideShapes Go.ChangeAt Go.RowKit Go.Deep

theorem drop_seg (cs : List Value) (o k r : Nat) (h : o + k = r) : cs.drop o = (cs.drop o).take k ++ cs.drop r := by
  subst h
  rw [← List.drop_drop, List.take_append_drop]
theorem flat_map {α : Type} (f : α → List Value) (l : List α) : (l.map f).flatten = l.flatMap f := by rw [List.flatMap_def]
theorem zip_self {α β : Type} (l : List (α × β)) : (l.map (·.1)).zip (l.map (·.2)) = l := by
  induction l with
  | nil => rfl
  | cons x l ih => simp [ih]
theorem ones_flat {α : Type} (f : α → Value) : ∀ l : List α, (l.map fun r => [f r]).flatten = l.map f
  | [] => rfl
  | x :: l => by rw [List.map_cons, List.flatten_cons, ones_flat f l]; rfl
theorem maxLen_n : maxLen = 9223372036854775807 := rfl
section
variable {H : Type} {enc : TypeId × Value → H} {W : World} {base : Nat} {spare : Nat → Bool} {held : Bool}
def wf64 (i : Int) : Prop := -9223372036854775808 ≤ i ∧ i ≤ 9223372036854775807
theorem open_ones {t e : TypeId} {α : Type} (f : α → Value) (Good : α → Prop) (ht : Tryd.prog.underlying t = some (.slice e)) (hc : Tryd.prog.cellsOf e = 1)
    (dec : ∀ fuel cs (x : DataW H × List MemPlace), DataW.trod enc Tryd.prog W base spare held fuel e cs = some x → ∃ r : α, cs = [f r] ∧ Good r)
    {fuel : Nat} {cs : List Value} {x : DataW H × List MemPlace} (h : DataW.trod enc Tryd.prog W base spare held fuel t cs = some x) :
    ∃ (s : Sl) (l : List α), cs = [s.v l.length] ∧ Reads W 1 s.A l.length (l.map f) ∧ s.ok l.length ∧ (∀ r ∈ l, Good r) := by
  obtain ⟨a, len, cap, l, e1, hr, hg, hlc, ha, hc⟩ := open_rows (k := 1) (fun r => [f r]) Good ht hc (by decide) (fun _ => rfl) dec h
  subst e1
  have hll : l.length = len := by simpa using hr.2.2
  have hrr := hr.1
  rw [ones_flat] at hrr
  rw [maxLen_n] at hc
  exact ⟨⟨a, cap⟩, l, by rw [hll]; rfl, by rw [hll]; exact hrr, ⟨by rw [hll]; exact hlc, ha, hc⟩, hg⟩
theorem open_i {t : TypeId} (ht : Tryd.prog.underlying t = some (.int .i64)) {fuel : Nat} {cs : List Value} {x : DataW H × List MemPlace} (h : DataW.trod enc Tryd.prog W base spare held fuel t cs = some x) : ∃ i : Int, cs = [.int .i64 i] ∧ wf64 i := by
  obtain ⟨i, e, _, hw⟩ := DataW.trod_int ht h
  refine ⟨i, e, ?_⟩
  have h2 := hw
  simp [Lit.wf, IntKind.min, IntKind.max, IntKind.signed, IntKind.bits] at h2
  unfold wf64
  omega
theorem open_u {t : TypeId} (ht : Tryd.prog.underlying t = some (.int .u64)) {fuel : Nat} {cs : List Value} {x : DataW H × List MemPlace} (h : DataW.trod enc Tryd.prog W base spare held fuel t cs = some x) : ∃ i : Nat, cs = [.int .u64 (i : Int)] ∧ i < 2 ^ 64 := by
  obtain ⟨i, e, _, hw⟩ := DataW.trod_int ht h
  have h2 := hw
  simp [Lit.wf, IntKind.min, IntKind.max, IntKind.signed, IntKind.bits] at h2
  obtain ⟨n, rfl⟩ : ∃ n : Nat, i = (n : Int) := ⟨i.toNat, by omega⟩
  exact ⟨n, e, by omega⟩
set_option maxRecDepth 100000 in
theorem open_ef {fuel : Nat} {cs : List Value} {x : DataW H × List MemPlace} (h : DataW.trod enc Tryd.prog W base spare held fuel 106 cs = some x) : ∃ e : Ef, cs = e.cells := by
  obtain ⟨hl, hf⟩ := row_cells Tryd.underlying106 (by kernel_rfl) (by kernel_rfl) h
  obtain ⟨v0, y0, n0, c0, t0⟩ := hf 0 _ rfl
  obtain ⟨k0, e0, w0⟩ := open_i Tryd.underlying103 t0
  obtain ⟨v1, y1, n1, c1, t1⟩ := hf 1 _ rfl
  obtain ⟨k1, e1, w1⟩ := open_i Tryd.underlying104 t1
  obtain ⟨v2, y2, n2, c2, t2⟩ := hf 2 _ rfl
  obtain ⟨k2, e2, w2⟩ := open_i Tryd.underlying3 t2
  obtain ⟨v3, y3, n3, c3, t3⟩ := hf 3 _ rfl
  obtain ⟨k3, e3, w3⟩ := open_i Tryd.underlying3 t3
  obtain ⟨v4, y4, n4, c4, t4⟩ := hf 4 _ rfl
  obtain ⟨k4, e4, w4⟩ := open_i Tryd.underlying69 t4
  simp only [List.cons.injEq, and_true] at e0 e1 e2 e3 e4
  subst e0 e1 e2 e3 e4
  have hl2 : cs.length = 5 := hl
  match cs, hl2, c0, c1, c2, c3, c4 with
  | [a0, a1, a2, a3, a4], _, c0, c1, c2, c3, c4 =>
    simp at c0 c1 c2 c3 c4
    subst c0 c1 c2 c3 c4
    exact ⟨⟨k0, k1, k2, k3, k4⟩, rfl⟩
set_option maxRecDepth 100000 in
theorem open_efs {fuel : Nat} {cs : List Value} {x : DataW H × List MemPlace} (h : DataW.trod enc Tryd.prog W base spare held fuel 71 cs = some x) : ∃ (s : Sl) (l : List Ef), cs = [s.v l.length] ∧ EsR W s l := by
  obtain ⟨a, len, cap, l, e, hr, _, hlc, ha, hc⟩ := open_rows (k := 5) Ef.cells (fun _ => True) Tryd.underlying71 (by kernel_rfl) (by decide) (fun _ => rfl) (fun _ _ _ h => by obtain ⟨e, he⟩ := open_ef h; exact ⟨e, he, trivial⟩) h
  subst e
  have hll : l.length = len := by simpa using hr.2.2
  have hrr := hr.1
  rw [flat_map] at hrr
  rw [maxLen_n] at hc
  exact ⟨⟨a, cap⟩, l, by rw [hll]; rfl, ⟨by rw [hll]; exact hrr, ⟨by rw [hll]; exact hlc, ha, hc⟩⟩⟩
set_option maxRecDepth 100000 in
theorem open_trg {fuel : Nat} {cs : List Value} {x : DataW H × List MemPlace} (h : DataW.trod enc Tryd.prog W base spare held fuel 112 cs = some x) : ∃ p : Trg × Sl, cs = p.1.cells p.2 ∧ EsR W p.2 p.1.efs := by
  obtain ⟨hl, hf⟩ := row_cells Tryd.underlying112 (by kernel_rfl) (by kernel_rfl) h
  obtain ⟨v0, y0, n0, c0, t0⟩ := hf 0 _ rfl
  obtain ⟨k0, e0, w0⟩ := open_i Tryd.underlying110 t0
  obtain ⟨v1, y1, n1, c1, t1⟩ := hf 1 _ rfl
  obtain ⟨s1, l1, e1, r1⟩ := open_efs t1
  simp only [List.cons.injEq, and_true] at e0 e1
  subst e0 e1
  have hl2 : cs.length = 2 := hl
  match cs, hl2, c0, c1 with
  | [a0, a1], _, c0, c1 =>
    simp at c0 c1
    subst c0 c1
    exact ⟨(⟨k0, l1⟩, s1), rfl, r1⟩
set_option maxRecDepth 100000 in
theorem open_trs {fuel : Nat} {cs : List Value} {x : DataW H × List MemPlace} (h : DataW.trod enc Tryd.prog W base spare held fuel 72 cs = some x) : ∃ (s : Sl) (l : List Trg) (ts : List Sl), cs = [s.v l.length] ∧ TsR W s l ts := by
  obtain ⟨a, len, cap, l, e, hr, hg, hlc, ha, hc⟩ := open_rows (k := 2) (fun p : Trg × Sl => p.1.cells p.2) (fun p => EsR W p.2 p.1.efs) Tryd.underlying72 (by kernel_rfl) (by decide) (fun _ => rfl) (fun _ _ _ h => open_trg h) h
  subst e
  have hll : l.length = len := by simpa using hr.2.2
  have hrr := hr.1
  rw [flat_map] at hrr
  rw [maxLen_n] at hc
  refine ⟨⟨a, cap⟩, l.map (·.1), l.map (·.2), by rw [List.length_map, hll]; rfl, ⟨by simp, by rw [List.length_map, zip_self, hll]; exact hrr, ⟨by rw [List.length_map, hll]; exact hlc, ha, hc⟩, fun i t u h1 h2 => ?_⟩⟩
  rw [List.getElem?_map] at h1 h2
  cases hi : l[i]? with
  | none => rw [hi] at h1; cases h1
  | some p =>
    rw [hi] at h1 h2
    simp at h1 h2
    subst h1 h2
    exact hg p (List.mem_of_getElem? hi)
set_option maxRecDepth 100000 in
theorem open_mana {fuel : Nat} {cs : List Value} {x : DataW H × List MemPlace} (h : DataW.trod enc Tryd.prog W base spare held fuel 66 cs = some x) : ∃ p0 p1 p2 p3 : Int, cs = [.int .i64 p0, .int .i64 p1, .int .i64 p2, .int .i64 p3] := by
  obtain ⟨ys, m, _, _, hl, hyl, hg⟩ := DataW.trod_array Tryd.underlying66 h
  have hl4 : cs.length = 4 := hl.trans (by kernel_rfl)
  have hc1 : Tryd.prog.cellsOf 3 = 1 := by kernel_rfl
  have g0 := hg 0 (by decide)
  have g1 := hg 1 (by decide)
  have g2 := hg 2 (by decide)
  have g3 := hg 3 (by decide)
  rw [hc1] at g0 g1 g2 g3
  rw [List.getElem?_eq_getElem (show 0 < ys.length by omega)] at g0
  rw [List.getElem?_eq_getElem (show 1 < ys.length by omega)] at g1
  rw [List.getElem?_eq_getElem (show 2 < ys.length by omega)] at g2
  rw [List.getElem?_eq_getElem (show 3 < ys.length by omega)] at g3
  match cs, hl4 with
  | [a0, a1, a2, a3], _ =>
    simp only [Nat.zero_mul, Nat.mul_one, Nat.one_mul, List.drop_zero, List.take_succ_cons, List.take_zero, List.drop_succ_cons] at g0 g1 g2 g3
    obtain ⟨k0, e0, _⟩ := open_i Tryd.underlying3 g0
    obtain ⟨k1, e1, _⟩ := open_i Tryd.underlying3 g1
    obtain ⟨k2, e2, _⟩ := open_i Tryd.underlying3 g2
    obtain ⟨k3, e3, _⟩ := open_i Tryd.underlying3 g3
    simp only [List.cons.injEq, and_true] at e0 e1 e2 e3
    subst e0 e1 e2 e3
    exact ⟨k0, k1, k2, k3, rfl⟩
set_option maxRecDepth 100000 in
theorem open_cost {fuel : Nat} {cs : List Value} {x : DataW H × List MemPlace} (h : DataW.trod enc Tryd.prog W base spare held fuel 68 cs = some x) : ∃ p0 p1 p2 p3 p4 : Int, cs = [.int .i64 p0, .int .i64 p1, .int .i64 p2, .int .i64 p3, .int .i64 p4] := by
  obtain ⟨hl, hf⟩ := field_cells Tryd.underlying68 h
  have hl5 : cs.length = 5 := hl.trans (by kernel_rfl)
  obtain ⟨y0, n0, t0⟩ := hf 0 0 4 66 ⟨_, rfl, rfl, rfl⟩ (by kernel_rfl)
  obtain ⟨p0, p1, p2, p3, e0⟩ := open_mana t0
  obtain ⟨y1, n1, t1⟩ := hf 1 4 1 3 ⟨_, rfl, rfl, rfl⟩ (by kernel_rfl)
  obtain ⟨p4, e1, _⟩ := open_i Tryd.underlying3 t1
  have key := ((drop_seg cs 0 4 4 rfl).trans (congrArg ((cs.drop 0).take 4 ++ ·) ((drop_seg cs 4 1 5 rfl).trans (congrArg ((cs.drop 4).take 1 ++ ·) (List.drop_eq_nil_of_le (Nat.le_of_eq hl5) : cs.drop 5 = [])))))
  rw [e0, e1, List.drop_zero] at key
  exact ⟨p0, p1, p2, p3, p4, key⟩
set_option maxRecDepth 100000 in
theorem open_card {fuel : Nat} {cs : List Value} {x : DataW H × List MemPlace} (h : DataW.trod enc Tryd.prog W base spare held fuel 74 cs = some x) : ∃ p : Cd × CdM, cs = p.1.cells p.2 ∧ CdR W p.1 p.2 := by
  obtain ⟨hl, hf⟩ := field_cells Tryd.underlying74 h
  have hl14 : cs.length = 14 := hl.trans (by kernel_rfl)
  obtain ⟨y0, n0, t0⟩ := hf 0 0 1 9 ⟨_, rfl, rfl, rfl⟩ (by kernel_rfl)
  obtain ⟨nm, e0, _, wn⟩ := DataW.trod_string Tryd.underlying9 t0
  obtain ⟨y1, n1, t1⟩ := hf 1 1 1 64 ⟨_, rfl, rfl, rfl⟩ (by kernel_rfl)
  obtain ⟨k1, e1, w1⟩ := open_i Tryd.underlying64 t1
  obtain ⟨y2, n2, t2⟩ := hf 2 2 5 68 ⟨_, rfl, rfl, rfl⟩ (by kernel_rfl)
  obtain ⟨o0, o1, o2, o3, o4, e2⟩ := open_cost t2
  obtain ⟨y3, n3, t3⟩ := hf 3 7 1 69 ⟨_, rfl, rfl, rfl⟩ (by kernel_rfl)
  obtain ⟨k3, e3, w3⟩ := open_i Tryd.underlying69 t3
  obtain ⟨y4, n4, t4⟩ := hf 4 8 1 3 ⟨_, rfl, rfl, rfl⟩ (by kernel_rfl)
  obtain ⟨k4, e4, w4⟩ := open_i Tryd.underlying3 t4
  obtain ⟨y5, n5, t5⟩ := hf 5 9 1 3 ⟨_, rfl, rfl, rfl⟩ (by kernel_rfl)
  obtain ⟨k5, e5, w5⟩ := open_i Tryd.underlying3 t5
  obtain ⟨y6, n6, t6⟩ := hf 6 10 1 70 ⟨_, rfl, rfl, rfl⟩ (by kernel_rfl)
  obtain ⟨k6, e6, w6⟩ := open_i Tryd.underlying70 t6
  obtain ⟨y7, n7, t7⟩ := hf 7 11 1 71 ⟨_, rfl, rfl, rfl⟩ (by kernel_rfl)
  obtain ⟨sE, lE, e7, rE⟩ := open_efs t7
  obtain ⟨y8, n8, t8⟩ := hf 8 12 1 72 ⟨_, rfl, rfl, rfl⟩ (by kernel_rfl)
  obtain ⟨sT, lT, ts, e8, rT⟩ := open_trs t8
  obtain ⟨y9, n9, t9⟩ := hf 9 13 1 3 ⟨_, rfl, rfl, rfl⟩ (by kernel_rfl)
  obtain ⟨k9, e9, w9⟩ := open_i Tryd.underlying3 t9
  have key := ((drop_seg cs 0 1 1 rfl).trans (congrArg ((cs.drop 0).take 1 ++ ·) ((drop_seg cs 1 1 2 rfl).trans (congrArg ((cs.drop 1).take 1 ++ ·) ((drop_seg cs 2 5 7 rfl).trans (congrArg ((cs.drop 2).take 5 ++ ·) ((drop_seg cs 7 1 8 rfl).trans (congrArg ((cs.drop 7).take 1 ++ ·) ((drop_seg cs 8 1 9 rfl).trans (congrArg ((cs.drop 8).take 1 ++ ·) ((drop_seg cs 9 1 10 rfl).trans (congrArg ((cs.drop 9).take 1 ++ ·) ((drop_seg cs 10 1 11 rfl).trans (congrArg ((cs.drop 10).take 1 ++ ·) ((drop_seg cs 11 1 12 rfl).trans (congrArg ((cs.drop 11).take 1 ++ ·) ((drop_seg cs 12 1 13 rfl).trans (congrArg ((cs.drop 12).take 1 ++ ·) ((drop_seg cs 13 1 14 rfl).trans (congrArg ((cs.drop 13).take 1 ++ ·) (List.drop_eq_nil_of_le (Nat.le_of_eq hl14) : cs.drop 14 = [])))))))))))))))))))))
  rw [e0, e1, e2, e3, e4, e5, e6, e7, e8, e9, List.drop_zero] at key
  rw [maxLen_n] at wn
  exact ⟨(⟨nm, k1, o0, o1, o2, o3, o4, k3, k4, k5, k6, lE, lT, k9⟩, ⟨sE, sT, ts⟩), key, ⟨wn, rE, rT⟩⟩
set_option maxRecDepth 100000 in
theorem open_cards {fuel : Nat} {cs : List Value} {x : DataW H × List MemPlace} (h : DataW.trod enc Tryd.prog W base spare held fuel 24 cs = some x) : ∃ (s : Sl) (l : List Cd) (ms : List CdM), cs = [s.v l.length] ∧ CsR W s l ms := by
  obtain ⟨a, len, cap, l, e, hr, hg, hlc, ha, hc⟩ := open_rows (k := 14) (fun p : Cd × CdM => p.1.cells p.2) (fun p => CdR W p.1 p.2) Tryd.underlying24 (by kernel_rfl) (by decide) (fun _ => rfl) (fun _ _ _ h => open_card h) h
  subst e
  have hll : l.length = len := by simpa using hr.2.2
  have hrr := hr.1
  rw [flat_map] at hrr
  rw [maxLen_n] at hc
  refine ⟨⟨a, cap⟩, l.map (·.1), l.map (·.2), by rw [List.length_map, hll]; rfl, ⟨by simp, by rw [List.length_map, ccs, zip_self, hll]; exact hrr, ⟨by rw [List.length_map, hll]; exact hlc, ha, hc⟩, fun i t u h1 h2 => ?_⟩⟩
  rw [List.getElem?_map] at h1 h2
  cases hi : l[i]? with
  | none => rw [hi] at h1; cases h1
  | some p =>
    rw [hi] at h1 h2
    simp at h1 h2
    subst h1 h2
    exact hg p (List.mem_of_getElem? hi)
theorem open_ints {fuel : Nat} {cs : List Value} {x : DataW H × List MemPlace} (h : DataW.trod enc Tryd.prog W base spare held fuel 25 cs = some x) : ∃ (s : Sl) (l : List Int), cs = [s.v l.length] ∧ Reads W 1 s.A l.length (ics l) ∧ s.ok l.length ∧ (∀ r ∈ l, wf64 r) :=
  open_ones (Value.int .i64) wf64 Tryd.underlying25 (by kernel_rfl) (fun _ _ _ h => open_i Tryd.underlying3 h) h
theorem open_us {fuel : Nat} {cs : List Value} {x : DataW H × List MemPlace} (h : DataW.trod enc Tryd.prog W base spare held fuel 27 cs = some x) : ∃ (s : Sl) (l : List Nat), cs = [s.v l.length] ∧ NReads W s.A l.length l ∧ s.ok l.length := by
  obtain ⟨s, l, e, hr, ho, hg⟩ := open_ones (fun n : Nat => Value.int .u64 (n : Int)) (fun n => n < 2 ^ 64) Tryd.underlying27 (by kernel_rfl) (fun _ _ _ h => open_u Tryd.underlying37 h) h
  exact ⟨s, l, e, ⟨hr, hg⟩, ho⟩
theorem agg_cells (cs : Array Value) : cs = ((Value.agg cs).cells.toList).toArray := by simp [Value.cells]
set_option maxRecDepth 100000 in
theorem open_cfg {r : Reach} {b0 : Nat} {v : Value} {d : DataW H} {p : List MemPlace} (hv : Value.okWide Tryd.prog W r b0 23 v) (h : DataW.Trod enc Tryd.prog W base spare held 23 v d p) :
    ∃ a0 a1 a2 a3 a4 a5 : Int, v = .agg #[.int .i64 a0, .int .i64 a1, .int .i64 a2, .int .i64 a3, .int .i64 a4, .int .i64 a5] ∧ ∀ x ∈ [a0, a1, a2, a3, a4, a5], wf64 x := by
  obtain ⟨cs, rfl, hsz⟩ := okWide_struct Tryd.underlying23 hv
  obtain ⟨fuel, hf0⟩ := h
  obtain ⟨hl, hf⟩ := row_cells Tryd.underlying23 (by kernel_rfl) (by kernel_rfl) hf0
  rw [agg_cells cs]
  obtain ⟨l, hll⟩ : ∃ l, (Value.agg cs).cells.toList = l := ⟨_, rfl⟩
  rw [hll] at hf hl ⊢
  clear hll hf0 hv hsz
  obtain ⟨v0, y0, n0, c0, t0⟩ := hf 0 _ rfl
  obtain ⟨k0, e0, w0⟩ := open_i Tryd.underlying3 t0
  obtain ⟨v1, y1, n1, c1, t1⟩ := hf 1 _ rfl
  obtain ⟨k1, e1, w1⟩ := open_i Tryd.underlying3 t1
  obtain ⟨v2, y2, n2, c2, t2⟩ := hf 2 _ rfl
  obtain ⟨k2, e2, w2⟩ := open_i Tryd.underlying3 t2
  obtain ⟨v3, y3, n3, c3, t3⟩ := hf 3 _ rfl
  obtain ⟨k3, e3, w3⟩ := open_i Tryd.underlying3 t3
  obtain ⟨v4, y4, n4, c4, t4⟩ := hf 4 _ rfl
  obtain ⟨k4, e4, w4⟩ := open_i Tryd.underlying3 t4
  obtain ⟨v5, y5, n5, c5, t5⟩ := hf 5 _ rfl
  obtain ⟨k5, e5, w5⟩ := open_i Tryd.underlying3 t5
  simp only [List.cons.injEq, and_true] at e0 e1 e2 e3 e4 e5
  subst e0 e1 e2 e3 e4 e5
  have hl2 : l.length = 6 := hl
  match l, hl2, c0, c1, c2, c3, c4, c5 with
  | [a0, a1, a2, a3, a4, a5], _, c0, c1, c2, c3, c4, c5 =>
    simp at c0 c1 c2 c3 c4 c5
    subst c0 c1 c2 c3 c4 c5
    refine ⟨k0, k1, k2, k3, k4, k5, rfl, fun x hx => ?_⟩
    simp only [List.mem_cons, List.not_mem_nil, or_false] at hx
    rcases hx with rfl | rfl | rfl | rfl | rfl | rfl <;> assumption
set_option maxRecDepth 100000 in
theorem open_setup {r : Reach} {b0 : Nat} {v : Value} {d : DataW H} {p : List MemPlace} (hv : Value.okWide Tryd.prog W r b0 29 v) (h : DataW.Trod enc Tryd.prog W base spare held 29 v d p) :
    ∃ (s0 : Sl) (l : List Cd) (ms : List CdM) (s1 : Sl) (d1 : List Int) (s2 : Sl) (d2 : List Int) (s3 : Sl) (us : List Nat), v = .agg #[s0.v l.length, s1.v d1.length, s2.v d2.length, s3.v us.length] ∧ CsR W s0 l ms ∧
      (Reads W 1 s1.A d1.length (ics d1) ∧ s1.ok d1.length ∧ ∀ x ∈ d1, wf64 x) ∧ (Reads W 1 s2.A d2.length (ics d2) ∧ s2.ok d2.length ∧ ∀ x ∈ d2, wf64 x) ∧ (NReads W s3.A us.length us ∧ s3.ok us.length) := by
  obtain ⟨cs, rfl, hsz⟩ := okWide_struct Tryd.underlying29 hv
  obtain ⟨fuel, hf0⟩ := h
  obtain ⟨hl, hf⟩ := field_cells Tryd.underlying29 hf0
  have hl6 : ((Value.agg cs).cells.toList).length = 4 := hl.trans (by kernel_rfl)
  rw [agg_cells cs]
  obtain ⟨l, hll⟩ : ∃ l, (Value.agg cs).cells.toList = l := ⟨_, rfl⟩
  rw [hll] at hf hl6 ⊢
  clear hll hf0 hl hv hsz
  obtain ⟨y0, n0, t0⟩ := hf 0 0 1 24 ⟨_, rfl, rfl, rfl⟩ (by kernel_rfl)
  obtain ⟨y1, n1, t1⟩ := hf 1 1 2 26 ⟨_, rfl, rfl, rfl⟩ (by kernel_rfl)
  obtain ⟨y2, n2, t2⟩ := hf 2 3 1 27 ⟨_, rfl, rfl, rfl⟩ (by kernel_rfl)
  match l, hl6 with
  | [a0, a1, a2, a3], _ =>
    simp only [List.drop_zero, List.take_succ_cons, List.take_zero, List.drop_succ_cons] at t0 t1 t2
    obtain ⟨s0, L, ms, e0, r0⟩ := open_cards t0
    obtain ⟨s3, us, e3, r3, o3⟩ := open_us t2
    obtain ⟨ys, m, _, _, _, hyl, hg⟩ := DataW.trod_array Tryd.underlying26 t1
    have hc1 : Tryd.prog.cellsOf 25 = 1 := by kernel_rfl
    have g0 := hg 0 (by decide)
    have g1 := hg 1 (by decide)
    rw [hc1] at g0 g1
    rw [List.getElem?_eq_getElem (show 0 < ys.length by omega)] at g0
    rw [List.getElem?_eq_getElem (show 1 < ys.length by omega)] at g1
    simp only [Nat.zero_mul, Nat.one_mul, List.drop_zero, List.take_succ_cons, List.take_zero, List.drop_succ_cons] at g0 g1
    obtain ⟨s1, d1, e1, r1, o1, w1⟩ := open_ints g0
    obtain ⟨s2, d2, e2, r2, o2, w2⟩ := open_ints g1
    simp only [List.cons.injEq, and_true] at e0 e1 e2 e3
    subst e0 e1 e2 e3
    exact ⟨s0, L, ms, s1, d1, s2, d2, s3, us, rfl, r0, ⟨r1, o1, w1⟩, ⟨r2, o2, w2⟩, ⟨r3, o3⟩⟩
end
end Go.Proofs.YtpbbemmjodegkaaDoor

set_option linter.unusedSimpArgs false
set_option linter.unusedVariables false
namespace Go.Proofs.YtpbbemmjodegkaaDoor
open Go.RowKit

theorem tinfo_int : (Tryd.prog.info? 3).map (fun i => (i.zero, i.size, i.bytes)) = some (some (.int .i64 0), 1, 8) := by kernel_rfl
theorem XOwns.farB {W W' : World} {B : Nat} {e : TypeId} {size : Nat} {A : Option Addr} {n c : Nat} {xs : List Value} {r : Option Nat} (h : XOwns W B e size A n c xs) (hg : W.grownBy W' r) (hr : ∀ g, r = some g → g < B) : XOwns W' B e size A n c xs :=
  h.grown hg (by
    cases hb : blkOf A with
    | none => exact .inl rfl
    | some g =>
      refine .inr fun he => ?_
      have := hr g he.symm
      have := (h.lt g hb).1
      omega)
theorem PoolR.farB {W W' : World} {B p : Nat} {l : List Cd} {r : Option Nat} (h : PoolR W B p l) (hg : W.grownBy W' r) (hr : ∀ g, r = some g → g < B) : PoolR W' B p l := by
  obtain ⟨s, ms, g, hk, ho⟩ := h.ex
  exact ⟨⟨s, ms, g, hk.grown hg (fun e => by have := hr p e.symm; have := h.base; omega), ho.len, ho.row.farB hg hr, fun i c m h4 h5 => ⟨(ho.cd i c m h4 h5).nm, (ho.cd i c m h4 h5).E.farB hg hr, (ho.cd i c m h4 h5).T.len, (ho.cd i c m h4 h5).T.row.farB hg hr, fun j t u h6 h7 => ((ho.cd i c m h4 h5).T.ef j t u h6 h7).farB hg hr⟩⟩, h.base⟩
theorem PoolR.below {W W' : World} {B p : Nat} {l : List Cd} (h : PoolR W B p l) (hb : Below W.heap.size W W') : PoolR W' B p l := by
  obtain ⟨s, ms, g, hk, ho⟩ := h.ex
  exact ⟨⟨s, ms, g, hk.call hb, ho.below hb⟩, h.base⟩
def keyL (c0 c1 c2 c3 c4 c5 : Int) (d1 d2 : List Int) : List Int := [c0, c1, c2, c3, c4, c5] ++ ((d1.length : Int) :: d1) ++ ((d2.length : Int) :: d2)
def numI (x : Int) : List Int := numS x.toNat
def keyB (L : List Int) (us : List Nat) (l : List Cd) : List Int := (L ++ [(us.length : Int)]).flatMap numI ++ us.flatMap numS ++ encP l
def KeyEnd (L : List Int) (us : List Nat) (l : List Cd) (e : Ending) : Prop :=
  (L.any ngS = true ∧ e = .returned (.tuple #[.int .u32 0, .int .i64 2])) ∨
  (L.any ngS = false ∧ allOk l = false ∧ e = .returned (.tuple #[.int .u32 0, .int .i64 2])) ∨
  (L.any ngS = false ∧ allOk l = true ∧ ¬ (names l).Nodup ∧ e = .returned (.tuple #[.int .u32 0, .int .i64 11])) ∨
  (L.any ngS = false ∧ allOk l = true ∧ (names l).Nodup ∧ e = .returned (.tuple #[.int .u32 (psS (keyB L us l)), .int .i64 0]))
theorem dk_0 (a b : Value) (w : World) : (Instr.index 26 (.agg #[a, b]) (.int .i64 0)).run Tryd.prog w = .ok a w := by
  simp [Instr.index, run_underlying Tryd.underlying26, asIntOf, go_sem]
theorem dk_1 (a b : Value) (w : World) : (Instr.index 26 (.agg #[a, b]) (.int .i64 1)).run Tryd.prog w = .ok b w := by
  simp [Instr.index, run_underlying Tryd.underlying26, asIntOf, go_sem]
theorem size_deck : (Tryd.prog.info? 26).map (·.size) = some 2 := by decide +kernel
theorem encP_le {l : List Cd} (h : allOk l = true) (hn : l.length ≤ 60) : (encP l).length ≤ 20000 := by
  unfold encP encPb
  have : (l.flatMap encC).length ≤ 200 * l.length := by
    clear hn
    induction l with
    | nil => simp
    | cons c l ih =>
      unfold allOk at h ih
      rw [List.all_cons, Bool.and_eq_true] at h
      have := ih h.2
      have := encC_le h.1
      rw [List.flatMap_cons, List.length_append, List.length_cons]
      omega
  simp only [List.length_append]
  have h1 : (pb2 (l.length : Int)).length = 2 := rfl
  have h2 : ∀ x, (pb4 x).length = 4 := fun _ => rfl
  rw [h1, h2]
  omega
theorem nums_le {ns : List Nat} (h : ∀ x ∈ ns, x < 2 ^ 64) : (ns.flatMap numS).length ≤ 10 * ns.length := by
  induction ns with
  | nil => simp
  | cons c l ih =>
    have := ih (fun x hx => h x (List.mem_cons_of_mem _ hx))
    have := numS_len10 (h c (List.mem_cons_self ..))
    rw [List.flatMap_cons, List.length_append, List.length_cons]
    omega
theorem num_of {L : List Int} {n3 : Nat} (hng : L.any ngS = false) (hwf : ∀ x ∈ L, wf64 x) (hn : n3 ≤ 100) {k : Nat} {x : Int} (h : (L ++ [(n3 : Int)])[k]? = some x) : ∃ q : Nat, x = q ∧ q < 9223372036854775808 := by
  have hm := List.mem_of_getElem? h
  rw [List.mem_append, List.mem_singleton] at hm
  rcases hm with hm | rfl
  · have h1 := (List.any_eq_false.1 hng) x hm
    have h2 := hwf x hm
    unfold ngS at h1
    unfold wf64 at h2
    simp only [decide_eq_true_eq] at h1
    exact ⟨x.toNat, by omega, by omega⟩
  · exact ⟨n3, rfl, by omega⟩
theorem ics_app (a b : List Int) : ics (a ++ b) = ics a ++ ics b := by simp [ics]
end Go.Proofs.YtpbbemmjodegkaaDoor
