/-
  Texts: Opb, Opd.
-/
import Derived.Test.YtagpphelgghbpaaGreatAk50
import Derived.Test.YtagpphelgghbpaaGreatAk3
set_option linter.unusedSimpArgs false
set_option linter.unusedVariables false
namespace Go.Proofs.YtagpphelgghbpaaGreat
open Go.Joins Go.ChangeShapes Go.WideShapes Go.ChangeAt Go.RowKit Go.Deep

def Wt {H : Type} (P : Program) (t : TypeId) (d : DataW H) : Prop := ∀ n ∈ d.weights P t, n ≤ reachBytes
theorem weights_each {H : Type} {P : Program} : ∀ (ts : List TypeId) (ds : List (DataW H)) {j : Nat} {t : TypeId} {d : DataW H}, ts[j]? = some t → ds[j]? = some d → ∀ n ∈ d.weights P t, n ∈ DataW.weightsEach P ts ds
  | [], _, j, _, _, h, _ => by simp at h
  | _ :: _, [], j, _, _, _, h => by simp at h
  | t0 :: ts, d0 :: ds, 0, t, d, h1, h2 => by
    simp at h1 h2
    subst h1 h2
    intro n hn
    unfold DataW.weightsEach
    exact List.mem_append_left _ hn
  | t0 :: ts, d0 :: ds, j + 1, t, d, h1, h2 => by
    intro n hn
    unfold DataW.weightsEach
    exact List.mem_append_right _ (weights_each ts ds (by simpa using h1) (by simpa using h2) n hn)
theorem weights_all {H : Type} {P : Program} {e : TypeId} : ∀ (ds : List (DataW H)) {j : Nat} {d : DataW H}, ds[j]? = some d → ∀ n ∈ d.weights P e, n ∈ DataW.weightsAll P e ds
  | [], j, _, h => by simp at h
  | d0 :: ds, 0, d, h2 => by
    simp at h2
    subst h2
    intro n hn
    unfold DataW.weightsAll
    exact List.mem_append_left _ hn
  | d0 :: ds, j + 1, d, h2 => by
    intro n hn
    unfold DataW.weightsAll
    exact List.mem_append_right _ (weights_all ds (by simpa using h2) n hn)
theorem drop_seg (cs : List Value) (o k r : Nat) (h : o + k = r) : cs.drop o = (cs.drop o).take k ++ cs.drop r := by
  subst h
  rw [← List.drop_drop, List.take_append_drop]
section
variable {H : Type} {enc : TypeId × Value → H} {W : World} {base : Nat} {spare : Nat → Bool} {held : Bool}

theorem field_w {P : Program} {fuel : Nat} {e : TypeId} {fs : Array Field} {cs : List Value} {x : DataW H × List MemPlace} (he : P.underlying e = some (.struct fs)) (h : DataW.trod enc P W base spare held fuel e cs = some x) (hw : Wt P e x.1) :
    cs.length = P.cellsOf e ∧ ∀ (j o k : Nat) (t : TypeId), (∃ f, fs[j]? = some f ∧ f.offset = o ∧ f.type = t) → P.cellsOf t = k → ∃ (y : DataW H × List MemPlace) (n : Nat), DataW.trod enc P W base spare held n t ((cs.drop o).take k) = some y ∧ Wt P t y.1 := by
  obtain ⟨ys, n, _, hx, hlen, hyl, hf⟩ := DataW.trod_struct he h
  refine ⟨hlen, fun j o k t ⟨f, hj, ho, ht⟩ hk => ?_⟩
  subst ho ht hk
  have hjl : j < fs.size := (Array.getElem?_eq_some_iff.1 hj).1
  have h1 := hf j f hj
  have h2 : ys[j]? = some (ys[j]'(by omega)) := List.getElem?_eq_getElem (by omega)
  rw [h2] at h1
  refine ⟨_, n, h1, fun m hm => hw m ?_⟩
  rw [hx]
  unfold DataW.weights
  rw [he]
  exact weights_each (j := j) _ _ (by rw [List.getElem?_map]; simp [hj]) (by rw [List.getElem?_map, h2]; rfl) m hm
theorem elem_w {P : Program} {fuel n : Nat} {e t : TypeId} {cs : List Value} {x : DataW H × List MemPlace} (he : P.underlying e = some (.array n t)) (h : DataW.trod enc P W base spare held fuel e cs = some x) (hw : Wt P e x.1) :
    cs.length = P.cellsOf e ∧ ∀ (j o k : Nat), j < n → P.cellsOf t = k → j * k = o → ∃ (y : DataW H × List MemPlace) (m : Nat), DataW.trod enc P W base spare held m t ((cs.drop o).take k) = some y ∧ Wt P t y.1 := by
  obtain ⟨ys, m, _, hx, hlen, hyl, hf⟩ := DataW.trod_array he h
  refine ⟨hlen, fun j o k hj hk ho => ?_⟩
  subst hk ho
  have h1 := hf j hj
  have h2 : ys[j]? = some (ys[j]'(by omega)) := List.getElem?_eq_getElem (by omega)
  rw [h2] at h1
  refine ⟨_, m, h1, fun q hq => hw q ?_⟩
  rw [hx]
  unfold DataW.weights
  rw [he]
  exact weights_all (j := j) _ (by rw [List.getElem?_map, h2]; rfl) q hq
theorem slice_w {P : Program} {fuel len cap : Nat} {e t : TypeId} {a : Option Addr} {x : DataW H × List MemPlace} (ht : P.underlying t = some (.slice e)) (h : DataW.trod enc P W base spare held fuel t [.slice a len cap] = some x) (hw : Wt P t x.1) : len * P.bytesOf e ≤ reachBytes := by
  rcases open_slice ht h with ⟨hcs, _⟩ | ⟨b, l, c, m, n, D, Pl, hcs, _, hlc, hm, hmm, hx, hi⟩
  · injection hcs with hcs
    injection hcs with _ h0
    subst h0
    simp
  · injection hcs with hcs
    injection hcs with _ h0
    subst h0
    have := hw ((((List.range len).map D).length + ((List.range (m - len)).map fun j => D (len + j)).length) * P.bytesOf e) (by
      rw [hx]
      unfold DataW.weights
      rw [ht]
      exact List.mem_cons_self ..)
    refine Nat.le_trans (Nat.mul_le_mul_right _ ?_) this
    simp
theorem flat_map {α : Type} (f : α → List Value) (l : List α) : (l.map f).flatten = l.flatMap f := by rw [List.flatMap_def]
theorem flat_ints (l : List Int) : (l.map fun i => [Value.int .i64 i]).flatten = ics l := by
  induction l with
  | nil => rfl
  | cons x l ih => simp only [List.map_cons, List.flatten_cons, ih]; rfl
theorem wf_i {x : Int} (h : (Lit.int .i64 x).wf = true) : wfI x := by
  have h2 := h
  simp [Lit.wf, IntKind.min, IntKind.max, IntKind.signed, IntKind.bits] at h2
  unfold wfI
  omega
theorem ml : maxLen = 9223372036854775807 := rfl
theorem cells_int : Tryz.prog.cellsOf 3 = 1 := by kernel_rfl
theorem cells_bool : Tryz.prog.cellsOf 4 = 1 := by kernel_rfl
theorem cells_phase : Tryz.prog.cellsOf 31 = 1 := by kernel_rfl
theorem cells_ints : Tryz.prog.cellsOf 25 = 1 := by kernel_rfl
theorem cells_objs : Tryz.prog.cellsOf 22 = 1 := by kernel_rfl
theorem cells_itms : Tryz.prog.cellsOf 29 = 1 := by kernel_rfl
theorem cells_blks : Tryz.prog.cellsOf 30 = 1 := by kernel_rfl
theorem cells_seat : Tryz.prog.cellsOf 27 = 14 := by kernel_rfl
theorem cells_seats : Tryz.prog.cellsOf 28 = 28 := by kernel_rfl
theorem bytes_int : Tryz.prog.bytesOf 3 = 8 := by kernel_rfl
theorem bytes_item : Tryz.prog.bytesOf 55 = 56 := by kernel_rfl
theorem cells_pl : Tryz.prog.cellsOf 24 = 4 := by kernel_rfl
theorem open_intc {fuel : Nat} {cs : List Value} {x : DataW H × List MemPlace} (h : DataW.trod enc Tryz.prog W base spare held fuel 3 cs = some x) : ∃ i : Int, cs = [.int .i64 i] ∧ wfI i := by
  obtain ⟨i, e, _, hw⟩ := DataW.trod_int Tryz.underlying3 h
  exact ⟨i, e, wf_i hw⟩
theorem open_phase {fuel : Nat} {cs : List Value} {x : DataW H × List MemPlace} (h : DataW.trod enc Tryz.prog W base spare held fuel 31 cs = some x) : ∃ i : Int, cs = [.int .i64 i] := by
  obtain ⟨i, e, _, _⟩ := DataW.trod_int Tryz.underlying31 h
  exact ⟨i, e⟩
theorem open_boolc {fuel : Nat} {cs : List Value} {x : DataW H × List MemPlace} (h : DataW.trod enc Tryz.prog W base spare held fuel 4 cs = some x) : ∃ i : Bool, cs = [.bool i] := by
  obtain ⟨i, e, _⟩ := DataW.trod_bool Tryz.underlying4 h
  exact ⟨i, e⟩
theorem open_li {fuel : Nat} {cs : List Value} {x : DataW H × List MemPlace} (h : DataW.trod enc Tryz.prog W base spare held fuel 25 cs = some x) (hw : Wt Tryz.prog 25 x.1) : ∃ (s : Sl) (l : List Int), cs = [s.v l.length] ∧ LsR W s l ∧ l.length ≤ 17592186044416 := by
  obtain ⟨a, len, cap, l, e, hr, hg, hlc, ha, hc⟩ := open_rows (k := 1) (fun i : Int => [Value.int .i64 i]) wfI Tryz.underlying25 cells_int (by decide) (fun _ => rfl) (fun _ _ _ h => open_intc h) h
  subst e
  have hs := slice_w Tryz.underlying25 h hw
  rw [bytes_int] at hs
  have hll : l.length = len := by simpa using hr.2.2
  have hrr := hr.1
  rw [flat_ints] at hrr
  unfold reachBytes at hs
  rw [ml] at hc
  exact ⟨⟨a, cap⟩, l, by rw [hll]; rfl, ⟨by rw [hll]; exact hrr, ⟨by rw [hll]; exact hlc, ha, hc⟩, hg⟩, by omega⟩
theorem open_tg {fuel : Nat} {cs : List Value} {x : DataW H × List MemPlace} (h : DataW.trod enc Tryz.prog W base spare held fuel 124 cs = some x) : ∃ r : Tg, cs = r.cells ∧ True := by
  obtain ⟨hl, hf⟩ := row_cells Tryz.underlying124 (by kernel_rfl) (by kernel_rfl) h
  obtain ⟨v0, y0, n0, c0, t0⟩ := hf 0 _ rfl
  obtain ⟨k0, e0, w0⟩ := open_intc t0
  obtain ⟨v1, y1, n1, c1, t1⟩ := hf 1 _ rfl
  obtain ⟨k1, e1, w1⟩ := open_intc t1
  simp only [List.cons.injEq, and_true] at e0 e1
  subst e0 e1
  refine ⟨⟨k0, k1⟩, ?_, trivial⟩
  have hl2 : cs.length = 2 := hl
  match cs, hl2, c0, c1 with
  | [a0, a1], _, c0, c1 =>
    simp at c0 c1
    subst c0 c1
    rfl
theorem open_bk {fuel : Nat} {cs : List Value} {x : DataW H × List MemPlace} (h : DataW.trod enc Tryz.prog W base spare held fuel 84 cs = some x) : ∃ r : Bk, cs = r.cells ∧ (wfI r.a ∧ wfI r.b) := by
  obtain ⟨hl, hf⟩ := row_cells Tryz.underlying84 (by kernel_rfl) (by kernel_rfl) h
  obtain ⟨v0, y0, n0, c0, t0⟩ := hf 0 _ rfl
  obtain ⟨k0, e0, w0⟩ := open_intc t0
  obtain ⟨v1, y1, n1, c1, t1⟩ := hf 1 _ rfl
  obtain ⟨k1, e1, w1⟩ := open_intc t1
  simp only [List.cons.injEq, and_true] at e0 e1
  subst e0 e1
  refine ⟨⟨k0, k1⟩, ?_, ⟨w1, w0⟩⟩
  have hl2 : cs.length = 2 := hl
  match cs, hl2, c0, c1 with
  | [a0, a1], _, c0, c1 =>
    simp at c0 c1
    subst c0 c1
    rfl
theorem open_ob {fuel : Nat} {cs : List Value} {x : DataW H × List MemPlace} (h : DataW.trod enc Tryz.prog W base spare held fuel 46 cs = some x) : ∃ r : Ob, cs = r.cells ∧ wfO r := by
  obtain ⟨hl, hf⟩ := row_cells Tryz.underlying46 (by kernel_rfl) (by kernel_rfl) h
  obtain ⟨v0, y0, n0, c0, t0⟩ := hf 0 _ rfl
  obtain ⟨k0, e0, w0⟩ := open_intc t0
  obtain ⟨v1, y1, n1, c1, t1⟩ := hf 1 _ rfl
  obtain ⟨k1, e1, w1⟩ := open_intc t1
  obtain ⟨v2, y2, n2, c2, t2⟩ := hf 2 _ rfl
  obtain ⟨k2, e2, w2⟩ := open_intc t2
  obtain ⟨v3, y3, n3, c3, t3⟩ := hf 3 _ rfl
  obtain ⟨k3, e3, w3⟩ := open_intc t3
  obtain ⟨v4, y4, n4, c4, t4⟩ := hf 4 _ rfl
  obtain ⟨k4, e4, w4⟩ := open_intc t4
  obtain ⟨v5, y5, n5, c5, t5⟩ := hf 5 _ rfl
  obtain ⟨k5, e5, w5⟩ := open_intc t5
  obtain ⟨v6, y6, n6, c6, t6⟩ := hf 6 _ rfl
  obtain ⟨k6, e6, w6⟩ := open_intc t6
  obtain ⟨v7, y7, n7, c7, t7⟩ := hf 7 _ rfl
  obtain ⟨k7, e7, w7⟩ := open_intc t7
  obtain ⟨v8, y8, n8, c8, t8⟩ := hf 8 _ rfl
  obtain ⟨k8, e8, w8⟩ := open_intc t8
  obtain ⟨v9, y9, n9, c9, t9⟩ := hf 9 _ rfl
  obtain ⟨k9, e9⟩ := open_boolc t9
  obtain ⟨v10, y10, n10, c10, t10⟩ := hf 10 _ rfl
  obtain ⟨k10, e10⟩ := open_boolc t10
  obtain ⟨v11, y11, n11, c11, t11⟩ := hf 11 _ rfl
  obtain ⟨k11, e11⟩ := open_boolc t11
  simp only [List.cons.injEq, and_true] at e0 e1 e2 e3 e4 e5 e6 e7 e8 e9 e10 e11
  subst e0 e1 e2 e3 e4 e5 e6 e7 e8 e9 e10 e11
  refine ⟨⟨k0, k1, k2, k3, k4, k5, k6, k7, k8, k9, k10, k11⟩, ?_, ⟨w0, w1, w2⟩⟩
  have hl2 : cs.length = 12 := hl
  match cs, hl2, c0, c1, c2, c3, c4, c5, c6, c7, c8, c9, c10, c11 with
  | [a0, a1, a2, a3, a4, a5, a6, a7, a8, a9, a10, a11], _, c0, c1, c2, c3, c4, c5, c6, c7, c8, c9, c10, c11 =>
    simp at c0 c1 c2 c3 c4 c5 c6 c7 c8 c9 c10 c11
    subst c0 c1 c2 c3 c4 c5 c6 c7 c8 c9 c10 c11
    rfl
def ItG (W : World) (p : It × Sl) : Prop := wfX p.1 ∧ Reads W 2 p.2.A p.1.tgs.length (tcs p.1.tgs) ∧ p.2.ok p.1.tgs.length
theorem open_it {fuel : Nat} {cs : List Value} {x : DataW H × List MemPlace} (h : DataW.trod enc Tryz.prog W base spare held fuel 55 cs = some x) : ∃ p : It × Sl, cs = p.1.cells p.2 ∧ ItG W p := by
  obtain ⟨hl, hf⟩ := row_cells Tryz.underlying55 (by kernel_rfl) (by kernel_rfl) h
  obtain ⟨v0, y0, n0, c0, t0⟩ := hf 0 _ rfl
  obtain ⟨k0, e0, w0⟩ := open_intc t0
  obtain ⟨v1, y1, n1, c1, t1⟩ := hf 1 _ rfl
  obtain ⟨k1, e1, w1⟩ := open_intc t1
  obtain ⟨v2, y2, n2, c2, t2⟩ := hf 2 _ rfl
  obtain ⟨k2, e2, w2⟩ := open_intc t2
  obtain ⟨v3, y3, n3, c3, t3⟩ := hf 3 _ rfl
  obtain ⟨k3, e3, w3⟩ := open_intc t3
  obtain ⟨v4, y4, n4, c4, t4⟩ := hf 4 _ rfl
  obtain ⟨a, len, cap, l, e4, hr, _, hlc, ha, hc⟩ := open_rows (k := 2) Tg.cells (fun _ => True) Tryz.underlying53 (by kernel_rfl) (by decide) (fun _ => rfl) (fun _ _ _ h => open_tg h) t4
  simp only [List.cons.injEq, and_true] at e0 e1 e2 e3 e4
  subst e0 e1 e2 e3 e4
  have hll : l.length = len := by simpa using hr.2.2
  have hrr := hr.1
  rw [flat_map] at hrr
  rw [ml] at hc
  refine ⟨(⟨k0, k1, k2, k3, l⟩, ⟨a, cap⟩), ?_, ⟨w0, w1, w2, w3⟩, ?_, ⟨?_, ha, hc⟩⟩
  · have hl2 : cs.length = 5 := hl
    match cs, hl2, c0, c1, c2, c3, c4 with
    | [a0, a1, a2, a3, a4], _, c0, c1, c2, c3, c4 =>
      simp at c0 c1 c2 c3 c4
      subst c0 c1 c2 c3 c4
      show _ = [_, _, _, _, Sl.v _ _]
      unfold Sl.v
      rw [hll]
  · show Reads W 2 a l.length (l.flatMap Tg.cells)
    rw [hll]
    exact hrr
  · show l.length ≤ cap
    rw [hll]
    exact hlc
theorem zip_self {α β : Type} (l : List (α × β)) : (l.map (·.1)).zip (l.map (·.2)) = l := by
  induction l with
  | nil => rfl
  | cons x l ih => simp [ih]
theorem open_its {fuel : Nat} {cs : List Value} {x : DataW H × List MemPlace} (h : DataW.trod enc Tryz.prog W base spare held fuel 29 cs = some x) (hw : Wt Tryz.prog 29 x.1) : ∃ (s : Sl) (l : List It) (ts : List Sl), cs = [s.v l.length] ∧ IsR W s l ts ∧ (∀ x ∈ l, wfX x) ∧ l.length ≤ 17592186044416 := by
  obtain ⟨a, len, cap, l, e, hr, hg, hlc, ha, hc⟩ := open_rows (k := 5) (fun p : It × Sl => p.1.cells p.2) (ItG W) Tryz.underlying29 (by kernel_rfl) (by decide) (fun _ => rfl) (fun _ _ _ h => open_it h) h
  subst e
  have hs := slice_w Tryz.underlying29 h hw
  rw [bytes_item] at hs
  have hll : l.length = len := by simpa using hr.2.2
  have hrr := hr.1
  rw [flat_map] at hrr
  unfold reachBytes at hs
  rw [ml] at hc
  refine ⟨⟨a, cap⟩, l.map (·.1), l.map (·.2), by rw [List.length_map, hll]; rfl, ⟨by simp, by rw [List.length_map, zip_self, hll]; exact hrr, ⟨by rw [List.length_map, hll]; exact hlc, ha, hc⟩, fun i x t h1 h2 => ?_⟩, fun x hx => ?_, by rw [List.length_map]; omega⟩
  · rw [List.getElem?_map] at h1 h2
    cases hi : l[i]? with
    | none => rw [hi] at h1; cases h1
    | some p =>
      rw [hi] at h1 h2
      simp at h1 h2
      subst h1 h2
      exact (hg p (List.mem_of_getElem? hi)).2
  · obtain ⟨p, hp, rfl⟩ := List.mem_map.1 hx
    exact (hg p hp).1
theorem open_obs {fuel : Nat} {cs : List Value} {x : DataW H × List MemPlace} (h : DataW.trod enc Tryz.prog W base spare held fuel 22 cs = some x) : ∃ (s : Sl) (l : List Ob), cs = [s.v l.length] ∧ Reads W 12 s.A l.length (l.flatMap Ob.cells) ∧ s.ok l.length ∧ (∀ r ∈ l, wfO r) := by
  obtain ⟨a, len, cap, l, e, hr, hg, hlc, ha, hc⟩ := open_rows (k := 12) Ob.cells wfO Tryz.underlying22 (by kernel_rfl) (by decide) (fun _ => rfl) (fun _ _ _ h => open_ob h) h
  subst e
  have hll : l.length = len := by simpa using hr.2.2
  have hrr := hr.1
  rw [flat_map] at hrr
  rw [ml] at hc
  exact ⟨⟨a, cap⟩, l, by rw [hll]; rfl, by rw [hll]; exact hrr, ⟨by rw [hll]; exact hlc, ha, hc⟩, hg⟩
theorem open_bks {fuel : Nat} {cs : List Value} {x : DataW H × List MemPlace} (h : DataW.trod enc Tryz.prog W base spare held fuel 30 cs = some x) : ∃ (s : Sl) (l : List Bk), cs = [s.v l.length] ∧ Reads W 2 s.A l.length (l.flatMap Bk.cells) ∧ s.ok l.length ∧ (∀ r ∈ l, (fun r : Bk => wfI r.a ∧ wfI r.b) r) := by
  obtain ⟨a, len, cap, l, e, hr, hg, hlc, ha, hc⟩ := open_rows (k := 2) Bk.cells (fun r : Bk => wfI r.a ∧ wfI r.b) Tryz.underlying30 (by kernel_rfl) (by decide) (fun _ => rfl) (fun _ _ _ h => open_bk h) h
  subst e
  have hll : l.length = len := by simpa using hr.2.2
  have hrr := hr.1
  rw [flat_map] at hrr
  rw [ml] at hc
  exact ⟨⟨a, cap⟩, l, by rw [hll]; rfl, by rw [hll]; exact hrr, ⟨by rw [hll]; exact hlc, ha, hc⟩, hg⟩
theorem open_pool {fuel : Nat} {cs : List Value} {x : DataW H × List MemPlace} (h : DataW.trod enc Tryz.prog W base spare held fuel 24 cs = some x) (hw : Wt Tryz.prog 24 x.1) : ∃ p0 p1 p2 p3 : Int, cs = [.int .i64 p0, .int .i64 p1, .int .i64 p2, .int .i64 p3] := by
  obtain ⟨hl, hf⟩ := elem_w Tryz.underlying24 h hw
  have hl4 : cs.length = 4 := hl.trans cells_pl
  obtain ⟨y0, n0, t0, _⟩ := hf 0 0 1 (by decide) cells_int rfl
  obtain ⟨k0, e0, _⟩ := open_intc t0
  obtain ⟨y1, n1, t1, _⟩ := hf 1 1 1 (by decide) cells_int rfl
  obtain ⟨k1, e1, _⟩ := open_intc t1
  obtain ⟨y2, n2, t2, _⟩ := hf 2 2 1 (by decide) cells_int rfl
  obtain ⟨k2, e2, _⟩ := open_intc t2
  obtain ⟨y3, n3, t3, _⟩ := hf 3 3 1 (by decide) cells_int rfl
  obtain ⟨k3, e3, _⟩ := open_intc t3
  have key := ((drop_seg cs 0 1 1 rfl).trans (congrArg ((cs.drop 0).take 1 ++ ·) ((drop_seg cs 1 1 2 rfl).trans (congrArg ((cs.drop 1).take 1 ++ ·) ((drop_seg cs 2 1 3 rfl).trans (congrArg ((cs.drop 2).take 1 ++ ·) ((drop_seg cs 3 1 4 rfl).trans (congrArg ((cs.drop 3).take 1 ++ ·) (List.drop_eq_nil_of_le (Nat.le_of_eq hl4) : cs.drop 4 = [])))))))))
  rw [e0, e1, e2, e3, List.drop_zero] at key
  exact ⟨k0, k1, k2, k3, key⟩
theorem open_seat {fuel : Nat} {cs : List Value} {x : DataW H × List MemPlace} (h : DataW.trod enc Tryz.prog W base spare held fuel 27 cs = some x) (hw : Wt Tryz.prog 27 x.1) : ∃ (s : Se) (m : SeM), cs = s.cells m ∧ SeR W s m ∧ s.ids.length ≤ 70368744177664 := by
  obtain ⟨hl, hf⟩ := field_w Tryz.underlying27 h hw
  have hl14 : cs.length = 14 := hl.trans cells_seat
  obtain ⟨y0, n0, t0, z0⟩ := hf 0 0 1 3 ⟨_, rfl, rfl, rfl⟩ cells_int
  obtain ⟨k0, e0, _⟩ := open_intc t0
  obtain ⟨y1, n1, t1, z1⟩ := hf 1 1 4 24 ⟨_, rfl, rfl, rfl⟩ cells_pl
  obtain ⟨p0, p1, p2, p3, e1⟩ := open_pool t1 z1
  obtain ⟨y2, n2, t2, z2⟩ := hf 2 5 1 25 ⟨_, rfl, rfl, rfl⟩ cells_ints
  obtain ⟨s2, l2, e2, r2, b2⟩ := open_li t2 z2
  obtain ⟨y3, n3, t3, z3⟩ := hf 3 6 1 25 ⟨_, rfl, rfl, rfl⟩ cells_ints
  obtain ⟨s3, l3, e3, r3, b3⟩ := open_li t3 z3
  obtain ⟨y4, n4, t4, z4⟩ := hf 4 7 1 25 ⟨_, rfl, rfl, rfl⟩ cells_ints
  obtain ⟨s4, l4, e4, r4, b4⟩ := open_li t4 z4
  obtain ⟨y5, n5, t5, z5⟩ := hf 5 8 1 25 ⟨_, rfl, rfl, rfl⟩ cells_ints
  obtain ⟨s5, l5, e5, r5, b5⟩ := open_li t5 z5
  obtain ⟨y6, n6, t6, z6⟩ := hf 6 9 1 4 ⟨_, rfl, rfl, rfl⟩ cells_bool
  obtain ⟨k6, e6⟩ := open_boolc t6
  obtain ⟨y7, n7, t7, z7⟩ := hf 7 10 1 4 ⟨_, rfl, rfl, rfl⟩ cells_bool
  obtain ⟨k7, e7⟩ := open_boolc t7
  obtain ⟨y8, n8, t8, z8⟩ := hf 8 11 1 4 ⟨_, rfl, rfl, rfl⟩ cells_bool
  obtain ⟨k8, e8⟩ := open_boolc t8
  obtain ⟨y9, n9, t9, z9⟩ := hf 9 12 1 3 ⟨_, rfl, rfl, rfl⟩ cells_int
  obtain ⟨k9, e9, _⟩ := open_intc t9
  obtain ⟨y10, n10, t10, z10⟩ := hf 10 13 1 3 ⟨_, rfl, rfl, rfl⟩ cells_int
  obtain ⟨k10, e10, _⟩ := open_intc t10
  have key := ((drop_seg cs 0 1 1 rfl).trans (congrArg ((cs.drop 0).take 1 ++ ·) ((drop_seg cs 1 4 5 rfl).trans (congrArg ((cs.drop 1).take 4 ++ ·) ((drop_seg cs 5 1 6 rfl).trans (congrArg ((cs.drop 5).take 1 ++ ·) ((drop_seg cs 6 1 7 rfl).trans (congrArg ((cs.drop 6).take 1 ++ ·) ((drop_seg cs 7 1 8 rfl).trans (congrArg ((cs.drop 7).take 1 ++ ·) ((drop_seg cs 8 1 9 rfl).trans (congrArg ((cs.drop 8).take 1 ++ ·) ((drop_seg cs 9 1 10 rfl).trans (congrArg ((cs.drop 9).take 1 ++ ·) ((drop_seg cs 10 1 11 rfl).trans (congrArg ((cs.drop 10).take 1 ++ ·) ((drop_seg cs 11 1 12 rfl).trans (congrArg ((cs.drop 11).take 1 ++ ·) ((drop_seg cs 12 1 13 rfl).trans (congrArg ((cs.drop 12).take 1 ++ ·) ((drop_seg cs 13 1 14 rfl).trans (congrArg ((cs.drop 13).take 1 ++ ·) (List.drop_eq_nil_of_le (Nat.le_of_eq hl14) : cs.drop 14 = [])))))))))))))))))))))))
  rw [e0, e1, e2, e3, e4, e5, e6, e7, e8, e9, e10, List.drop_zero] at key
  refine ⟨⟨k0, p0, p1, p2, p3, l2, l3, l4, l5, k6, k7, k8, k9, k10⟩, ⟨s2, s3, s4, s5⟩, key, ⟨r2, r3, r4, r5⟩, ?_⟩
  simp only [Se.ids, List.length_append]
  omega
theorem open_seats {fuel : Nat} {cs : List Value} {x : DataW H × List MemPlace} (h : DataW.trod enc Tryz.prog W base spare held fuel 28 cs = some x) (hw : Wt Tryz.prog 28 x.1) : ∃ (s : Se) (m : SeM) (s' : Se) (m' : SeM), cs = s.cells m ++ s'.cells m' ∧ SeR W s m ∧ SeR W s' m' ∧ s.ids.length ≤ 70368744177664 ∧ s'.ids.length ≤ 70368744177664 := by
  obtain ⟨hl, hf⟩ := elem_w Tryz.underlying28 h hw
  have hl28 : cs.length = 28 := hl.trans cells_seats
  obtain ⟨y0, n0, t0, z0⟩ := hf 0 0 14 (by decide) cells_seat rfl
  obtain ⟨s, m, e0, r0, b0⟩ := open_seat t0 z0
  obtain ⟨y1, n1, t1, z1⟩ := hf 1 14 14 (by decide) cells_seat rfl
  obtain ⟨s', m', e1, r1, b1⟩ := open_seat t1 z1
  have key := ((drop_seg cs 0 14 14 rfl).trans (congrArg ((cs.drop 0).take 14 ++ ·) ((drop_seg cs 14 14 28 rfl).trans (congrArg ((cs.drop 14).take 14 ++ ·) (List.drop_eq_nil_of_le (Nat.le_of_eq hl28) : cs.drop 28 = [])))))
  rw [e0, e1, List.drop_zero, List.append_nil] at key
  exact ⟨s, m, s', m', key, r0, r1, b0, b1⟩
set_option maxRecDepth 100000 in
theorem open_board_cells {fuel : Nat} {cs : List Value} {x : DataW H × List MemPlace} (h : DataW.trod enc Tryz.prog W base spare held fuel 33 cs = some x) (hw : Wt Tryz.prog 33 x.1) : ∃ (b : Bd) (m : BdM), cs = b.cells m ∧ BdR W b m ∧ b.plc.length < 9223372036854775807 := by
  obtain ⟨hl, hf⟩ := field_w Tryz.underlying33 h hw
  have hl38 : cs.length = 38 := hl.trans (by kernel_rfl)
  obtain ⟨y0, n0, t0, z0⟩ := hf 0 0 1 22 ⟨_, rfl, rfl, rfl⟩ cells_objs
  obtain ⟨s0, l0, e0, r0, o0, g0⟩ := open_obs t0
  obtain ⟨y1, n1, t1, z1⟩ := hf 1 1 28 28 ⟨_, rfl, rfl, rfl⟩ cells_seats
  obtain ⟨sa, ma, sb, mb, e1, ra, rb, ba, bb⟩ := open_seats t1 z1
  obtain ⟨y2, n2, t2, z2⟩ := hf 2 29 1 29 ⟨_, rfl, rfl, rfl⟩ cells_itms
  obtain ⟨s2, l2, ts2, e2, r2, g2, b2⟩ := open_its t2 z2
  obtain ⟨y3, n3, t3, z3⟩ := hf 3 30 1 29 ⟨_, rfl, rfl, rfl⟩ cells_itms
  obtain ⟨s3, l3, ts3, e3, r3, g3, b3⟩ := open_its t3 z3
  obtain ⟨y4, n4, t4, z4⟩ := hf 4 31 1 25 ⟨_, rfl, rfl, rfl⟩ cells_ints
  obtain ⟨s4, l4, e4, r4, b4⟩ := open_li t4 z4
  obtain ⟨y5, n5, t5, z5⟩ := hf 5 32 1 30 ⟨_, rfl, rfl, rfl⟩ cells_blks
  obtain ⟨s5, l5, e5, r5, o5, g5⟩ := open_bks t5
  obtain ⟨y6, n6, t6, z6⟩ := hf 6 33 1 3 ⟨_, rfl, rfl, rfl⟩ cells_int
  obtain ⟨k6, e6, _⟩ := open_intc t6
  obtain ⟨y7, n7, t7, z7⟩ := hf 7 34 1 3 ⟨_, rfl, rfl, rfl⟩ cells_int
  obtain ⟨k7, e7, _⟩ := open_intc t7
  obtain ⟨y8, n8, t8, z8⟩ := hf 8 35 1 31 ⟨_, rfl, rfl, rfl⟩ cells_phase
  obtain ⟨k8, e8⟩ := open_phase t8
  obtain ⟨y9, n9, t9, z9⟩ := hf 9 36 1 3 ⟨_, rfl, rfl, rfl⟩ cells_int
  obtain ⟨k9, e9, _⟩ := open_intc t9
  obtain ⟨y10, n10, t10, z10⟩ := hf 10 37 1 3 ⟨_, rfl, rfl, rfl⟩ cells_int
  obtain ⟨k10, e10, _⟩ := open_intc t10
  have key := ((drop_seg cs 0 1 1 rfl).trans (congrArg ((cs.drop 0).take 1 ++ ·) ((drop_seg cs 1 28 29 rfl).trans (congrArg ((cs.drop 1).take 28 ++ ·) ((drop_seg cs 29 1 30 rfl).trans (congrArg ((cs.drop 29).take 1 ++ ·) ((drop_seg cs 30 1 31 rfl).trans (congrArg ((cs.drop 30).take 1 ++ ·) ((drop_seg cs 31 1 32 rfl).trans (congrArg ((cs.drop 31).take 1 ++ ·) ((drop_seg cs 32 1 33 rfl).trans (congrArg ((cs.drop 32).take 1 ++ ·) ((drop_seg cs 33 1 34 rfl).trans (congrArg ((cs.drop 33).take 1 ++ ·) ((drop_seg cs 34 1 35 rfl).trans (congrArg ((cs.drop 34).take 1 ++ ·) ((drop_seg cs 35 1 36 rfl).trans (congrArg ((cs.drop 35).take 1 ++ ·) ((drop_seg cs 36 1 37 rfl).trans (congrArg ((cs.drop 36).take 1 ++ ·) ((drop_seg cs 37 1 38 rfl).trans (congrArg ((cs.drop 37).take 1 ++ ·) (List.drop_eq_nil_of_le (Nat.le_of_eq hl38) : cs.drop 38 = [])))))))))))))))))))))))
  rw [e0, e1, e2, e3, e4, e5, e6, e7, e8, e9, e10, List.drop_zero] at key
  refine ⟨⟨l0, sa, sb, l2, l3, l4, l5, k6, k7, k8, k9, k10⟩, ⟨s0, ma, mb, s2, s3, ts2, ts3, s4, s5⟩, ?_, ⟨r0, o0, g0, ra, rb, r2, g2, r3, g3, r4, r5, o5, g5⟩, ?_⟩
  · exact key
  · have hst : (l2.filter fun x => decide (x.trg < 0)).length ≤ l2.length := List.length_filter_le _ _
    simp only [Bd.plc, onStk, List.length_append, List.length_map]
    omega
set_option maxRecDepth 100000 in
theorem open_board {r : Reach} {b0 : Nat} {v : Value} {d : DataW H} {p : List MemPlace} (hv : Value.okWide Tryz.prog W r b0 33 v) (h : DataW.Trod enc Tryz.prog W base spare held 33 v d p) (hw : Wt Tryz.prog 33 d) : ∃ (b : Bd) (m : BdM), v = .agg (b.cells m).toArray ∧ BdR W b m ∧ b.plc.length < 9223372036854775807 := by
  obtain ⟨cs, rfl, hsz⟩ := okWide_struct Tryz.underlying33 hv
  obtain ⟨fuel, hf0⟩ := h
  obtain ⟨b, m, e, hR, hz⟩ := open_board_cells hf0 hw
  refine ⟨b, m, ?_, hR, hz⟩
  have hcs : cs = ((Value.agg cs).cells.toList).toArray := by simp [Value.cells]
  rw [hcs, e]
end
end Go.Proofs.YtagpphelgghbpaaGreat

set_option linter.unusedSimpArgs false
set_option linter.unusedVariables false
namespace Go.Proofs.YtagpphelgghbpaaGreat
open Go.Joins Go.ChangeShapes Go.WideShapes Go.ChangeAt Go.RowKit Go.Deep

section
variable {H : Type} {enc : TypeId × Value → H} {W : World} {base : Nat} {spare : Nat → Bool} {held : Bool}
end
end Go.Proofs.YtagpphelgghbpaaGreat
