/-
  Rows that the call makes, of packets and of things that were done: what an append leaves of the others.
-/
import Derived.Test.YtleckpoppmecdaaRowLaw
import Derived.Deep.AppendLies
set_option linter.unusedSimpArgs false
set_option linter.unusedVariables false
namespace Go.Proofs.Ytleckpoppmecdaa
open Go.RowKit

theorem Try.info51' : (Try.prog.info? 51).map (fun i => (i.zero, i.size, i.bytes)) = some (some (.agg #[.int .i64 0, .slice none 0 0]), 2, 32) := by kernel_rfl
theorem Try.info49' : (Try.prog.info? 49).map (fun i => (i.zero, i.size, i.bytes)) = some (some (.agg #[.int .i64 0, .int .i64 0, .int .i64 0, .slice none 0 0, .int .i64 0, .int .i64 0, .slice none 0 0, .slice none 0 0, .int .i64 0, .int .u64 0]), 10, 128) := by kernel_rfl
theorem add_at' (g k : Nat) : (⟨g, 0, none⟩ : Addr).add k = ⟨g, k, none⟩ := by
  cases k <;> simp [Addr.add]

def SentXs (xs : List Value) (p : Nat) (ls : List Nat) : Prop :=
  ls.length = p ∧ ∀ j, j < p → xs[j * 2]? = some (.int .i64 0) ∧ ∃ a c, xs[j * 2 + 1]? = some (.slice a (ls.getD j 0) c)
def SRow (w : World) (base : Nat) (v : Value) (p : Nat) (ls : List Nat) : Prop := ∃ xs, w.ownsRow base 51 2 v p xs ∧ SentXs xs p ls

theorem SRow.nil (w : World) (base : Nat) : SRow w base (.slice none 0 0) 0 [] := ⟨[], World.ownsRow_nil w base 51 2, rfl, fun j h => absurd h (Nat.not_lt_zero _)⟩
theorem SRow.below {w w' : World} {base : Nat} {v : Value} {p : Nat} {ls : List Nat} (h : SRow w base v p ls) (hb : Below w.heap.size w w') : SRow w' base v p ls :=
  let ⟨xs, h1, h2⟩ := h
  ⟨xs, own_below h1 hb, h2⟩
theorem SRow.set {w : World} {base : Nat} {v : Value} {p : Nat} {ls : List Nat} (h : SRow w base v p ls) {a : Addr} (ha : a.block < base) (u : Value) : SRow (w.setCell a u) base v p ls :=
  let ⟨xs, h1, h2⟩ := h
  ⟨xs, ownsRow_setCell_below h1 ha u, h2⟩
theorem SRow.sent {w : World} {base : Nat} {sA : Option Addr} {p sc : Nat} {ls : List Nat} (h : SRow w base (.slice sA p sc) p ls) (mA : Option Addr) (mn mc : Nat) : SentAt w ⟨sA, p, sc, mA, mn, mc, ls⟩ := by
  obtain ⟨xs, h1, hl, hx⟩ := h
  refine ⟨hl, fun hp => ?_⟩
  obtain ⟨g, cap, e, _, hlt⟩ := h1.form hp
  injection e with e1 e2 e3
  subst e1; subst e3
  refine ⟨g, rfl, hlt, fun j hj => ?_⟩
  obtain ⟨q1, a, c, q2⟩ := hx j hj
  have k1 := h1.cells (g := g) rfl _ _ q1
  have k2 := h1.cells (g := g) rfl _ _ q2
  rw [add_at'] at k1 k2
  exact ⟨k1, a, c, k2⟩
theorem SRow.at_base {w : World} {base : Nat} {sA : Option Addr} {p sc : Nat} {ls : List Nat} (h : SRow w base (.slice sA p sc) p ls) : ∀ ad, sA = some ad → base ≤ ad.block ∧ ad.block < w.heap.size := by
  intro ad e
  subst e
  obtain ⟨xs, h1, _⟩ := h
  rcases h1.2 with ⟨h0, _⟩ | ⟨g, cap, cur, hv, hb, hg, _⟩
  · cases h0
  · injection hv with e1
    injection e1 with e1
    subst e1
    refine ⟨hb, ?_⟩
    rcases Nat.lt_or_ge g w.heap.size with hlt | hge
    · exact hlt
    · rw [Array.getElem?_eq_none hge] at hg; cases hg

theorem step_append_sent {ops : Array Oper} {o : Oper} {a : Act} {w : World} {K : Act → World → Prop} {Q : Exit → Act → World → Prop} {E : Prop} (hgd : o.guard = none) (s x : Operand)
    (ho : o.op = .call { callee := .builtin .append, args := #[s, x], argTypes := #[46, 46] })
    (base : Nat) (v : Value) (p : Nat) (ls : List Nat) (hs : a.eval s = v) (hrow : SRow w base v p ls)
    (gl c : Nat) (D : Option Addr) (m c' : Nat) (hx : a.eval x = .slice (some ⟨gl, 0, none⟩) 1 c) (h0 : w.cell? ⟨gl, 0, none⟩ = some (.int .i64 0)) (h1 : w.cell? ⟨gl, 1, none⟩ = some (.slice D m c'))
    (hp : p ≤ 1000) (hbase : base ≤ w.heap.size)
    (h : ∀ g cap w', SRow w' base (.slice (some ⟨g, 0, none⟩) (p + 1) cap) (p + 1) (ls ++ [m]) → Below base w w' → K (a.put o.dst (.slice (some ⟨g, 0, none⟩) (p + 1) cap)) w') :
    if Region.wanted o (yielded ops a.tmps) = true then Oper.wp Try.prog o a w K Q else E := by
  obtain ⟨xs, hown, hl, hx2⟩ := hrow
  obtain ⟨i0, hi, hz0, hz1, hz2⟩ := info_parts Try.info51'
  have hlen : xs.length = p * 2 := hown.1
  refine step_append_lies w hgd s x 46 ho base 51 i0 _ 2 32 Try.underlying46 hi hz0 hz1 hz2 rfl (by omega) v p xs hs hown ⟨gl, 0, none⟩ 1 c [.int .i64 0, .slice D m c'] hx rfl ?_ ?_ (by omega) (by unfold maxLen; omega) (by omega) hbase _ rfl ?_
  · intro j u hu
    rw [add_at']
    match j, hu with
    | 0, hu => simp at hu; subst hu; exact h0
    | 1, hu => simp at hu; subst hu; exact h1
    | j + 2, hu => simp at hu
  · intro u hu
    simp at hu
    rcases hu with rfl | rfl <;> rfl
  · intro g cap w' ho' hgr hat hlt
    refine h g cap w' ⟨_, ho', by simp [hl], ?_⟩ ((Below.refl _ _).grown hgr hbase (fun k hk => (hown.lt k hk).1))
    intro j hj
    rcases Nat.lt_or_ge j p with hjp | hjp
    · obtain ⟨q1, aa, cc, q2⟩ := hx2 j hjp
      refine ⟨by rw [List.getElem?_append_left (by omega)]; exact q1, aa, cc, ?_⟩
      rw [List.getElem?_append_left (by omega), q2]
      simp [List.getD, List.getElem?_append_left (show j < ls.length by omega)]
    · obtain rfl : j = p := by omega
      refine ⟨?_, D, c', ?_⟩
      · rw [List.getElem?_append_right (by omega), hlen]; simp
      · rw [List.getElem?_append_right (by omega), hlen, show j * 2 + 1 - j * 2 = 1 by omega]
        simp [List.getD, ← hl]

def didCells (d : DidR) : List Value := [.int .i64 0, .int .i64 0, .int .i64 0, .slice none 0 0, .int .i64 0, .int .i64 0, .slice d.sA d.sn d.sc, .slice d.mA d.mn d.mc, .int .i64 0, .int .u64 0]
def DidXs (xs : List Value) (ds : List DidR) : Prop := ∀ i d, ds[i]? = some d → ∀ k, k < 10 → xs[i * 10 + k]? = (didCells d)[k]?
def LRow (w : World) (base : Nat) (v : Value) (j : Nat) (ds : List DidR) : Prop :=
  ∃ xs, w.ownsRow base 49 10 v j xs ∧ ds.length = j ∧ DidXs xs ds ∧ ∀ d ∈ ds, (SentAt w d ∧ d.ls.sum ≤ 4000000000000000000 ∧ d.sn ≤ 4000000000000000000) ∧ ∀ ad, d.sA = some ad → v.ownBlock ≠ some ad.block ∧ ad.block < w.heap.size

theorem LRow.nil (w : World) (base : Nat) : LRow w base (.slice none 0 0) 0 [] := ⟨[], World.ownsRow_nil w base 49 10, rfl, fun i d h => by simp at h, fun d h => by simp at h⟩
theorem LRow.below {w w' : World} {base : Nat} {v : Value} {j : Nat} {ds : List DidR} (h : LRow w base v j ds) (hb : Below w.heap.size w w') : LRow w' base v j ds :=
  let ⟨xs, h1, h2, h3, h4⟩ := h
  ⟨xs, own_below h1 hb, h2, h3, fun d hd => ⟨⟨(h4 d hd).1.1.below hb, (h4 d hd).1.2⟩, fun ad e => ⟨((h4 d hd).2 ad e).1, Nat.lt_of_lt_of_le ((h4 d hd).2 ad e).2 hb.size⟩⟩⟩
theorem LRow.dids {w : World} {base : Nat} {A : Option Addr} {j c : Nat} {ds : List DidR} (h : LRow w base (.slice A j c) j ds) : DidsAt w A j ds := by
  obtain ⟨xs, h1, h2, h3, h4⟩ := h
  refine ⟨h2, fun d hd => (h4 d hd).1, fun hj => ?_⟩
  obtain ⟨g, cap, e, _, hlt⟩ := h1.form hj
  injection e with e1 e2 e3
  subst e1
  refine ⟨g, rfl, hlt, fun i d hi => ?_⟩
  have hc := fun k (hk : k < 10) (u : Value) (hu : (didCells d)[k]? = some u) => h1.cells (g := g) rfl (i * 10 + k) u ((h3 i d hi k hk).trans hu)
  simp only [add_at'] at hc
  exact ⟨hc 0 (by omega) _ rfl, hc 1 (by omega) _ rfl, hc 2 (by omega) _ rfl, hc 3 (by omega) _ rfl, hc 4 (by omega) _ rfl, hc 5 (by omega) _ rfl, hc 6 (by omega) _ rfl, hc 7 (by omega) _ rfl, hc 8 (by omega) _ rfl, hc 9 (by omega) _ rfl⟩

/-- What an append to a row of its own leaves of a thing whose packets lie elsewhere. -/
theorem SentAt.grown {w w' : World} {d : DidR} {row : Option Nat} (h : SentAt w d) (hg : w.grownBy w' row) (hne : ∀ ad, d.sA = some ad → row ≠ some ad.block) : SentAt w' d :=
  ⟨h.1, fun hn => by
    obtain ⟨g, e, hgl, hc⟩ := h.2 hn
    have hkeep : ∀ o, w'.cell? ⟨g, o, none⟩ = w.cell? ⟨g, o, none⟩ := fun o => hg.cell_far ⟨g, o, none⟩ hgl (fun he => hne _ e he.symm)
    refine ⟨g, e, Nat.lt_of_lt_of_le hgl hg.size, fun j hj => ?_⟩
    obtain ⟨q1, a, c, q2⟩ := hc j hj
    exact ⟨(hkeep _).trans q1, a, c, (hkeep _).trans q2⟩⟩

theorem append_did (w : World) {ops : Array Oper} {rest : List Oper} {o : Oper} {a : Act} {Q : Exit → Act → World → Prop} (hgd : o.guard = none) (s x : Operand)
    (ho : o.op = .call { callee := .builtin .append, args := #[s, x], argTypes := #[40, 40] })
    (base : Nat) (v : Value) (j : Nat) (ds : List DidR) (hs : a.eval s = v) (hrow : LRow w base v j ds)
    (gl c : Nat) (d : DidR) (hx : a.eval x = .slice (some ⟨gl, 0, none⟩) 1 c) (hd : DidAt w gl 0 d) (hS : SentAt w d ∧ d.ls.sum ≤ 4000000000000000000 ∧ d.sn ≤ 4000000000000000000)
    (hne : ∀ ad, d.sA = some ad → v.ownBlock ≠ some ad.block ∧ ad.block < w.heap.size) (hj : j ≤ 1000) (hbase : base ≤ w.heap.size)
    (h : ∀ g cap w', LRow w' base (.slice (some ⟨g, 0, none⟩) (j + 1) cap) (j + 1) (ds ++ [d]) → Below base w w' → wpList Try.prog ops Q rest (a.put o.dst (.slice (some ⟨g, 0, none⟩) (j + 1) cap)) w') : wpList Try.prog ops Q (o :: rest) a w := by
  obtain ⟨xs, hown, hl, hx2, h4⟩ := hrow
  obtain ⟨i0, hi, hz0, hz1, hz2⟩ := info_parts Try.info49'
  have hlen : xs.length = j * 10 := hown.1
  obtain ⟨d0, d1, d2, d3, d4, d5, d6, d7, d8, d9⟩ := hd
  refine wpList_append_lies w hgd s x 40 ho base 49 i0 _ 10 128 Try.underlying40 hi hz0 hz1 hz2 rfl (by omega) v j xs hs hown ⟨gl, 0, none⟩ 1 c (didCells d) hx rfl ?_ ?_ (by omega) (by unfold maxLen; omega) (by omega) hbase _ rfl ?_
  · intro k u hu
    rw [add_at']
    match k, hu with
    | 0, hu => injection hu with hu; subst hu; exact d0
    | 1, hu => injection hu with hu; subst hu; exact d1
    | 2, hu => injection hu with hu; subst hu; exact d2
    | 3, hu => injection hu with hu; subst hu; exact d3
    | 4, hu => injection hu with hu; subst hu; exact d4
    | 5, hu => injection hu with hu; subst hu; exact d5
    | 6, hu => injection hu with hu; subst hu; exact d6
    | 7, hu => injection hu with hu; subst hu; exact d7
    | 8, hu => injection hu with hu; subst hu; exact d8
    | 9, hu => injection hu with hu; subst hu; exact d9
    | k + 10, hu => simp [didCells] at hu
  · intro u hu
    simp [didCells] at hu
    repeat' (rcases hu with rfl | hu)
    all_goals first | rfl | (subst hu; rfl)
  · intro g cap w' ho' hgr hat hlt
    have hall : ∀ ad : Addr, ad.block < w.heap.size → v.ownBlock ≠ some ad.block → Value.ownBlock (.slice (some ⟨g, 0, none⟩) (j + 1) cap) ≠ some ad.block := by
      intro ad hlt' hne'
      rcases hat with hat | hat
      · intro he
        have : g = ad.block := by simpa [Value.ownBlock] using he
        exact hne' (by rw [hat, this])
      · intro he
        have : g = ad.block := by simpa [Value.ownBlock] using he
        omega
    refine h g cap w' ⟨_, ho', by simp [hl], ?_, ?_⟩ ((Below.refl _ _).grown hgr hbase (fun k hk => (hown.lt k hk).1))
    · intro i d' hi' k hk
      rcases Nat.lt_or_ge i j with hij | hij
      · rw [List.getElem?_append_left (by omega)] at hi'
        rw [List.getElem?_append_left (by omega)]
        exact hx2 i d' hi' k hk
      · rw [List.getElem?_append_right (by omega)] at hi'
        obtain rfl : i = j := by
          rcases Nat.lt_or_ge (i - ds.length) 1 with h' | h'
          · omega
          · rw [List.getElem?_eq_none (by simpa using h')] at hi'; cases hi'
        rw [hl, Nat.sub_self] at hi'
        injection hi' with hi'
        subst hi'
        rw [List.getElem?_append_right (by omega), hlen, show i * 10 + k - i * 10 = k by omega]
    · intro d' hd'
      rw [List.mem_append] at hd'
      rcases hd' with hd' | hd'
      · obtain ⟨⟨q1, q2⟩, q3⟩ := h4 d' hd'
        exact ⟨⟨q1.grown hgr (fun ad e => (q3 ad e).1), q2⟩, fun ad e => ⟨hall ad (q3 ad e).2 (q3 ad e).1, Nat.lt_of_lt_of_le (q3 ad e).2 hgr.size⟩⟩
      · rw [List.mem_singleton] at hd'
        subst hd'
        exact ⟨⟨hS.1.grown hgr (fun ad e => (hne ad e).1), hS.2⟩, fun ad e => ⟨hall ad (hne ad e).2 (hne ad e).1, Nat.lt_of_lt_of_le (hne ad e).2 hgr.size⟩⟩

end Go.Proofs.Ytleckpoppmecdaa
