/-
  Texts: Mem, Law, Only, RowR, Own, Blk.
-/
import Derived.Test.YtpbbemmjodegkaaDoorRows
import Derived.WalkKit
import Derived.WalkSpells
import Derived.WalkLawsBesides
import Derived.Deep.AppendLies
import Derived.Deep.Draws
import Derived.Lib.Hide
import Derived.Lib.Bytes
import Derived.Laws.AppendOwnNone
import Derived.Laws.Rows
namespace Go.Proofs.YtpbbemmjodegkaaDoor
open Go.RowKit

theorem block_of_add (a : Addr) (n : Nat) : (a.add n).block = a.block := by unfold Addr.add; split <;> rfl
theorem add_of_add (a : Addr) (i j : Nat) : (a.add i).add j = a.add (i + j) := by
  unfold Addr.add
  by_cases hi : i = 0 <;> by_cases hj : j = 0 <;> simp [hi, hj, Nat.add_assoc]

def Reads (w : World) (size : Nat) (A : Option Addr) (n : Nat) (xs : List Value) : Prop :=
  xs.length = n * size ∧ (0 < n → ∃ ad, A = some ad ∧ ad.block < w.heap.size ∧ ∀ j u, xs[j]? = some u → w.cell? (ad.add j) = some u)

section
variable {w w' : World} {size n : Nat} {A : Option Addr} {xs : List Value}
theorem Reads.none_ : Reads w size A 0 [] := ⟨by simp, fun h => absurd h (by omega)⟩
theorem Reads.at_ {k : Nat} (h : Reads w 1 A n xs) (hk : k < n) : ∃ ad u, A = some ad ∧ ad.block < w.heap.size ∧ xs[k]? = some u ∧ w.cell? (ad.add k) = some u := by
  obtain ⟨ad, e, hb, hc⟩ := h.2 (by omega)
  have hl : k < xs.length := by have := h.1; omega
  exact ⟨ad, xs[k], e, hb, List.getElem?_eq_getElem hl, hc k _ (List.getElem?_eq_getElem hl)⟩
theorem Reads.below (h : Reads w size A n xs) (hb : Below w.heap.size w w') : Reads w' size A n xs :=
  ⟨h.1, fun hn => by
    obtain ⟨ad, e, hbl, hc⟩ := h.2 hn
    exact ⟨ad, e, Nat.lt_of_lt_of_le hbl hb.size, fun j u hu => (hb.cell (by rw [block_of_add]; exact hbl)).trans (hc j u hu)⟩⟩
theorem Reads.drew (h : Reads w size A n xs) : Reads w.drew size A n xs := h
theorem Reads.drewN (h : Reads w size A n xs) (k : Nat) : Reads (w.drewN k) size A n xs := h
theorem Reads.alloc (h : Reads w size A n xs) (o : Obj) : Reads (w.alloc o) size A n xs := h.below ((Below.refl _ _).alloc (Nat.le_refl _) _)
theorem Reads.cut (h : Reads w size A n xs) {k cap : Nat} (hk : k ≤ n) (hc : n ≤ cap) :
    Reads w size (if cap = k then A else A.map (·.add (k * size))) (n - k) (xs.drop (k * size)) := by
  refine ⟨by rw [List.length_drop, h.1, Nat.sub_mul], fun hn => ?_⟩
  obtain ⟨ad, rfl, hb, hcell⟩ := h.2 (by omega)
  rw [if_neg (by omega)]
  refine ⟨ad.add (k * size), rfl, by rw [block_of_add]; exact hb, fun j u hu => ?_⟩
  rw [add_of_add]
  exact hcell _ u (by rw [← hu, List.getElem?_drop])
theorem Reads.head (h : Reads w size A n xs) {k : Nat} (hk : k ≤ n) : Reads w size A k (xs.take (k * size)) := by
  refine ⟨by rw [List.length_take, h.1]; exact Nat.min_eq_left (Nat.mul_le_mul_right _ hk), fun hn => ?_⟩
  obtain ⟨ad, e, hb, hc⟩ := h.2 (by omega)
  exact ⟨ad, e, hb, fun j u hu => hc j u (by
    rw [List.getElem?_take] at hu
    split at hu
    · exact hu
    · cases hu)⟩
theorem Reads.of_own {base : Nat} {e : TypeId} {c : Nat} (h : w.ownsRow base e size (.slice A n c) n xs) : Reads w size A n xs := by
  refine ⟨h.1, fun hn => ?_⟩
  obtain ⟨g, cap, hv, _, hlt⟩ := h.form hn
  have hA : A = some ⟨g, 0, none⟩ := by injection hv
  subst hA
  exact ⟨_, rfl, hlt, h.cells (g := g) rfl⟩
end

def bys (xs : List Int) : List Value := xs.map (Value.int .u8)
def IsBytes (xs : List Int) : Prop := ∀ x ∈ xs, 0 ≤ x ∧ x ≤ 255
def BReads (w : World) (A : Option Addr) (n : Nat) (xs : List Int) : Prop := Reads w 1 A n (bys xs) ∧ IsBytes xs
theorem BReads.length {w : World} {A : Option Addr} {n : Nat} {xs : List Int} (h : BReads w A n xs) : xs.length = n := by have := h.1.1; simpa [bys] using this
def nth (xs : List Int) (k : Nat) : Int := xs.getD k 0
theorem BReads.at_ {w : World} {A : Option Addr} {n : Nat} {xs : List Int} (h : BReads w A n xs) {k : Nat} (hk : k < n) :
    ∃ ad, A = some ad ∧ w.cell? (ad.add k) = some (.int .u8 (nth xs k)) ∧ 0 ≤ nth xs k ∧ nth xs k ≤ 255 := by
  obtain ⟨ad, u, e, _, hx, hc⟩ := h.1.at_ hk
  have hl := h.length
  have hg : nth xs k = xs[k]'(by omega) := by simp [nth, List.getD, List.getElem?_eq_getElem (show k < xs.length by omega)]
  have hu : u = .int .u8 (nth xs k) := by
    rw [bys, List.getElem?_map, List.getElem?_eq_getElem (by omega)] at hx
    simp only [Option.map_some, Option.some.injEq] at hx
    rw [hg, ← hx]
  subst hu
  refine ⟨ad, e, hc, ?_⟩
  rw [hg]
  exact h.2 _ (List.getElem_mem _)

theorem below_call {B : Nat} {a W w1 : World} (h : Below B a W) (hb : Below W.heap.size W w1) (hB : B ≤ W.heap.size) : Below B a w1 := h.trans (hb.mono hB)

theorem own_below {w w' : World} {base : Nat} {e : TypeId} {size : Nat} {v : Value} {n : Nat} {xs : List Value} (h : w.ownsRow base e size v n xs) (hb : Below w.heap.size w w') : w'.ownsRow base e size v n xs :=
  h.kept (row := none) ⟨hb.os, hb.tape, hb.output, hb.size, fun i hi _ => hb.block i hi⟩ (by
    rcases hv : v.ownBlock with _ | g
    · exact .inl rfl
    · exact .inr (by simp))

theorem wpList_append_reads {P : Program} (w : World) {ops : Array Oper} {rest : List Oper} {o : Oper} {a : Act} {Q : Exit → Act → World → Prop} (hgd : o.guard = none) (s x : Operand) (t : TypeId)
    (ho : o.op = .call { callee := .builtin .append, args := #[s, x], argTypes := #[t, t] })
    (base : Nat) (e : TypeId) (i : TypeInfo) (z : Value) (size bytes : Nat) (ht : P.underlying t = some (.slice e)) (hi : P.info? e = some i) (hz : i.zero = some z)
    (hsize : i.size = size) (hby : i.bytes = bytes) (hzs : z.cells.size = size) (hsz : 0 < size)
    (v : Value) (n : Nat) (xs : List Value) (hs : a.eval s = v) (hown : w.ownsRow base e size v n xs)
    (A : Option Addr) (m c : Nat) (news : List Value) (hx : a.eval x = .slice A m c) (hA : A = none → c = 0) (hr : Reads w size A m news) (h1 : ∀ u ∈ news, u.oneCell' = true)
    (h63 : n + m ≤ maxLen) (hbytes : (n + m) * bytes ≤ 140737488355328) (hbase : base ≤ w.heap.size)
    (h : ∀ v' w', w'.ownsRow base e size v' (n + m) (xs ++ news) → w.grownBy w' v.ownBlock → (v' = .slice none 0 0 ↔ v = .slice none 0 0 ∧ m = 0) → wpList P ops Q rest (a.put o.dst v') w') : wpList P ops Q (o :: rest) a w := by
  cases A with
  | none =>
    have hc := hA rfl
    subst hc
    have hm : m = 0 := by
      rcases Nat.eq_zero_or_pos m with h0 | h0
      · exact h0
      · obtain ⟨ad, e, _⟩ := hr.2 h0
        cases e
    subst hm
    have hn : news = [] := List.eq_nil_of_length_eq_zero (by rw [hr.1]; simp)
    subst hn
    refine wpList_append_own_none hgd s x t ho base e i size ht hi v n xs hs hown hx ?_
    exact h v w (by simpa using hown) ⟨rfl, rfl, rfl, Nat.le_refl _, fun _ _ _ => rfl⟩ (by simp)
  | some ad =>
    refine wpList_append_own w hgd s x t ho base e i z size bytes ht hi hz hsize hby hzs hsz v n xs hs hown ad m c news hx hr.1 ?_ h1 h63 hbytes hbase h
    intro j u hj
    have hm : 0 < m := by
      rcases Nat.eq_zero_or_pos m with h0 | h0
      · subst h0
        have hn : news = [] := List.eq_nil_of_length_eq_zero (by rw [hr.1]; simp)
        subst hn
        simp at hj
      · exact h0
    obtain ⟨ad', e, _, hc⟩ := hr.2 hm
    injection e with e
    subst e
    exact hc j u hj

theorem reads_lit (w : World) (cs : Array Value) (e : TypeId) : Reads (w.alloc (.cells cs e)) 1 (some ⟨w.heap.size, 0, none⟩) cs.size cs.toList := by
  refine ⟨by simp, fun _ => ⟨_, rfl, by simp, fun j u hj => ?_⟩⟩
  have hb : (w.alloc (.cells cs e)).heap[w.heap.size]? = some (.cells cs e (0, 0)) := by
    show (w.heap.push _)[w.heap.size]? = _
    simp
  exact World.news_of_block hb j u hj

theorem bys_one (xs : List Int) : ∀ u ∈ bys xs, u.oneCell' = true := by
  intro u hu
  obtain ⟨x, _, rfl⟩ := List.mem_map.1 hu
  rfl

theorem convert_bytes {P : Program} {w : World} {A : Option Addr} {n : Nat} {xs : List Int} (h : BReads w A n xs) (cap : Nat) (src e : TypeId) (hs : P.underlying src = some (.slice e)) (he : P.underlying e = some (.int .u8)) :
    ∀ dst, P.underlying dst = some .string → (convert src dst (.slice A n cap)).run P w = .ok (.string (strOfNums xs)) w := by
  intro dst hd
  cases A with
  | none =>
    have hl := h.length
    rw [run_convert_bytes_nil w src e hs he n cap dst hd]
    have hn : n = 0 := by
      rcases Nat.eq_zero_or_pos n with h0 | h0
      · exact h0
      · obtain ⟨ad, e, _⟩ := h.1.2 h0
        cases e
    have hx : xs = [] := List.eq_nil_of_length_eq_zero (by omega)
    subst hx
    rfl
  | some ad =>
    have hl : (loadCells ad n).run P w = .ok (xs.map (Value.int .u8)).toArray w := by
      have := run_loadCells_list (P := P) w ad (xs.map (Value.int .u8)) (fun j v hj => by
        have hn : 0 < n := by
          have := h.length
          rcases Nat.lt_or_ge j (xs.map (Value.int .u8)).length with h0 | h0
          · rw [List.length_map] at h0; omega
          · rw [List.getElem?_eq_none h0] at hj; cases hj
        obtain ⟨ad', e, _, hc⟩ := h.1.2 hn
        injection e with e
        subst e
        exact hc j v hj)
      simpa [h.length] using this
    rw [run_convert_bytes_string w src dst e _ n cap hs he hd, run_bytesToString w _ n cap xs hl, foldl_push_bytes]
    simp [strOfNums, ByteArray.empty, ByteArray.emptyWithCapacity]
    rfl

theorem BReads.below {w w' : World} {A : Option Addr} {n : Nat} {xs : List Int} (h : BReads w A n xs) (hb : Below w.heap.size w w') : BReads w' A n xs := ⟨h.1.below hb, h.2⟩
theorem BReads.alloc {w : World} {A : Option Addr} {n : Nat} {xs : List Int} (h : BReads w A n xs) (o : Obj) : BReads (w.alloc o) A n xs := ⟨h.1.alloc o, h.2⟩
theorem BReads.drew {w : World} {A : Option Addr} {n : Nat} {xs : List Int} (h : BReads w A n xs) : BReads w.drew A n xs := h
theorem BReads.drewN {w : World} {A : Option Addr} {n : Nat} {xs : List Int} (h : BReads w A n xs) (k : Nat) : BReads (w.drewN k) A n xs := h

def BOwns (w : World) (base : Nat) (e : TypeId) (A : Option Addr) (n cap : Nat) (xs : List Int) : Prop :=
  w.ownsRow base e 1 (.slice A n cap) n (bys xs) ∧ IsBytes xs ∧ (A = none → cap = 0)
section
variable {w w' : World} {base : Nat} {e : TypeId} {A : Option Addr} {n cap : Nat} {xs : List Int}
theorem BOwns.length (h : BOwns w base e A n cap xs) : xs.length = n := by have := h.1.1; simpa [bys] using this
theorem BOwns.reads (h : BOwns w base e A n cap xs) : BReads w A n xs := ⟨Reads.of_own h.1, h.2.1⟩
theorem BOwns.below (h : BOwns w base e A n cap xs) (hb : Below w.heap.size w w') : BOwns w' base e A n cap xs := ⟨own_below h.1 hb, h.2⟩
theorem BOwns.alloc (h : BOwns w base e A n cap xs) (o : Obj) : BOwns (w.alloc o) base e A n cap xs := ⟨h.1.alloc o, h.2⟩
theorem BOwns.drew (h : BOwns w base e A n cap xs) : BOwns w.drew base e A n cap xs := ⟨h.1, h.2⟩
theorem BOwns.nil (w : World) (base : Nat) (e : TypeId) : BOwns w base e none 0 0 [] := ⟨World.ownsRow_nil _ _ _ _, (fun _ h => by cases h), fun _ => rfl⟩
theorem BOwns.more {base' : Nat} (h : BOwns w base e A n cap xs) (hb : base' ≤ base) : BOwns w base' e A n cap xs := by
  refine ⟨⟨h.1.1, ?_⟩, h.2⟩
  rcases h.1.2 with h0 | ⟨g, c, cur, h1, h2, h3⟩
  · exact .inl h0
  · exact .inr ⟨g, c, cur, h1, by omega, h3⟩
end
theorem BOwns.lit (w : World) (base : Nat) (e : TypeId) (xs : List Int) (g n : Nat) (hx : IsBytes xs) (hg : w.heap.size = g) (hn : xs.length = n) (hb : base ≤ g) (hl : n ≤ 1000000) :
    BOwns (w.alloc (.cells (bys xs).toArray e)) base e (some ⟨g, 0, none⟩) n n xs := by
  subst hg hn
  refine ⟨?_, hx, fun h => by cases h⟩
  have := World.ownsRow_lit (base := base) (e := e) (size := 1) w (bys xs).toArray xs.length hb (by unfold maxLen; omega) (by simp [bys])
  simpa using this
theorem BReads.lit (w : World) (e : TypeId) (xs : List Int) (g n : Nat) (hx : IsBytes xs) (hg : w.heap.size = g) (hn : xs.length = n) : BReads (w.alloc (.cells (bys xs).toArray e)) (some ⟨g, 0, none⟩) n xs := by
  subst hg hn
  have h := reads_lit w (bys xs).toArray e
  simp [bys] at h
  exact ⟨by simpa [bys] using h, hx⟩

theorem append_bytes {P : Program} (w : World) {ops : Array Oper} {rest : List Oper} {o : Oper} {a : Act} {Q : Exit → Act → World → Prop} (hgd : o.guard = none) (s x : Operand) (t : TypeId)
    (ho : o.op = .call { callee := .builtin .append, args := #[s, x], argTypes := #[t, t] })
    (base : Nat) (e : TypeId) (hrow : (P.info? e).map (fun i => (i.zero, i.size, i.bytes)) = some (some (.int .u8 0), 1, 1)) (ht : P.underlying t = some (.slice e))
    (A : Option Addr) (n cap : Nat) (xs : List Int) (hs : a.eval s = .slice A n cap) (hown : BOwns w base e A n cap xs)
    (A' : Option Addr) (m c : Nat) (ys : List Int) (hx : a.eval x = .slice A' m c) (hA : A' = none → c = 0) (hr : BReads w A' m ys)
    (hbd : n + m ≤ 140737488355328) (hbase : base ≤ w.heap.size)
    (h : ∀ A2 cap2 w', BOwns w' base e A2 (n + m) cap2 (xs ++ ys) → Below base w w' → wpList P ops Q rest (a.put o.dst (.slice A2 (n + m) cap2)) w') : wpList P ops Q (o :: rest) a w := by
  obtain ⟨i0, hi, hz0, hz1, hz2⟩ := info_parts hrow
  refine wpList_append_reads w hgd s x t ho base e i0 (.int .u8 0) 1 1 ht hi hz0 hz1 hz2 rfl (by decide) _ n (bys xs) hs hown.1 A' m c (bys ys) hx hA hr.1 (bys_one _) (by unfold maxLen; omega) (by omega) hbase ?_
  intro v' w' ho' hg hiff
  have hb : Below base w w' := (Below.refl _ _).grown hg hbase (fun k hk => (hown.1.lt k hk).1)
  have hbs : IsBytes (xs ++ ys) := fun z hz => by
    rcases List.mem_append.1 hz with hz | hz
    · exact hown.2.1 z hz
    · exact hr.2 z hz
  have hm : bys xs ++ bys ys = bys (xs ++ ys) := by simp [bys]
  rw [hm] at ho'
  rcases ho'.2 with ⟨hv, hn⟩ | ⟨g, c2, cur, hv, h2⟩
  · subst hv
    have := h none 0 w' (by rw [hn]; rw [hn] at ho'; exact ⟨ho', hbs, fun _ => rfl⟩) hb
    rw [hn] at this
    exact this
  · subst hv
    exact h _ c2 w' ⟨ho', hbs, fun h => by cases h⟩ hb

theorem str_inj {xs ys : List Int} (hx : IsBytes xs) (hy : IsBytes ys) : ((strOfNums xs).toList == (strOfNums ys).toList) = (xs == ys) := by
  rw [Bool.eq_iff_iff, beq_iff_eq, beq_iff_eq, Lib.strOfNums_toList, Lib.strOfNums_toList]
  refine ⟨fun h => ?_, fun h => by rw [h]⟩
  induction xs generalizing ys with
  | nil => cases ys with
    | nil => rfl
    | cons y ys => cases h
  | cons x xs ih => cases ys with
    | nil => cases h
    | cons y ys =>
      simp only [Lib.bytesOf, List.map_cons, List.cons.injEq] at h
      have b1 := hx x (List.mem_cons_self ..)
      have b2 := hy y (List.mem_cons_self ..)
      have e1 : x = y := by
        have h1 := congrArg UInt8.toNat h.1
        simp only [UInt8.toNat_ofNat'] at h1
        omega
      rw [e1, ih (fun z hz => hx z (List.mem_cons_of_mem _ hz)) (fun z hz => hy z (List.mem_cons_of_mem _ hz)) h.2]

theorem keep_at {B : Nat} {W w1 : World} (hb : Below B W w1) (b : Nat) (h : b < B) : ∀ o, w1.cell? ⟨b, o, none⟩ = W.cell? ⟨b, o, none⟩ := fun o => hb.cell (p := ⟨b, o, none⟩) h

section
variable {a w w' : World} {row : Option Nat} {g : Nat}
theorem only_refl (w : World) (row : Option Nat) : w.grownBy w row := ⟨rfl, rfl, rfl, Nat.le_refl _, fun _ _ _ => rfl⟩
theorem only_setCell (h : a.grownBy w (some g)) {p : Addr} (hp : p.block = g ∨ a.heap.size ≤ p.block) (u : Value) : a.grownBy (w.setCell p u) (some g) :=
  ⟨h.os, h.tape, h.output, by simpa [World.setCell] using h.size, fun i hi hne => (Below.heap_setCell w p u i (by
    rintro rfl
    rcases hp with hp | hp
    · exact hne (by rw [hp])
    · omega)).trans (h.block i hi hne)⟩
theorem BOwns.only {base : Nat} {e : TypeId} {A : Option Addr} {n cap : Nat} {xs : List Int} (h : BOwns a base e A n cap xs) (ho : a.grownBy w (some g)) (hg : g < base) : BOwns w base e A n cap xs := by
  refine ⟨h.1.kept ho ?_, h.2⟩
  rcases hv : (Value.slice A n cap).ownBlock with _ | b
  · exact .inl rfl
  · refine .inr (fun e => ?_)
    injection e with e
    have := (h.1.lt b hv).1
    omega
theorem BReads.only {A : Option Addr} {n : Nat} {xs : List Int} (h : BReads a A n xs) (ho : a.grownBy w (some g)) (hg : ∀ ad, A = some ad → ad.block ≠ g) : BReads w A n xs := by
  refine ⟨⟨h.1.1, fun hn => ?_⟩, h.2⟩
  obtain ⟨ad, e, hb, hc⟩ := h.1.2 hn
  refine ⟨ad, e, Nat.lt_of_lt_of_le hb ho.size, fun j u hu => ?_⟩
  rw [← hc j u hu]
  refine World.cell?_of_block (ho.block _ (by rw [block_of_add]; exact hb) (fun e' => ?_))
  injection e' with e'
  rw [block_of_add] at e'
  exact hg ad e e'
end

theorem BOwns.head {w : World} {base : Nat} {e : TypeId} {A : Option Addr} {n cap : Nat} {xs : List Int} (h : BOwns w base e A n cap xs) (hn : 0 < n) :
    ∃ g, A = some ⟨g, 0, none⟩ ∧ base ≤ g ∧ g < w.heap.size := by
  obtain ⟨g, c, hv, h1, h2⟩ := h.1.form hn
  injection hv with hv
  exact ⟨g, hv, h1, h2⟩
theorem bys_set (xs : List Int) (j : Nat) (u : Int) : (bys xs).set j (.int .u8 u) = bys (xs.set j u) := by simp [bys]
theorem BOwns.stored {w : World} {base : Nat} {e : TypeId} {g n cap : Nat} {xs : List Int} (h : BOwns w base e (some ⟨g, 0, none⟩) n cap xs) {j : Nat} (u : Int) (_hj : j < n) (hu : 0 ≤ u ∧ u ≤ 255) :
    BOwns (w.setCell ⟨g, j, none⟩ (.int .u8 u)) base e (some ⟨g, 0, none⟩) n cap (xs.set j u) := by
  have hl := h.length
  refine ⟨?_, fun z hz => ?_, h.2.2⟩
  · rw [← bys_set]
    exact (h.1.stored j (.int .u8 u)).1
  · rcases List.mem_or_eq_of_mem_set hz with hz | rfl
    · exact h.2.1 z hz
    · exact hu

def RowR (w : World) (size : Nat) (A : Option Addr) (n : Nat) (rows : List (List Value)) : Prop :=
  Reads w size A n rows.flatten ∧ (∀ r ∈ rows, r.length = size) ∧ rows.length = n
theorem flatten_at {size : Nat} : ∀ (rows : List (List Value)), (∀ r ∈ rows, r.length = size) → ∀ (k : Nat) (r : List Value), rows[k]? = some r → ∀ j, j < size → rows.flatten[k * size + j]? = r[j]?
  | [], _, k, r, h, _, _ => by simp at h
  | q :: rows, hs, k, r, h, j, hj => by
    have hq := hs q (List.mem_cons_self ..)
    match k, h with
    | 0, h =>
      simp at h
      subst h
      rw [List.flatten_cons, List.getElem?_append_left (by omega)]
      simp
    | k + 1, h =>
      rw [List.flatten_cons, List.getElem?_append_right (by rw [hq, Nat.add_mul]; omega), show (k + 1) * size + j - q.length = k * size + j from by rw [hq, Nat.add_mul]; omega]
      exact flatten_at rows (fun r hr => hs r (List.mem_cons_of_mem _ hr)) k r (by simpa using h) j hj
section
variable {w w' : World} {size n : Nat} {A : Option Addr} {rows : List (List Value)}
theorem RowR.below (h : RowR w size A n rows) (hb : Below w.heap.size w w') : RowR w' size A n rows := ⟨h.1.below hb, h.2⟩
theorem RowR.nil (w : World) (size : Nat) : RowR w size none 0 [] := ⟨Reads.none_, (fun _ h => by cases h), rfl⟩
theorem RowR.at_ (h : RowR w size A n rows) {k : Nat} (hk : k < n) : ∃ (ad : Addr) (r : List Value), A = some ad ∧ ad.block < w.heap.size ∧ rows[k]? = some r ∧ r.length = size ∧ ∀ j u, r[j]? = some u → w.cell? (ad.add (k * size + j)) = some u := by
  obtain ⟨h1, h2, h3⟩ := h
  obtain ⟨ad, e, hb, hc⟩ := h1.2 (by omega)
  have hg : rows[k]? = some (rows[k]'(by omega)) := List.getElem?_eq_getElem (by omega)
  have hr := h2 _ (List.getElem_mem (by omega : k < rows.length))
  refine ⟨ad, _, e, hb, hg, hr, fun j u hu => hc _ _ ?_⟩
  have hj : j < size := by
    rcases Nat.lt_or_ge j size with h' | h'
    · exact h'
    · rw [List.getElem?_eq_none (by omega)] at hu; cases hu
  rw [flatten_at rows h2 k _ hg j hj]
  exact hu
end
theorem part_at {w : World} {a : Addr} {i : Nat} {v : Value} (j : Nat) (h : w.cell? (a.add (i + (j + 1))) = some v) : w.cell? ⟨(a.add i).block, (a.add i).off + (j + 1), none⟩ = some v := by
  rw [← add_of_add] at h
  generalize a.add i = b at *
  simpa [Addr.add] using h

def blkOf (A : Option Addr) : Option Nat := A.map (·.block)
theorem blkOf_own (A : Option Addr) (n c : Nat) : (Value.slice A n c).ownBlock = blkOf A := by cases A <;> rfl
def sameOrNew (w : World) (A A' : Option Addr) : Prop := ∀ g, blkOf A' = some g → blkOf A = some g ∨ w.heap.size ≤ g
theorem sameOrNew.refl (w : World) (A : Option Addr) : sameOrNew w A A := fun _ h => .inl h
theorem sameOrNew.trans {w w1 : World} {A B C : Option Addr} (h : sameOrNew w A B) (h' : sameOrNew w1 B C) (hz : w.heap.size ≤ w1.heap.size) : sameOrNew w A C := fun g hg => by
  rcases h' g hg with h1 | h1
  · exact h g h1
  · exact .inr (by omega)
theorem grown_trans {a b c : World} {A B : Option Addr} (h : a.grownBy b (blkOf A)) (h' : b.grownBy c (blkOf B)) (hr : sameOrNew a A B) : a.grownBy c (blkOf A) :=
  ⟨h'.os.trans h.os, h'.tape.trans h.tape, h'.output.trans h.output, Nat.le_trans h.size h'.size, fun i hi hne => (h'.block i (Nat.lt_of_lt_of_le hi h.size) (fun e => by
    rcases hr i e.symm with h1 | h1
    · exact hne (by rw [h1])
    · omega)).trans (h.block i hi hne)⟩
theorem grown_drew {a b : World} {r : Option Nat} (h : a.grownBy b r) : a.grownBy b.drew r := ⟨h.os, h.tape, h.output, h.size, h.block⟩
theorem grown_pre {a b c : World} {r : Option Nat} (h : Below a.heap.size a b) (h' : b.grownBy c r) : a.grownBy c r :=
  ⟨h'.os.trans h.os, h'.tape.trans h.tape, h'.output.trans h.output, Nat.le_trans h.size h'.size, fun i hi hne => (h'.block i (Nat.lt_of_lt_of_le hi h.size) hne).trans (h.block i hi)⟩
theorem grown_below {B : Nat} {a b : World} {A : Option Addr} (h : a.grownBy b (blkOf A)) (hB : B ≤ a.heap.size) (hg : ∀ g, blkOf A = some g → B ≤ g) : Below B a b := (Below.refl _ _).grown h hB hg
theorem own_blk {w : World} {base : Nat} {e : TypeId} {A : Option Addr} {n cap : Nat} {xs : List Int} (h : BOwns w base e A n cap xs) : ∀ g, blkOf A = some g → base ≤ g := fun g hg => (h.1.lt g (by rw [blkOf_own]; exact hg)).1
theorem own_lt {w : World} {base : Nat} {e : TypeId} {A : Option Addr} {n cap : Nat} {xs : List Int} (h : BOwns w base e A n cap xs) : ∀ g, blkOf A = some g → g < w.heap.size := fun g hg => (h.1.lt g (by rw [blkOf_own]; exact hg)).2
theorem Reads.grown {w w' : World} {size n : Nat} {A : Option Addr} {xs : List Value} {r : Option Nat} (h : Reads w size A n xs) (hg : w.grownBy w' r) (hne : 0 < n → blkOf A ≠ r) : Reads w' size A n xs :=
  ⟨h.1, fun hn => by
    obtain ⟨ad, rfl, hb, hc⟩ := h.2 hn
    refine ⟨ad, rfl, Nat.lt_of_lt_of_le hb hg.size, fun j u hu => (World.cell?_of_block (hg.block _ (by rw [block_of_add]; exact hb) ?_)).trans (hc j u hu)⟩
    rw [block_of_add]
    exact hne hn⟩
theorem BReads.grown {w w' : World} {n : Nat} {A : Option Addr} {xs : List Int} {r : Option Nat} (h : BReads w A n xs) (hg : w.grownBy w' r) (hne : 0 < n → blkOf A ≠ r) : BReads w' A n xs := ⟨h.1.grown hg hne, h.2⟩
theorem BOwns.grown {w w' : World} {base : Nat} {e : TypeId} {A : Option Addr} {n cap : Nat} {xs : List Int} {r : Option Nat} (h : BOwns w base e A n cap xs) (hg : w.grownBy w' r) (hne : blkOf A = none ∨ blkOf A ≠ r) : BOwns w' base e A n cap xs :=
  ⟨h.1.kept hg (by rw [blkOf_own]; exact hne), h.2⟩

theorem append_bytes_at {P : Program} (w : World) {ops : Array Oper} {rest : List Oper} {o : Oper} {a : Act} {Q : Exit → Act → World → Prop} (hgd : o.guard = none) (s x : Operand) (t : TypeId)
    (ho : o.op = .call { callee := .builtin .append, args := #[s, x], argTypes := #[t, t] })
    (base : Nat) (e : TypeId) (hrow : (P.info? e).map (fun i => (i.zero, i.size, i.bytes)) = some (some (.int .u8 0), 1, 1)) (ht : P.underlying t = some (.slice e))
    (A : Option Addr) (n cap : Nat) (xs : List Int) (hs : a.eval s = .slice A n cap) (hown : BOwns w base e A n cap xs)
    (A' : Option Addr) (m c : Nat) (ys : List Int) (hx : a.eval x = .slice A' m c) (hr : BReads w A' m ys) (hm : 0 < m)
    (hbd : n + m ≤ 140737488355328) (hbase : base ≤ w.heap.size) (H : Nat) (hH : w.heap.size = H)
    (h : ∀ g cap2 w', BOwns w' base e (some ⟨g, 0, none⟩) (n + m) cap2 (xs ++ ys) → w.grownBy w' (blkOf A) → (blkOf A = some g ∨ g = H) → g < w'.heap.size → wpList P ops Q rest (a.put o.dst (.slice (some ⟨g, 0, none⟩) (n + m) cap2)) w') : wpList P ops Q (o :: rest) a w := by
  obtain ⟨i0, hi, hz0, hz1, hz2⟩ := info_parts hrow
  obtain ⟨ad, rfl, hb, hc⟩ := hr.1.2 hm
  refine wpList_append_lies w hgd s x t ho base e i0 (.int .u8 0) 1 1 ht hi hz0 hz1 hz2 rfl (by decide) _ n (bys xs) hs hown.1 ad m c (bys ys) hx hr.1.1 hc (bys_one _) hm (by unfold maxLen; omega) (by omega) hbase H hH ?_
  intro g cap2 w' ho' hg hiff hlt
  rw [blkOf_own] at hg hiff
  have hm : bys xs ++ bys ys = bys (xs ++ ys) := by simp [bys]
  rw [hm] at ho'
  exact h g cap2 w' ⟨ho', (fun z hz => by
    rcases List.mem_append.1 hz with hz | hz
    · exact hown.2.1 z hz
    · exact hr.2 z hz), fun h => by cases h⟩ hg hiff hlt

def Blk (w : World) (g : Nat) (t : TypeId) (cs : Array Value) : Prop := w.heap[g]? = some (.cells cs t (0, 0))
section
variable {w w' : World} {g : Nat} {t : TypeId} {cs : Array Value}
theorem Blk.lt (h : Blk w g t cs) : g < w.heap.size := by
  rcases Nat.lt_or_ge g w.heap.size with h' | h'
  · exact h'
  · unfold Blk at h
    rw [Array.getElem?_eq_none h'] at h
    cases h
theorem Blk.at_ (h : Blk w g t cs) (i : Nat) : w.cell? ⟨g, i, none⟩ = cs[i]? := cell_of_row w g i cs t (0, 0) h
theorem Blk.free (h : Blk w g t cs) (i : Nat) : w.frozen? ⟨g, i, none⟩ = false := by
  unfold Blk at h
  simp [World.frozen?, h]
theorem Blk.mk_ (w : World) (t : TypeId) (cs : Array Value) (k : Nat) (hk : w.heap.size = k) : Blk (w.alloc (.cells cs t)) k t cs := by
  subst hk
  show (w.heap.push _)[w.heap.size]? = _
  simp
theorem Blk.below {B : Nat} (h : Blk w g t cs) (hb : Below B w w') (hg : g < B) : Blk w' g t cs := (hb.block g hg).trans h
theorem Blk.call (h : Blk w g t cs) (hb : Below w.heap.size w w') : Blk w' g t cs := h.below hb h.lt
theorem Blk.alloc (h : Blk w g t cs) (o : Obj) : Blk (w.alloc o) g t cs := h.call ((Below.refl _ _).alloc (Nat.le_refl _) o)
theorem Blk.drew (h : Blk w g t cs) : Blk w.drew g t cs := h
theorem Blk.drewN (h : Blk w g t cs) (k : Nat) : Blk (w.drewN k) g t cs := h
theorem Blk.far (h : Blk w g t cs) {p : Addr} (hp : g ≠ p.block) (u : Value) : Blk (w.setCell p u) g t cs := (Below.heap_setCell w p u g hp).trans h
theorem Blk.put (h : Blk w g t cs) (i : Nat) (u : Value) : Blk (w.setCell ⟨g, i, none⟩ u) g t (cs.setIfInBounds i u) := by
  unfold Blk at h ⊢
  simp [World.setCell, Array.getElem?_modify, h]
theorem Blk.grown {row : Option Nat} (h : Blk w g t cs) (hg : w.grownBy w' row) (hne : some g ≠ row) : Blk w' g t cs := (hg.block g h.lt hne).trans h
end
end Go.Proofs.YtpbbemmjodegkaaDoor
