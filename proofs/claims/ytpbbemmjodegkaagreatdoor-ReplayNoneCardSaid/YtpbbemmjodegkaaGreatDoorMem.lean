/-
  Words for memory: a slice that reads as a list of cells.
-/
import Derived.Test.YtpbbemmjodegkaaGreatDoorRows
import Derived.WalkKit
import Derived.WalkSpells
import Derived.WalkLawsBesides
import Derived.Deep.AppendLies
import Derived.Deep.Draws
import Derived.Lib.Hide
import Derived.Lib.Bytes
import Derived.Laws.AppendOwnNone
namespace Go.Proofs.YtpbbemmjodegkaaGreatDoor
open Go.RowKit

theorem block_of_add (a : Addr) (n : Nat) : (a.add n).block = a.block := by unfold Addr.add; split <;> rfl
theorem add_of_add (a : Addr) (i j : Nat) : (a.add i).add j = a.add (i + j) := by
  unfold Addr.add
  by_cases hi : i = 0 <;> by_cases hj : j = 0 <;> simp [hi, hj, Nat.add_assoc]

/-- The slice (A, n) reads as the cells xs, in a block that lies. -/
def Reads (w : World) (size : Nat) (A : Option Addr) (n : Nat) (xs : List Value) : Prop :=
  xs.length = n * size ∧ (0 < n → ∃ ad, A = some ad ∧ ad.block < w.heap.size ∧ ∀ j u, xs[j]? = some u → w.cell? (ad.add j) = some u)

section
variable {w w' : World} {size n : Nat} {A : Option Addr} {xs : List Value}
theorem Reads.none_ : Reads w size A 0 [] := ⟨by simp, fun h => absurd h (by omega)⟩
theorem Reads.at_ {k : Nat} (h : Reads w 1 A n xs) (hk : k < n) : ∃ ad u, A = some ad ∧ ad.block < w.heap.size ∧ xs[k]? = some u ∧ w.cell? (ad.add k) = some u := by
  obtain ⟨ad, e, hb, hc⟩ := h.2 (by omega)
  have hl : k < xs.length := by have := h.1; omega
  exact ⟨ad, xs[k], e, hb, List.getElem?_eq_getElem hl, hc k _ (List.getElem?_eq_getElem hl)⟩
theorem Reads.below (h : Reads w size A n xs) (hb : Below w.heap.size w w') : Reads w' size A n xs :=
  ⟨h.1, fun hn => by
    obtain ⟨ad, e, hbl, hc⟩ := h.2 hn
    exact ⟨ad, e, Nat.lt_of_lt_of_le hbl hb.size, fun j u hu => (hb.cell (by rw [block_of_add]; exact hbl)).trans (hc j u hu)⟩⟩
theorem Reads.drew (h : Reads w size A n xs) : Reads w.drew size A n xs := h
theorem Reads.drewN (h : Reads w size A n xs) (k : Nat) : Reads (w.drewN k) size A n xs := h
theorem Reads.alloc (h : Reads w size A n xs) (o : Obj) : Reads (w.alloc o) size A n xs := h.below ((Below.refl _ _).alloc (Nat.le_refl _) _)
theorem Reads.cut (h : Reads w size A n xs) {k cap : Nat} (hk : k ≤ n) (hc : n ≤ cap) :
    Reads w size (if cap = k then A else A.map (·.add (k * size))) (n - k) (xs.drop (k * size)) := by
  refine ⟨by rw [List.length_drop, h.1, Nat.sub_mul], fun hn => ?_⟩
  obtain ⟨ad, rfl, hb, hcell⟩ := h.2 (by omega)
  rw [if_neg (by omega)]
  refine ⟨ad.add (k * size), rfl, by rw [block_of_add]; exact hb, fun j u hu => ?_⟩
  rw [add_of_add]
  exact hcell _ u (by rw [← hu, List.getElem?_drop])
theorem Reads.head (h : Reads w size A n xs) {k : Nat} (hk : k ≤ n) : Reads w size A k (xs.take (k * size)) := by
  refine ⟨by rw [List.length_take, h.1]; exact Nat.min_eq_left (Nat.mul_le_mul_right _ hk), fun hn => ?_⟩
  obtain ⟨ad, e, hb, hc⟩ := h.2 (by omega)
  exact ⟨ad, e, hb, fun j u hu => hc j u (by
    rw [List.getElem?_take] at hu
    split at hu
    · exact hu
    · cases hu)⟩
theorem Reads.of_own {base : Nat} {e : TypeId} {c : Nat} (h : w.ownsRow base e size (.slice A n c) n xs) : Reads w size A n xs := by
  refine ⟨h.1, fun hn => ?_⟩
  obtain ⟨g, cap, hv, _, hlt⟩ := h.form hn
  have hA : A = some ⟨g, 0, none⟩ := by injection hv
  subst hA
  exact ⟨_, rfl, hlt, h.cells (g := g) rfl⟩
end

/-- Bytes: numbers from 0 to 255. -/
def bys (xs : List Int) : List Value := xs.map (Value.int .u8)
def IsBytes (xs : List Int) : Prop := ∀ x ∈ xs, 0 ≤ x ∧ x ≤ 255
def BReads (w : World) (A : Option Addr) (n : Nat) (xs : List Int) : Prop := Reads w 1 A n (bys xs) ∧ IsBytes xs
theorem BReads.length {w : World} {A : Option Addr} {n : Nat} {xs : List Int} (h : BReads w A n xs) : xs.length = n := by have := h.1.1; simpa [bys] using this
/-- The number at a place: behind a name, so that the walk keeps it. -/
def nth (xs : List Int) (k : Nat) : Int := xs.getD k 0
theorem BReads.at_ {w : World} {A : Option Addr} {n : Nat} {xs : List Int} (h : BReads w A n xs) {k : Nat} (hk : k < n) :
    ∃ ad, A = some ad ∧ w.cell? (ad.add k) = some (.int .u8 (nth xs k)) ∧ 0 ≤ nth xs k ∧ nth xs k ≤ 255 := by
  obtain ⟨ad, u, e, _, hx, hc⟩ := h.1.at_ hk
  have hl := h.length
  have hg : nth xs k = xs[k]'(by omega) := by simp [nth, List.getD, List.getElem?_eq_getElem (show k < xs.length by omega)]
  have hu : u = .int .u8 (nth xs k) := by
    rw [bys, List.getElem?_map, List.getElem?_eq_getElem (by omega)] at hx
    simp only [Option.map_some, Option.some.injEq] at hx
    rw [hg, ← hx]
  subst hu
  refine ⟨ad, e, hc, ?_⟩
  rw [hg]
  exact h.2 _ (List.getElem_mem _)

/-- The check of bytes. -/
def chkStep (c x : Int) : Int := (c * 3 + x) % 256
def chk (xs : List Int) : Int := xs.foldl chkStep 85
theorem chkStep_bd (c x : Int) : 0 ≤ chkStep c x ∧ chkStep c x ≤ 255 := by unfold chkStep; omega
theorem chk_bd (xs : List Int) : 0 ≤ chk xs ∧ chk xs ≤ 255 := by
  unfold chk
  have : ∀ (l : List Int) (c : Int), 0 ≤ c → c ≤ 255 → 0 ≤ l.foldl chkStep c ∧ l.foldl chkStep c ≤ 255 := by
    intro l
    induction l with
    | nil => intro c h0 h1; exact ⟨h0, h1⟩
    | cons x l ih => intro c h0 h1; exact ih _ (chkStep_bd c x).1 (chkStep_bd c x).2
  exact this xs 85 (by omega) (by omega)
theorem chk_snoc (xs : List Int) (k : Nat) (hk : k < xs.length) : chk (xs.take (k + 1)) = chkStep (chk (xs.take k)) (nth xs k) := by
  have hg : nth xs k = xs[k]'hk := by simp [nth, List.getD, List.getElem?_eq_getElem hk]
  rw [List.take_succ_eq_append_getElem hk, hg]
  unfold chk
  rw [List.foldl_append]
  rfl

theorem bcell {W w1 : World} (hb : Below W.heap.size W w1) : (∀ b o, b < W.heap.size → w1.cell? ⟨b, o, none⟩ = W.cell? ⟨b, o, none⟩) ∧ (∀ b o, b < W.heap.size → w1.frozen? ⟨b, o, none⟩ = W.frozen? ⟨b, o, none⟩) :=
  ⟨fun b o h => hb.cell (p := ⟨b, o, none⟩) h, fun b o h => hb.frozen (p := ⟨b, o, none⟩) h⟩

/-- Behind a call that only makes memory. -/
theorem below_call {B : Nat} {a W w1 : World} (h : Below B a W) (hb : Below W.heap.size W w1) (hB : B ≤ W.heap.size) : Below B a w1 := h.trans (hb.mono hB)

theorem own_below {w w' : World} {base : Nat} {e : TypeId} {size : Nat} {v : Value} {n : Nat} {xs : List Value} (h : w.ownsRow base e size v n xs) (hb : Below w.heap.size w w') : w'.ownsRow base e size v n xs :=
  h.kept (row := none) ⟨hb.os, hb.tape, hb.output, hb.size, fun i hi _ => hb.block i hi⟩ (by
    rcases hv : v.ownBlock with _ | g
    · exact .inl rfl
    · exact .inr (by simp))

/-- 'append(dst, src...)': dst the call's own, src whatever reads: nil, empty or not. -/
theorem wpList_append_reads {P : Program} (w : World) {ops : Array Oper} {rest : List Oper} {o : Oper} {a : Act} {Q : Exit → Act → World → Prop} (hgd : o.guard = none) (s x : Operand) (t : TypeId)
    (ho : o.op = .call { callee := .builtin .append, args := #[s, x], argTypes := #[t, t] })
    (base : Nat) (e : TypeId) (i : TypeInfo) (z : Value) (size bytes : Nat) (ht : P.underlying t = some (.slice e)) (hi : P.info? e = some i) (hz : i.zero = some z)
    (hsize : i.size = size) (hby : i.bytes = bytes) (hzs : z.cells.size = size) (hsz : 0 < size)
    (v : Value) (n : Nat) (xs : List Value) (hs : a.eval s = v) (hown : w.ownsRow base e size v n xs)
    (A : Option Addr) (m c : Nat) (news : List Value) (hx : a.eval x = .slice A m c) (hA : A = none → c = 0) (hr : Reads w size A m news) (h1 : ∀ u ∈ news, u.oneCell' = true)
    (h63 : n + m ≤ maxLen) (hbytes : (n + m) * bytes ≤ 140737488355328) (hbase : base ≤ w.heap.size)
    (h : ∀ v' w', w'.ownsRow base e size v' (n + m) (xs ++ news) → w.grownBy w' v.ownBlock → (v' = .slice none 0 0 ↔ v = .slice none 0 0 ∧ m = 0) → wpList P ops Q rest (a.put o.dst v') w') : wpList P ops Q (o :: rest) a w := by
  cases A with
  | none =>
    have hc := hA rfl
    subst hc
    have hm : m = 0 := by
      rcases Nat.eq_zero_or_pos m with h0 | h0
      · exact h0
      · obtain ⟨ad, e, _⟩ := hr.2 h0
        cases e
    subst hm
    have hn : news = [] := List.eq_nil_of_length_eq_zero (by rw [hr.1]; simp)
    subst hn
    refine wpList_append_own_none hgd s x t ho base e i size ht hi v n xs hs hown hx ?_
    exact h v w (by simpa using hown) ⟨rfl, rfl, rfl, Nat.le_refl _, fun _ _ _ => rfl⟩ (by simp)
  | some ad =>
    refine wpList_append_own w hgd s x t ho base e i z size bytes ht hi hz hsize hby hzs hsz v n xs hs hown ad m c news hx hr.1 ?_ h1 h63 hbytes hbase h
    intro j u hj
    have hm : 0 < m := by
      rcases Nat.eq_zero_or_pos m with h0 | h0
      · subst h0
        have hn : news = [] := List.eq_nil_of_length_eq_zero (by rw [hr.1]; simp)
        subst hn
        simp at hj
      · exact h0
    obtain ⟨ad', e, _, hc⟩ := hr.2 hm
    injection e with e
    subst e
    exact hc j u hj

/-- A row that a literal has just laid: it reads as it was laid. -/
theorem reads_lit (w : World) (cs : Array Value) (e : TypeId) : Reads (w.alloc (.cells cs e)) 1 (some ⟨w.heap.size, 0, none⟩) cs.size cs.toList := by
  refine ⟨by simp, fun _ => ⟨_, rfl, by simp, fun j u hj => ?_⟩⟩
  have hb : (w.alloc (.cells cs e)).heap[w.heap.size]? = some (.cells cs e (0, 0)) := by
    show (w.heap.push _)[w.heap.size]? = _
    simp
  exact World.news_of_block hb j u hj

theorem bys_one (xs : List Int) : ∀ u ∈ bys xs, u.oneCell' = true := by
  intro u hu
  obtain ⟨x, _, rfl⟩ := List.mem_map.1 hu
  rfl

/-- A []byte as a string: the bytes. -/
theorem convert_bytes {P : Program} {w : World} {A : Option Addr} {n : Nat} {xs : List Int} (h : BReads w A n xs) (cap : Nat) (src e : TypeId) (hs : P.underlying src = some (.slice e)) (he : P.underlying e = some (.int .u8)) :
    ∀ dst, P.underlying dst = some .string → (convert src dst (.slice A n cap)).run P w = .ok (.string (strOfNums xs)) w := by
  intro dst hd
  cases A with
  | none =>
    have hl := h.length
    rw [run_convert_bytes_nil w src e hs he n cap dst hd]
    have hn : n = 0 := by
      rcases Nat.eq_zero_or_pos n with h0 | h0
      · exact h0
      · obtain ⟨ad, e, _⟩ := h.1.2 h0
        cases e
    have hx : xs = [] := List.eq_nil_of_length_eq_zero (by omega)
    subst hx
    rfl
  | some ad =>
    have hl : (loadCells ad n).run P w = .ok (xs.map (Value.int .u8)).toArray w := by
      have := run_loadCells_list (P := P) w ad (xs.map (Value.int .u8)) (fun j v hj => by
        have hn : 0 < n := by
          have := h.length
          rcases Nat.lt_or_ge j (xs.map (Value.int .u8)).length with h0 | h0
          · rw [List.length_map] at h0; omega
          · rw [List.getElem?_eq_none h0] at hj; cases hj
        obtain ⟨ad', e, _, hc⟩ := h.1.2 hn
        injection e with e
        subst e
        exact hc j v hj)
      simpa [h.length] using this
    rw [run_convert_bytes_string w src dst e _ n cap hs he hd, run_bytesToString w _ n cap xs hl, foldl_push_bytes]
    simp [strOfNums, ByteArray.empty, ByteArray.emptyWithCapacity]
    rfl

theorem BReads.below {w w' : World} {A : Option Addr} {n : Nat} {xs : List Int} (h : BReads w A n xs) (hb : Below w.heap.size w w') : BReads w' A n xs := ⟨h.1.below hb, h.2⟩
theorem BReads.alloc {w : World} {A : Option Addr} {n : Nat} {xs : List Int} (h : BReads w A n xs) (o : Obj) : BReads (w.alloc o) A n xs := ⟨h.1.alloc o, h.2⟩
theorem BReads.drew {w : World} {A : Option Addr} {n : Nat} {xs : List Int} (h : BReads w A n xs) : BReads w.drew A n xs := h
theorem BReads.drewN {w : World} {A : Option Addr} {n : Nat} {xs : List Int} (h : BReads w A n xs) (k : Nat) : BReads (w.drewN k) A n xs := h

/-- The slice is the call's own and holds these bytes. -/
def BOwns (w : World) (base : Nat) (e : TypeId) (A : Option Addr) (n cap : Nat) (xs : List Int) : Prop :=
  w.ownsRow base e 1 (.slice A n cap) n (bys xs) ∧ IsBytes xs ∧ (A = none → cap = 0)
section
variable {w w' : World} {base : Nat} {e : TypeId} {A : Option Addr} {n cap : Nat} {xs : List Int}
theorem BOwns.length (h : BOwns w base e A n cap xs) : xs.length = n := by have := h.1.1; simpa [bys] using this
theorem BOwns.reads (h : BOwns w base e A n cap xs) : BReads w A n xs := ⟨Reads.of_own h.1, h.2.1⟩
theorem BOwns.below (h : BOwns w base e A n cap xs) (hb : Below w.heap.size w w') : BOwns w' base e A n cap xs := ⟨own_below h.1 hb, h.2⟩
theorem BOwns.alloc (h : BOwns w base e A n cap xs) (o : Obj) : BOwns (w.alloc o) base e A n cap xs := ⟨h.1.alloc o, h.2⟩
theorem BOwns.drew (h : BOwns w base e A n cap xs) : BOwns w.drew base e A n cap xs := ⟨h.1, h.2⟩
theorem BOwns.nil (w : World) (base : Nat) (e : TypeId) : BOwns w base e none 0 0 [] := ⟨World.ownsRow_nil _ _ _ _, (fun _ h => by cases h), fun _ => rfl⟩
theorem BOwns.more {base' : Nat} (h : BOwns w base e A n cap xs) (hb : base' ≤ base) : BOwns w base' e A n cap xs := by
  refine ⟨⟨h.1.1, ?_⟩, h.2⟩
  rcases h.1.2 with h0 | ⟨g, c, cur, h1, h2, h3⟩
  · exact .inl h0
  · exact .inr ⟨g, c, cur, h1, by omega, h3⟩
end
theorem BOwns.lit (w : World) (base : Nat) (e : TypeId) (xs : List Int) (g n : Nat) (hx : IsBytes xs) (hg : w.heap.size = g) (hn : xs.length = n) (hb : base ≤ g) (hl : n ≤ 1000000) :
    BOwns (w.alloc (.cells (bys xs).toArray e)) base e (some ⟨g, 0, none⟩) n n xs := by
  subst hg hn
  refine ⟨?_, hx, fun h => by cases h⟩
  have := World.ownsRow_lit (base := base) (e := e) (size := 1) w (bys xs).toArray xs.length hb (by unfold maxLen; omega) (by simp [bys])
  simpa using this
theorem BReads.lit (w : World) (e : TypeId) (xs : List Int) (g n : Nat) (hx : IsBytes xs) (hg : w.heap.size = g) (hn : xs.length = n) : BReads (w.alloc (.cells (bys xs).toArray e)) (some ⟨g, 0, none⟩) n xs := by
  subst hg hn
  have h := reads_lit w (bys xs).toArray e
  simp [bys] at h
  exact ⟨by simpa [bys] using h, hx⟩

/-- 'append(b, src...)' over bytes: b the call's own. -/
theorem append_bytes {P : Program} (w : World) {ops : Array Oper} {rest : List Oper} {o : Oper} {a : Act} {Q : Exit → Act → World → Prop} (hgd : o.guard = none) (s x : Operand) (t : TypeId)
    (ho : o.op = .call { callee := .builtin .append, args := #[s, x], argTypes := #[t, t] })
    (base : Nat) (e : TypeId) (hrow : (P.info? e).map (fun i => (i.zero, i.size, i.bytes)) = some (some (.int .u8 0), 1, 1)) (ht : P.underlying t = some (.slice e))
    (A : Option Addr) (n cap : Nat) (xs : List Int) (hs : a.eval s = .slice A n cap) (hown : BOwns w base e A n cap xs)
    (A' : Option Addr) (m c : Nat) (ys : List Int) (hx : a.eval x = .slice A' m c) (hA : A' = none → c = 0) (hr : BReads w A' m ys)
    (hbd : n + m ≤ 140737488355328) (hbase : base ≤ w.heap.size)
    (h : ∀ A2 cap2 w', BOwns w' base e A2 (n + m) cap2 (xs ++ ys) → Below base w w' → wpList P ops Q rest (a.put o.dst (.slice A2 (n + m) cap2)) w') : wpList P ops Q (o :: rest) a w := by
  obtain ⟨i0, hi, hz0, hz1, hz2⟩ := info_parts hrow
  refine wpList_append_reads w hgd s x t ho base e i0 (.int .u8 0) 1 1 ht hi hz0 hz1 hz2 rfl (by decide) _ n (bys xs) hs hown.1 A' m c (bys ys) hx hA hr.1 (bys_one _) (by unfold maxLen; omega) (by omega) hbase ?_
  intro v' w' ho' hg hiff
  have hb : Below base w w' := (Below.refl _ _).grown hg hbase (fun k hk => (hown.1.lt k hk).1)
  have hbs : IsBytes (xs ++ ys) := fun z hz => by
    rcases List.mem_append.1 hz with hz | hz
    · exact hown.2.1 z hz
    · exact hr.2 z hz
  have hm : bys xs ++ bys ys = bys (xs ++ ys) := by simp [bys]
  rw [hm] at ho'
  rcases ho'.2 with ⟨hv, hn⟩ | ⟨g, c2, cur, hv, h2⟩
  · subst hv
    have := h none 0 w' (by rw [hn]; rw [hn] at ho'; exact ⟨ho', hbs, fun _ => rfl⟩) hb
    rw [hn] at this
    exact this
  · subst hv
    exact h _ c2 w' ⟨ho', hbs, fun h => by cases h⟩ hb

theorem str_inj {xs ys : List Int} (hx : IsBytes xs) (hy : IsBytes ys) : ((strOfNums xs).toList == (strOfNums ys).toList) = (xs == ys) := by
  rw [Bool.eq_iff_iff, beq_iff_eq, beq_iff_eq, Lib.strOfNums_toList, Lib.strOfNums_toList]
  refine ⟨fun h => ?_, fun h => by rw [h]⟩
  induction xs generalizing ys with
  | nil => cases ys with
    | nil => rfl
    | cons y ys => cases h
  | cons x xs ih => cases ys with
    | nil => cases h
    | cons y ys =>
      simp only [Lib.bytesOf, List.map_cons, List.cons.injEq] at h
      have b1 := hx x (List.mem_cons_self ..)
      have b2 := hy y (List.mem_cons_self ..)
      have e1 : x = y := by
        have h1 := congrArg UInt8.toNat h.1
        simp only [UInt8.toNat_ofNat'] at h1
        omega
      rw [e1, ih (fun z hz => hx z (List.mem_cons_of_mem _ hz)) (fun z hz => hy z (List.mem_cons_of_mem _ hz)) h.2]

end Go.Proofs.YtpbbemmjodegkaaGreatDoor
